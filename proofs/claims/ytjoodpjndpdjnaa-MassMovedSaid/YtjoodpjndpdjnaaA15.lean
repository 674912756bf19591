/- The contract of the reference's Area. -/
import Derived.Test.YtjoodpjndpdjnaaA14
namespace Go.Proofs.Ytjoodpjndpdjnaa
set_option linter.unusedVariables false
set_option linter.unusedSimpArgs false
open Go.RowKit

def trap (l : List V) (k : Nat) : Int := (px l k - px l ((k + 1) % l.length)) * (py l k + py l ((k + 1) % l.length))
def rareaTo (l : List V) : Nat → Int
  | 0 => 0
  | k + 1 => rareaTo l k + trap l k
theorem trap_bd {l : List V} (hw : allWithin 65536000 l = true) {k : Nat} (hk : k < l.length) : -17179869184000000 ≤ trap l k ∧ trap l k ≤ 17179869184000000 := by
  obtain ⟨_, _, _, _⟩ := withinB_iff.1 (allWithin_at hw hk)
  obtain ⟨_, _, _, _⟩ := withinB_iff.1 (allWithin_at hw (show (k + 1) % l.length < l.length from Nat.mod_lt _ (by omega)))
  have m1 := mul_bd (x := px l k - px l ((k + 1) % l.length)) (y := py l k + py l ((k + 1) % l.length)) (M := 131072000) (N := 131072000) (by omega) (by omega) (by omega) (by omega)
  unfold trap
  omega
theorem rareaTo_bd {l : List V} (hw : allWithin 65536000 l = true) (k : Nat) (hk : k ≤ l.length) : -17179869184000000 * k ≤ rareaTo l k ∧ rareaTo l k ≤ 17179869184000000 * k := by
  induction k with
  | zero => simp [rareaTo]
  | succ k ih =>
    have h1 := ih (by omega)
    have h2 := trap_bd hw (k := k) (by omega)
    simp only [rareaTo]
    omega

set_option maxRecDepth 100000 in
set_option maxHeartbeats 1000000 in
theorem rarea_calls (A : Option Addr) (n c : Nat) (l : List V) (w : World) (hS : Sl w A n c l) (hw : allWithin 65536000 l = true) (h8 : l.length ≤ 8) (h0 : 0 < l.length) :
    Calls Try.prog 21 #[.slice A n c] w (Ret (.int .i64 (rareaTo l l.length)) w) := by
  obtain ⟨b, off, rfl, hC⟩ := hS.at_ (by intro h; subst h; simp at h0)
  have hn := hS.len
  subst hn
  have hb2 := hC.lt
  have hcap := hS.cap
  have HC := hid hC
  have HW := hid hw
  clear hS hC hw
  go_enter Try.func21, Try.ntmps21
  go_wp2
  go_loopw [3, 9] (fun s i wr => ∃ k : Nat, k ≤ l.length ∧ i = .int .i64 k ∧ s = .int .i64 (rareaTo l k) ∧ Below w.heap.size w wr) (fun _ i _ => l.length - (intOf i).toNat)
  case atStart => exact ⟨0, Nat.zero_le _, rfl, rfl, Below.refl _ _⟩
  case round =>
    obtain ⟨k, hk, rfl, rfl, hB⟩ := hrel
    obtain ⟨wo, rfl⟩ : ∃ wo : World, wo = wr := ⟨_, rfl⟩
    obtain ⟨r1, r2⟩ := rareaTo_bd HW.out k hk
    by_cases hlt : k < l.length
    · have hj : (k + 1) % l.length < l.length := Nat.mod_lt _ (by omega)
      have hji : ((k : Int) + 1) % (l.length : Int) < (l.length : Int) := Int.emod_lt_of_pos _ (by omega)
      have hj0 : 0 ≤ ((k : Int) + 1) % (l.length : Int) := Int.emod_nonneg _ (by omega)
      obtain ⟨t1, t2⟩ := trap_bd HW.out hlt
      obtain ⟨q1, q2, q3, q4⟩ := withinB_iff.1 (allWithin_at HW.out hlt)
      obtain ⟨q5, q6, q7, q8⟩ := withinB_iff.1 (allWithin_at HW.out hj)
      have t3 : -17179869184000000 ≤ (px l k - px l ((k + 1) % l.length)) * (py l k + py l ((k + 1) % l.length)) := t1
      have t4 : (px l k - px l ((k + 1) % l.length)) * (py l k + py l ((k + 1) % l.length)) ≤ 17179869184000000 := t2
      have hCo := HC.out.below hB
      have hx := hCo.x k hlt
      have hy := hCo.y k hlt
      have hx2 := hCo.x _ hj
      have hy2 := hCo.y _ hj
      have hbo := hCo.lt
      clear hCo
      go_wp2
      go_roundw
      case rel => exact ⟨k + 1, hlt, by go_num, by rw [rareaTo]; rfl, (hB.alloc hB.size _).alloc (by have := hB.size; simp; omega) _⟩
      case measure => simp [intOf]; omega
    · have hge : l.length ≤ k := by omega
      go_wp2
      go_returns
      exact ret_int (by rw [show l.length = k by omega]) hB

end Go.Proofs.Ytjoodpjndpdjnaa
