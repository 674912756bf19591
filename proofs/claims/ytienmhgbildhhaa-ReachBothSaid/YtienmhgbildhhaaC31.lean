/- Parts of a proof: contracts and laws. -/
import Derived.Test.YtienmhgbildhhaaC26
import Derived.Test.YtienmhgbildhhaaC10
import Derived.Test.YtienmhgbildhhaaC30
namespace Go.Proofs.Ytienmhgbildhhaa
section
set_option linter.unusedVariables false
set_option linter.unusedSimpArgs false
open Go.RowKit
def nmeetB (a b : List V) : Bool := decide (bothE a b = 0) && ninB (minusL a b)
set_option maxRecDepth 100000 in
set_option maxHeartbeats 4000000 in
theorem nmeet_calls (A B : Option Addr) (n c n' c' : Nat) (a b : List V) (w : World) (hS : Sl w A n c a) (hM : Sl w B n' c' b) :
    Calls Try.prog 67 #[.slice A n c, .slice B n' c'] w (Ret (.tuple #[.bool (nmeetB a b), .int .i64 (bothE a b)]) w) := by
  have HMN := hid (nminus_calls A B n c n' c' a b w hS hM)
  obtain ⟨mw, ml⟩ := minus_bd a b
  have HAZ : Hid (nmeetB a b = (decide (bothE a b = 0) && ninB (minusL a b))) := rfl
  obtain ⟨m, hm⟩ : ∃ m, m = minusL a b := ⟨_, rfl⟩
  obtain ⟨E, hE⟩ : ∃ E, E = bothE a b := ⟨_, rfl⟩
  obtain ⟨Z, hZ⟩ : ∃ Z, Z = nmeetB a b := ⟨_, rfl⟩
  rw [← hm, ← hE] at HMN HAZ
  rw [← hm] at mw ml
  rw [← hZ] at HAZ
  rw [← hZ, ← hE]
  have HMW := hid mw
  clear hm hE hZ hS hM mw
  go_enter Try.func67, Try.ntmps67
  go_wp2_with fail
  refine HMN.out.mono ?_
  rintro e w1 ⟨Am, nm, cm, rfl, s1, f1, hb1⟩
  have hnm := s1.len
  subst hnm
  have HS1 := hid s1
  clear s1 f1 HMN
  by_cases hE0 : E = 0
  · have HZ : Hid (Z = ninB m) := by show _ = _; rw [HAZ.out, hE0]; simp
    subst hE0
    have HIN := hid (ninside_calls Am m.length cm m w1 HS1.out HMW.out (by omega))
    clear HAZ
    go_wp2_with fail
    refine HIN.out.mono ?_
    rintro e w2 ⟨rfl, hb2⟩
    have hB2 := keepBelow hb2 hb1
    clear HS1 hb1 hb2 HIN
    go_wp2
    refine bodyPost_ret (v := .tuple #[.bool (ninB m), .int .i64 0]) (by simp [results, Try.results67, go_sem]) rfl ⟨by rw [HZ.out], hB2⟩
  · have HZ : Hid (Z = false) := by show _ = _; rw [HAZ.out]; simp [hE0]
    have hne : (E != 0) = true := by simp [hE0]
    clear HAZ hE0
    go_wp2
    refine bodyPost_ret (v := .tuple #[.bool false, .int .i64 E]) (by simp [results, Try.results67, go_sem]) rfl ⟨by rw [HZ.out], hb1⟩
end
end Go.Proofs.Ytienmhgbildhhaa
