/- The contract of the reference's Moved. -/
import Derived.Test.YtjoodpjndpdjnaaG3
namespace Go.Proofs.Ytjoodpjndpdjnaa
set_option linter.unusedVariables false
set_option linter.unusedSimpArgs false
open Go.RowKit

set_option maxRecDepth 100000 in
set_option maxHeartbeats 1000000 in
theorem rmoved_calls (A : Option Addr) (n c : Nat) (l : List V) (u v : Int) (w : World) (hS : Sl w A n c l) (hl : l.length ≤ 1000) (hu : -2000000000 ≤ u ∧ u ≤ 2000000000) (hv : -2000000000 ≤ v ∧ v ≤ 2000000000) (hw : allWithin 65536000 l = true) :
    Calls Try.prog 59 #[.slice A n c, vecV u v] w (RetVecs (movL l (-u) (-v)) w) := by
  have hn := hS.len
  subst hn
  have hcap := hS.cap
  have hbig := hS.big
  have HS := hid hS
  have HW := hid hw
  clear hS hw
  go_enter Try.func59, Try.ntmps59
  go_wp2
  go_loopw [5, 10] (fun s i wr => ∃ k : Nat, k ≤ l.length ∧ i = .int .i64 k ∧ Own wr (w.heap.size + 1) s (movL (l.take k) (-u) (-v)) ∧ Below w.heap.size w wr ∧ wr.cell? ⟨w.heap.size, 0, none⟩ = some (.int .i64 u) ∧ wr.cell? ⟨w.heap.size, 1, none⟩ = some (.int .i64 v)) (fun _ i _ => l.length - (intOf i).toNat)
  case atStart => exact ⟨0, Nat.zero_le _, rfl, Own.nil _ _, by go_grown, by go_simp, by go_simp⟩
  case round =>
    obtain ⟨k, hk, rfl, hown, hB, ku, kv⟩ := hrel
    obtain ⟨wo, rfl⟩ : ∃ wo : World, wo = wr := ⟨_, rfl⟩
    have HO := hid hown
    clear hown
    by_cases hlt : k < l.length
    · obtain ⟨b, off, rfl, hC⟩ := (HS.out.below hB).at_ (by intro h; subst h; simp at hlt)
      have hx := hC.x k hlt
      have hy := hC.y k hlt
      have hbo := hC.lt
      obtain ⟨_, _, _, _⟩ := withinB_iff.1 (allWithin_at HW.out hlt)
      have hwo := lt_of_cell ku
      clear hC
      go_wp2_with fail
      refine (sub_calls (px l k) (py l k) u v _).mono ?_
      rintro e w2 ⟨rfl, hb2⟩
      rw [wrap64_id (n := px l k - u) (by omega) (by omega), wrap64_id (n := py l k - v) (by omega) (by omega)]
      have HO2 := hid ((HO.out.alloc _).below hb2)
      have hB2 : Below w.heap.size w w2 := (hB.alloc hB.size _).trans (hb2.mono (by have := hB.size; simp; omega))
      have hz2 : w.heap.size + 1 ≤ w2.heap.size := by have := hb2.size; simp at this; omega
      have k1 : w2.cell? ⟨w.heap.size, 0, none⟩ = some (.int .i64 u) := keepCell hb2 (by go_simp)
      have k2 : w2.cell? ⟨w.heap.size, 1, none⟩ = some (.int .i64 v) := keepCell hb2 (by go_simp)
      have hz3 : w.heap.size < w2.heap.size := by omega
      clear hb2
      go_wp2_with (at_builtin; refine wpList_append_vecs rfl _ _ rfl (w.heap.size + 1) _ _ rfl (HO2.out.alloc _) w2.heap.size 0 1 1 [(px l k - u, py l k - v)] rfl rfl (cells_one (by go_simp) (by go_simp)) (by rw [movL_len, List.length_take, List.length_singleton]; omega) (by simp; omega) ?_; intro v' w1 ho1 hg1; have HO1 := hid ho1; have hb1 := Own.grown (HO2.out.alloc _) hg1 (by simp; omega); clear ho1 hg1)
      have hB1 : Below w.heap.size w w1 := (hB2.alloc (by omega) _).trans (hb1.mono (by omega))
      have m1 : w1.cell? ⟨w.heap.size, 0, none⟩ = some (.int .i64 u) := ((bcell hb1).1 _ _ (by omega)).trans (by go_simp)
      have m2 : w1.cell? ⟨w.heap.size, 1, none⟩ = some (.int .i64 v) := ((bcell hb1).1 _ _ (by omega)).trans (by go_simp)
      go_roundw
      case rel =>
        refine ⟨k + 1, hlt, by go_num, ?_, hB1, m1, m2⟩
        rw [List.take_succ_eq_append_getElem hlt, movL, List.map_append, List.map_singleton, px_lt hlt]
        exact HO1.out
      case measure => simp [intOf]; omega
    · have hge : l.length ≤ k := by omega
      obtain ⟨A', n', c', rfl, hs, hf⟩ := HO.out.sl
      have H2 : Hid (Sl wo A' n' c' (movL l (-u) (-v))) := by rwa [List.take_of_length_le hge] at hs
      have HF := hid hf
      clear hs hf HO
      go_wp2
      go_returns
      exact ⟨_, _, _, rfl, H2.out, fun b off e => by have := HF.out b off e; omega, hB⟩

end Go.Proofs.Ytjoodpjndpdjnaa
