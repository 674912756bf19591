/- Parts of a proof: contracts and laws. -/
import Derived.Test.YtbajmekmpgfpeaaB28
import Derived.Test.YtbajmekmpgfpeaaB11
import Derived.BigRegion
import Derived.Deep.DeepCutAuto
namespace Go.Proofs.Ytbajmekmpgfpeaa
section
set_option linter.unusedVariables false
set_option linter.unusedSimpArgs false
open Go.RowKit
theorem BdAt.far {w : World} {g : Nat} {b : Bd} {A : Option Addr} {n c : Nat} (h : BdAt w g b A n c) (k o : Nat) (v : Value) (hne : k ≠ g) : BdAt (w.setCell ⟨k, o, none⟩ v) g b A n c :=
  ⟨far1 hne h.c0, far1 hne h.c1, far1 hne h.c2, far1 hne h.c3, far1 hne h.c4, far1 hne h.c5, far1 hne h.c6, far1 hne h.c7, far1 hne h.c8, far1 hne h.c9, far1 hne h.c10, far1 hne h.c11, far1 hne h.c12, fun j => by rw [World.frozen?_setCell]; exact h.free j⟩
set_option maxRecDepth 100000 in
set_option maxHeartbeats 2000000 in
set_option maxRecDepth 100000 in
set_option maxHeartbeats 4000000 in
theorem same_calls (b : Bd) (A A' : Option Addr) (n c n' c' : Nat) (l : List V) (w : World) (hS : Sl w A n c l) (hS' : Sl w A' n' c' l) : Calls Try.prog 32 #[bodyV b A n c, bodyV b A' n' c'] w (Ret (.bool true) w) := by
  obtain ⟨W, hW⟩ : ∃ W, W = (w.alloc (.cells #[.int .i64 b.px, .int .i64 b.py, .int .i64 b.vx, .int .i64 b.vy, .int .i64 b.ang, .int .i64 b.spin, .int .i64 b.mass, .int .i64 b.iner, .int .i64 b.bounce, .int .i64 b.rub, .slice A n c, .bool b.asleep, .int .i64 b.calm] 27)).alloc (.cells #[.int .i64 b.px, .int .i64 b.py, .int .i64 b.vx, .int .i64 b.vy, .int .i64 b.ang, .int .i64 b.spin, .int .i64 b.mass, .int .i64 b.iner, .int .i64 b.bounce, .int .i64 b.rub, .slice A' n' c', .bool b.asleep, .int .i64 b.calm] 27) := ⟨_, rfl⟩
  have HA := hid (show BdAt W w.heap.size b A n c by rw [hW]; exact (BdAt.here w b A n c _).alloc _)
  have HA' := hid (show BdAt W (w.heap.size + 1) b A' n' c' by rw [hW]; have := BdAt.here (w.alloc (.cells #[.int .i64 b.px, .int .i64 b.py, .int .i64 b.vx, .int .i64 b.vy, .int .i64 b.ang, .int .i64 b.spin, .int .i64 b.mass, .int .i64 b.iner, .int .i64 b.bounce, .int .i64 b.rub, .slice A n c, .bool b.asleep, .int .i64 b.calm] 27)) b A' n' c' 27; simpa using this)
  have hB : Below w.heap.size w W := by rw [hW]; go_grown
  have HS := hid (hS.below hB)
  have HS' := hid (hS'.below hB)
  obtain ⟨k0, k1, k2, k3, k4, k5, k6, k7, k8, k9, k10, k11, k12, _⟩ := HA.out
  obtain ⟨m0, m1, m2, m3, m4, m5, m6, m7, m8, m9, m10, m11, m12, _⟩ := HA'.out
  have hl1 := HA.out.lt
  have hl2 := HA'.out.lt
  clear hS hS'
  go_enter Try.func32, Try.ntmps32
  go_upto_region 1 with fail
  rw [← hW]
  clear hW
  go_cut [5, 6] from 7 to 8 (fun p q wx => ∃ ga gb : Nat, p = .pointer (some ⟨ga, 0, none⟩) ∧ q = .pointer (some ⟨gb, 0, none⟩) ∧ ga ≠ gb ∧ W.heap.size ≤ ga ∧ W.heap.size ≤ gb ∧ BdAt wx ga b A n c ∧ BdAt wx gb b A' n' c' ∧ Below W.heap.size W wx)
  case first =>
    go_region
    all_goals
      clear k0 k1 k2 k3 k4 k5 k6 k7 k8 k9 k10 k11 k12 m0 m1 m2 m3 m4 m5 m6 m7 m8 m9 m10 m11 m12
      go_wp2_with fail
      go_meet
      refine ⟨_, _, rfl, rfl, by omega, by omega, by omega, ?_, ?_, by go_grown⟩
      · refine BdAt.drew ?_
        first
          | exact (BdAt.here W b A n c 27).alloc _
          | (have := BdAt.here (W.alloc (.cells #[.int .i64 b.px, .int .i64 b.py, .int .i64 b.vx, .int .i64 b.vy, .int .i64 b.ang, .int .i64 b.spin, .int .i64 b.mass, .int .i64 b.iner, .int .i64 b.bounce, .int .i64 b.rub, .slice A' n' c', .bool b.asleep, .int .i64 b.calm] 27)) b A n c 27; simpa using this)
      · refine BdAt.drew ?_
        first
          | exact (BdAt.here W b A' n' c' 27).alloc _
          | (have := BdAt.here (W.alloc (.cells #[.int .i64 b.px, .int .i64 b.py, .int .i64 b.vx, .int .i64 b.vy, .int .i64 b.ang, .int .i64 b.spin, .int .i64 b.mass, .int .i64 b.iner, .int .i64 b.bounce, .int .i64 b.rub, .slice A n c, .bool b.asleep, .int .i64 b.calm] 27)) b A' n' c' 27; simpa using this)
  case rest =>
    obtain ⟨ga, gb, rfl, rfl, hne, hga, hgb, h1, h2, hBc⟩ := hcut
    replace k10 := keepCell hBc k10
    replace m10 := keepCell hBc m10
    have hl3 := h1.lt
    have hl4 := h2.lt
    have n1 : ¬ ga = w.heap.size := by omega
    have n2 : ¬ w.heap.size = ga := by omega
    have n3 : ¬ gb = w.heap.size := by omega
    have n4 : ¬ w.heap.size = gb := by omega
    have n5 : ¬ ga = w.heap.size + 1 := by omega
    have n6 : ¬ w.heap.size + 1 = ga := by omega
    have n7 : ¬ gb = w.heap.size + 1 := by omega
    have n8 : ¬ w.heap.size + 1 = gb := by omega
    have n9 : ¬ gb = ga := by omega
    have u10 := h1.c10
    have uf := h1.free
    have v10 := h2.c10
    have vf := h2.free
    have H1 := hid h1
    have H2 := hid h2
    clear k0 k1 k2 k3 k4 k5 k6 k7 k8 k9 k11 k12 m0 m1 m2 m3 m4 m5 m6 m7 m8 m9 m11 m12 h1 h2
    go_wp2_with fail
    have hg1 : BdAt ((wc.setCell ⟨ga, 10, none⟩ (.slice none 0 0)).setCell ⟨gb, 10, none⟩ (.slice none 0 0)) ga b none 0 0 := (H1.out.set_slice (A' := none) (n' := 0) (c' := 0)).far gb 10 _ n9
    have hg2 : BdAt ((wc.setCell ⟨ga, 10, none⟩ (.slice none 0 0)).setCell ⟨gb, 10, none⟩ (.slice none 0 0)) gb b none 0 0 := (H2.out.far ga 10 _ hne).set_slice
    have hBe : Below W.heap.size W ((wc.setCell ⟨ga, 10, none⟩ (.slice none 0 0)).setCell ⟨gb, 10, none⟩ (.slice none 0 0)) := by go_grown
    have H1e := hid hg1
    have H2e := hid hg2
    have HSe := hid (HS.out.below hBe)
    have HSe' := hid (HS'.out.below hBe)
    clear hg1 hg2 H1 H2 u10 v10 k10 m10 uf vf
    refine (equal_calls _ _ _ _ _ _ l l _ HSe.out HSe'.out).mono ?_
    rintro e w5 ⟨rfl, hb5⟩
    rw [show decide (l = l) = true by simp]
    have g1 := keepBd hb5 H1e.out
    have g2 := keepBd hb5 H2e.out
    have hB5 : Below w.heap.size w w5 := hB.trans ((keepBelow hb5 hBe).mono hB.size)
    obtain ⟨k0, k1, k2, k3, k4, k5, k6, k7, k8, k9, k10, k11, k12, _⟩ := g1
    obtain ⟨m0, m1, m2, m3, m4, m5, m6, m7, m8, m9, m10, m11, m12, _⟩ := g2
    clear hb5 hBe HSe HSe' H1e H2e
    go_wp2
    go_returns
    exact ret_bool (by simp) hB5
end
end Go.Proofs.Ytbajmekmpgfpeaa
