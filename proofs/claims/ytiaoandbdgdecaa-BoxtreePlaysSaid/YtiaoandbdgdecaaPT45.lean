/- Parts of a proof: contracts and laws. -/
import Derived.Test.YtiaoandbdgdecaaPT37
import Derived.Test.YtiaoandbdgdecaaPT44
namespace Go.Proofs.Ytiaoandbdgdecaa
section
set_option linter.unusedVariables false
set_option linter.unusedSimpArgs false
open Go.RowKit
set_option maxRecDepth 100000 in
set_option maxHeartbeats 4000000 in
theorem tputbad_calls (g : Nat) (i : Int) (b1 b2 b3 b4 : Int) (hbad : i < 0 ∨ 256 ≤ i ∨ vldB ((b1, b2), (b3, b4)) = false) (w : World) : Calls Try.prog 10 #[.pointer (some ⟨g, 0, none⟩), .int .i64 i, bxV ((b1, b2), (b3, b4))] w (Ret (.int .i64 1) w) := by
  obtain ⟨W, hWw⟩ : ∃ W, W = w.alloc (.cells #[.int .i64 b1, .int .i64 b2, .int .i64 b3, .int .i64 b4] 32) := ⟨_, rfl⟩
  obtain ⟨gb, hgb⟩ : ∃ x, x = w.heap.size := ⟨_, rfl⟩
  have HB := hid (show Below w.heap.size w W by rw [hWw]; go_grown)
  have k_0 : W.cell? ⟨gb, 0, none⟩ = some (.int .i64 b1) := by rw [hWw, hgb]; go_simp
  have k_1 : W.cell? ⟨gb, 1, none⟩ = some (.int .i64 b2) := by rw [hWw, hgb]; go_simp
  have k_2 : W.cell? ⟨gb, 2, none⟩ = some (.int .i64 b3) := by rw [hWw, hgb]; go_simp
  have k_3 : W.cell? ⟨gb, 3, none⟩ = some (.int .i64 b4) := by rw [hWw, hgb]; go_simp
  have lb := lt_of_cell k_0
  by_cases h1 : i < 0
  · clear hbad
    go_enter Try.func10, Try.ntmps10
    go_upto_region 1 with fail
    rw [← hWw, ← hgb]
    clear hWw hgb
    go_wp2
    go_returns
    exact ⟨rfl, HB.out⟩
  · by_cases h2 : i ≥ 256
    · clear hbad
      go_enter Try.func10, Try.ntmps10
      go_upto_region 1 with fail
      rw [← hWw, ← hgb]
      clear hWw hgb
      go_wp2
      go_returns
      exact ⟨rfl, HB.out⟩
    · have hv : vldB ((b1, b2), (b3, b4)) = false := (hbad.resolve_left h1).resolve_left (by omega)
      have HV := hid (fun w => svalid_calls b1 b2 b3 b4 w)
      rw [hv] at HV
      clear hbad hv
      go_enter Try.func10, Try.ntmps10
      go_upto_region 1 with fail
      rw [← hWw, ← hgb]
      clear hWw hgb
      go_wp2_with fail
      refine (HV.out _).mono ?_
      rintro e w1 ⟨rfl, hb⟩
      have HB1 := hid (keepBelow hb HB.out)
      clear hb HB HV k_0 k_1 k_2 k_3 lb
      go_wp2
      go_returns
      exact ⟨rfl, HB1.out⟩
theorem tdropbad_calls (g : Nat) (i : Int) (hbad : i < 0 ∨ 256 ≤ i) (w : World) : Calls Try.prog 13 #[.pointer (some ⟨g, 0, none⟩), .int .i64 i] w (Ret (.int .i64 1) w) := by
  by_cases h1 : i < 0
  · clear hbad
    go_enter Try.func13, Try.ntmps13
    go_wp2
    go_returns
    exact ⟨rfl, Below.refl _ _⟩
  · have h2 : i ≥ 256 := by omega
    clear hbad
    go_enter Try.func13, Try.ntmps13
    go_wp2
    go_returns
    exact ⟨rfl, Below.refl _ _⟩
theorem tree_lv {w : World} {g : Nat} {D : Nat → Prop} {F : Nat → Option Bx} (h : TrA w g D F) {i : Nat} (hi : i < 256) :
    (F i = none ∧ w.cell? ⟨g, 1 + i, none⟩ = some (.pointer none)) ∨ ∃ b gl, F i = some b ∧ w.cell? ⟨g, 1 + i, none⟩ = some (.pointer (some ⟨gl, 0, none⟩)) ∧ w.cell? ⟨gl, 0, none⟩ = some (.int .i64 b.1.1) ∧ w.cell? ⟨gl, 1, none⟩ = some (.int .i64 b.1.2) ∧ w.cell? ⟨gl, 2, none⟩ = some (.int .i64 b.2.1) ∧ w.cell? ⟨gl, 3, none⟩ = some (.int .i64 b.2.2) := by
  obtain ⟨s, T, m, hW, h1, h2, h3⟩ := h
  rcases hF : F i with _ | b
  · have h4 := (bxO_not hW hi).1 ((h3 i).trans hF)
    have := m.lv i hi
    rw [h4] at this
    exact .inl ⟨rfl, this⟩
  · obtain ⟨gl, t, rfl, hlv, hmem⟩ := bxO_at hW ((h3 i).trans hF)
    obtain ⟨q1, q2, -, -⟩ := hW.root
    obtain ⟨C, -, d2, -⟩ := find_leaf t [] hmem q2 ⟨rfl, q1⟩
    have hn := m.nd gl _ d2
    have hc := m.lv i hi
    rw [hlv] at hc
    obtain ⟨⟨b1, b2⟩, b3, b4⟩ := b
    obtain ⟨c0, c1, c2, c3, -⟩ := hn.cells
    exact .inr ⟨_, gl, rfl, hc, c0, c1, c2, c3⟩
theorem tdropnone_calls {w : World} {g : Nat} {D : Nat → Prop} {F : Nat → Option Bx} (h : TrA w g D F) {i : Nat} (hi : i < 256) (hF : F i = none) :
    Calls Try.prog 13 #[.pointer (some ⟨g, 0, none⟩), .int .i64 (i : Nat)] w (Ret (.int .i64 4) w) := by
  have h0 : ¬ (i : Int) < 0 := by omega
  have h1 : ¬ (i : Int) ≥ 256 := by omega
  have h2 : (i : Int) < 256 := by omega
  rcases tree_lv h hi with ⟨-, c0⟩ | ⟨b, gl, q, -⟩
  · have lc := lt_of_cell c0
    clear h
    go_enter Try.func13, Try.ntmps13
    go_wp2
    go_returns
    exact ⟨rfl, Below.refl _ _⟩
  · rw [hF] at q; cases q
def RetGet (b : Bx) (z : Int) (w : World) (e : Ending) (w' : World) : Prop := e = .returned (.tuple #[.agg #[.int .i64 b.1.1, .int .i64 b.1.2, .int .i64 b.2.1, .int .i64 b.2.2], .int .i64 z]) ∧ Below w.heap.size w w'
set_option maxRecDepth 100000 in
set_option maxHeartbeats 4000000 in
theorem tget_calls {w : World} {g : Nat} {D : Nat → Prop} {F : Nat → Option Bx} (h : TrA w g D F) (i : Int) :
    Calls Try.prog 17 #[.pointer (some ⟨g, 0, none⟩), .int .i64 i] w (RetGet (if i < 0 ∨ 256 ≤ i then ((0, 0), (0, 0)) else (F i.toNat).getD ((0, 0), (0, 0))) (if i < 0 ∨ 256 ≤ i then 1 else match F i.toNat with | some _ => 0 | none => 4) w) := by
  obtain ⟨W, hWw⟩ : ∃ W, W = w.alloc (.cells #[.int .i64 0, .int .i64 0, .int .i64 0, .int .i64 0] 32) := ⟨_, rfl⟩
  obtain ⟨gb, hgb⟩ : ∃ x, x = w.heap.size := ⟨_, rfl⟩
  have hB := (show Below w.heap.size w W by rw [hWw]; go_grown)
  have HB := hid hB
  have k_0 : W.cell? ⟨gb, 0, none⟩ = some (.int .i64 0) := by rw [hWw, hgb]; go_simp
  have k_1 : W.cell? ⟨gb, 1, none⟩ = some (.int .i64 0) := by rw [hWw, hgb]; go_simp
  have k_2 : W.cell? ⟨gb, 2, none⟩ = some (.int .i64 0) := by rw [hWw, hgb]; go_simp
  have k_3 : W.cell? ⟨gb, 3, none⟩ = some (.int .i64 0) := by rw [hWw, hgb]; go_simp
  have kf : ∀ j, W.frozen? ⟨gb, j, none⟩ = false := fun j => by rw [hWw, hgb]; unfold World.frozen?; rw [heap_alloc_new]; simp
  have lb := lt_of_cell k_0
  have hgw : w.heap.size ≤ gb := Nat.le_of_eq hgb.symm
  have HGW := hid hgw
  have ht := TrA.below hB h
  clear h hB hgw
  by_cases h1 : i < 0
  · have HR : Hid (RetGet (if i < 0 ∨ 256 ≤ i then ((0, 0), (0, 0)) else (F i.toNat).getD ((0, 0), (0, 0))) (if i < 0 ∨ 256 ≤ i then 1 else match F i.toNat with | some _ => 0 | none => 4) w = RetGet ((0, 0), (0, 0)) 1 w) := by show _ = _; rw [if_pos (.inl h1), if_pos (.inl h1)]
    rw [HR.out]
    clear ht HR
    go_enter Try.func17, Try.ntmps17
    go_upto_region 1 with fail
    rw [← hWw, ← hgb]
    clear hWw hgb
    go_wp2
    refine bodyPost_ret (v := .tuple #[.agg #[.int .i64 0, .int .i64 0, .int .i64 0, .int .i64 0], .int .i64 1]) (by simp [results, Try.results17, go_sem, k_0, k_1, k_2, k_3, lb]) rfl ⟨rfl, ?_⟩
    have h0 := HGW.out
    have h1 := HB.out
    go_grown
  · by_cases h2 : i ≥ 256
    · have HR : Hid (RetGet (if i < 0 ∨ 256 ≤ i then ((0, 0), (0, 0)) else (F i.toNat).getD ((0, 0), (0, 0))) (if i < 0 ∨ 256 ≤ i then 1 else match F i.toNat with | some _ => 0 | none => 4) w = RetGet ((0, 0), (0, 0)) 1 w) := by show _ = _; rw [if_pos (.inr h2), if_pos (.inr h2)]
      rw [HR.out]
      clear ht HR
      go_enter Try.func17, Try.ntmps17
      go_upto_region 1 with fail
      rw [← hWw, ← hgb]
      clear hWw hgb
      go_wp2
      refine bodyPost_ret (v := .tuple #[.agg #[.int .i64 0, .int .i64 0, .int .i64 0, .int .i64 0], .int .i64 1]) (by simp [results, Try.results17, go_sem, k_0, k_1, k_2, k_3, lb]) rfl ⟨rfl, ?_⟩
      have h0 := HGW.out
      have h1 := HB.out
      go_grown
    · obtain ⟨k, hk⟩ : ∃ k : Nat, (k : Int) = i := ⟨i.toNat, by omega⟩
      have hk256 : k < 256 := by omega
      have hkt : i.toNat = k := by omega
      have HR : Hid (RetGet (if i < 0 ∨ 256 ≤ i then ((0, 0), (0, 0)) else (F i.toNat).getD ((0, 0), (0, 0))) (if i < 0 ∨ 256 ≤ i then 1 else match F i.toNat with | some _ => 0 | none => 4) w = RetGet ((F k).getD ((0, 0), (0, 0))) (match F k with | some _ => 0 | none => 4) w) := by show _ = _; rw [if_neg (by omega), if_neg (by omega), hkt]
      rw [HR.out]
      clear HR hkt
      subst hk
      rcases tree_lv ht hk256 with ⟨hF, c0⟩ | ⟨b, gl, hF, c0, d0, d1, d2, d3⟩
      · rw [hF]
        show Calls _ _ _ _ (RetGet ((0, 0), (0, 0)) 4 w)
        have lc := lt_of_cell c0
        clear ht hF
        go_enter Try.func17, Try.ntmps17
        go_upto_region 1 with fail
        rw [← hWw, ← hgb]
        clear hWw hgb
        go_wp2
        refine bodyPost_ret (v := .tuple #[.agg #[.int .i64 0, .int .i64 0, .int .i64 0, .int .i64 0], .int .i64 4]) (by simp [results, Try.results17, go_sem, k_0, k_1, k_2, k_3, lb]) rfl ⟨rfl, ?_⟩
        have h0 := HGW.out
        have h1 := HB.out
        go_grown
      · rw [hF]
        obtain ⟨⟨b1, b2⟩, b3, b4⟩ := b
        show Calls _ _ _ _ (RetGet ((b1, b2), (b3, b4)) 0 w)
        have lc := lt_of_cell c0
        have ld := lt_of_cell d0
        dsimp only at d0 d1 d2 d3
        clear ht hF
        go_enter Try.func17, Try.ntmps17
        go_upto_region 1 with fail
        rw [← hWw, ← hgb]
        clear hWw hgb
        go_wp2
        refine bodyPost_ret (v := .tuple #[.agg #[.int .i64 b1, .int .i64 b2, .int .i64 b3, .int .i64 b4], .int .i64 0]) (by simp [results, Try.results17, go_sem, k_0, k_1, k_2, k_3, lb]) rfl ⟨rfl, ?_⟩
        have h0 := HGW.out
        have h1 := HB.out
        go_grown

theorem low_round (k : Nat) : minLv (k + 2) = minLv (k + 1) + minLv k := rfl
theorem minLv_bd : ∀ k, k ≤ 13 → minLv k ≤ 1000 := fun k h => by
  have h1 : minLv k ≤ minLv 13 := minLv_le h
  have h2 : minLv 13 = 610 := by decide
  omega
set_option maxRecDepth 100000 in
set_option maxHeartbeats 4000000 in
theorem low_calls (h n : Nat) (hh : HtOk h n) (hn : n ≤ 256) (w : World) : Calls Try.prog 19 #[.int .i64 (h : Nat), .int .i64 (n : Nat)] w (Ret (.bool true) w) := by
  obtain ⟨q0, q1, q2, -⟩ := hh
  by_cases h0 : n = 0
  · subst h0
    obtain rfl : h = 0 := q0 rfl
    clear q0 q1 q2
    go_enter Try.func19, Try.ntmps19
    go_wp2
    go_returns
    exact ret_bool (by simp) (Below.refl _ _)
  · have HQ := hid (q1 (by omega))
    have e1 : ¬ (h : Int) < 0 := by omega
    have e2 : ¬ (h : Int) > 20 := by omega
    have e3 : ((n : Int) == 0) = false := by rw [beq_eq_false_iff_ne]; omega
    have e4 : ¬ (n : Int) = 0 := by omega
    clear q0 q1
    go_enter Try.func19, Try.ntmps19
    go_wp2
    go_loopw [5, 6, 24] (fun a b j wr => ∃ k : Nat, k ≤ h ∧ j = .int .i64 k ∧ a = .int .i64 (minLv k : Nat) ∧ b = .int .i64 (minLv (k + 1) : Nat) ∧ Below w.heap.size w wr) (fun _ _ j _ => h - (intOf j).toNat)
    case atStart => exact ⟨0, Nat.zero_le _, rfl, rfl, rfl, Below.refl _ _⟩
    case round =>
      obtain ⟨k, hk, rfl, rfl, rfl, hB⟩ := hrel
      have b1 := minLv_bd k (by omega)
      have b2 := minLv_bd (k + 1) (by omega)
      have HR := hid (low_round k)
      by_cases hlt : k < h
      · have hlt' : (k : Int) < (h : Int) := by omega
        have hwk : IntKind.i64.wrap ((k : Int) + 1) = (k : Int) + 1 := IntWalk.i64_in _ (by omega)
        obtain ⟨x, hx⟩ : ∃ x, x = minLv k := ⟨_, rfl⟩
        obtain ⟨y, hy⟩ : ∃ y, y = minLv (k + 1) := ⟨_, rfl⟩
        rw [← hx] at b1 HR ⊢
        rw [← hy] at b2 HR ⊢
        have hwx : IntKind.i64.wrap ((x : Int) + (y : Int)) = (x : Int) + (y : Int) := IntWalk.i64_in _ (by omega)
        have HY := hid hy
        clear hx hy
        go_wp2
        go_roundw
        case rel => exact ⟨k + 1, hlt, by go_num, by rw [← HY.out], by rw [HR.out]; congr 1; omega, hB⟩
        case measure => simp [intOf]; omega
      · have hke : k = h := by omega
        subst hke
        have hge : (n : Int) ≥ (minLv k : Nat) := by have := HQ.out; omega
        clear HR HQ
        generalize minLv k = x at *
        go_wp2
        go_returns
        exact ret_bool (by simp [hge]) hB
end
end Go.Proofs.Ytiaoandbdgdecaa
