/- Parts of a proof: contracts and laws. -/
import Derived.Test.YtilncglnojjlaaaGreatG37
import Derived.Test.YtilncglnojjlaaaGreatG40
import Derived.Test.YtilncglnojjlaaaGreatG41
import Derived.Test.YtilncglnojjlaaaGreatG30
import Derived.Test.YtilncglnojjlaaaGreatG04
namespace Go.Proofs.YtilncglnojjlaaaGreat
section
set_option linter.unusedVariables false
set_option linter.unusedSimpArgs false
open Go.RowKit
def ApartE (w : World) (ex ey dx dy x1 y1 x3 y3 : Int) (t u : Value) (wx : World) : Prop :=
 ∃ gT gU : Nat, t = .pointer (some ⟨gT, 0, none⟩) ∧ u = .pointer (some ⟨gU, 0, none⟩) ∧ wx.cell? ⟨gT, 0, none⟩ = some (.int .i64 ex) ∧ wx.cell? ⟨gT, 1, none⟩ = some (.int .i64 ey) ∧ wx.cell? ⟨gU, 0, none⟩ = some (.int .i64 dx) ∧ wx.cell? ⟨gU, 1, none⟩ = some (.int .i64 dy) ∧
  wx.cell? ⟨w.heap.size, 0, none⟩ = some (.int .i64 x1) ∧ wx.cell? ⟨w.heap.size, 1, none⟩ = some (.int .i64 y1) ∧ wx.cell? ⟨w.heap.size + 2, 0, none⟩ = some (.int .i64 x3) ∧ wx.cell? ⟨w.heap.size + 2, 1, none⟩ = some (.int .i64 y3) ∧ Below w.heap.size w wx
theorem apart_end {w w' : World} {ex ey dx dy x1 y1 x3 y3 : Int} {gT gU : Nat} (hT : w.heap.size + 2 < gT) (hU : w.heap.size + 2 < gU) (hne : gT ≠ gU)
  (q0 : w'.cell? ⟨w.heap.size, 0, none⟩ = some (.int .i64 x1)) (q1 : w'.cell? ⟨w.heap.size, 1, none⟩ = some (.int .i64 y1)) (q4 : w'.cell? ⟨w.heap.size + 2, 0, none⟩ = some (.int .i64 x3)) (q5 : w'.cell? ⟨w.heap.size + 2, 1, none⟩ = some (.int .i64 y3)) (q6 : Below w.heap.size w w') (HT : VZ w' gT) (HU : VZ w' gU) :
  ApartE w ex ey dx dy x1 y1 x3 y3 (.pointer (some ⟨gT, 0, none⟩)) (.pointer (some ⟨gU, 0, none⟩)) ((((w'.setCell ⟨gT, 0, none⟩ (.int .i64 ex)).setCell ⟨gT, 1, none⟩ (.int .i64 ey)).setCell ⟨gU, 0, none⟩ (.int .i64 dx)).setCell ⟨gU, 1, none⟩ (.int .i64 dy)) := by
 obtain ⟨⟨z0, z1, y0, y1⟩, yf⟩ := HT
 obtain ⟨⟨a0, a1, t0, t1⟩, tf⟩ := HU
 have hn2 : ¬ gU = gT := fun h => hne h.symm
 have h1 : gT ≠ w.heap.size := by omega
 have h2 : gU ≠ w.heap.size := by omega
 have h3 : gT ≠ w.heap.size + 2 := by omega
 have h4 : gU ≠ w.heap.size + 2 := by omega
 exact ⟨gT, gU, rfl, rfl, far2 hn2 (by go_simp), far2 hn2 (by go_simp), by go_simp, by go_simp, far2 h2 (far2 h1 q0), far2 h2 (far2 h1 q1), far2 h4 (far2 h3 q4), far2 h4 (far2 h3 q5), (((q6.setCell (p := ⟨gT, 0, none⟩) (by show _ ≤ gT; omega) _).setCell (p := ⟨gT, 1, none⟩) (by show _ ≤ gT; omega) _).setCell (p := ⟨gU, 0, none⟩) (by show _ ≤ gU; omega) _).setCell (p := ⟨gU, 1, none⟩) (by show _ ≤ gU; omega) _⟩
def BigE (w : World) (C S : Int) (t u : Value) (wx : World) : Prop := ∃ gC gS : Nat, t = .pointer (some ⟨gC, 0, none⟩) ∧ u = .pointer (some ⟨gS, 0, none⟩) ∧ Blk8 wx gC (digs C) ∧ Blk8 wx gS (digs S) ∧ Below w.heap.size w wx
theorem big_end {w w' : World} {C S : Int} {gT gU : Nat} (hT : w.heap.size ≤ gT) (hU : w.heap.size ≤ gU) (hne : gT ≠ gU) (hB : Below w.heap.size w w') (HT : Blk8 w' gT (fun _ => 0)) (HU : Blk8 w' gU (fun _ => 0)) :
  BigE w C S (.pointer (some ⟨gT, 0, none⟩)) (.pointer (some ⟨gU, 0, none⟩)) ((((((((((((((((w'.setCell ⟨gT, 0, none⟩ (.int .u32 (digs C 0))).setCell ⟨gT, 1, none⟩ (.int .u32 (digs C 1))).setCell ⟨gT, 2, none⟩ (.int .u32 (digs C 2))).setCell ⟨gT, 3, none⟩ (.int .u32 (digs C 3))).setCell ⟨gT, 4, none⟩ (.int .u32 (digs C 4))).setCell ⟨gT, 5, none⟩ (.int .u32 (digs C 5))).setCell ⟨gT, 6, none⟩ (.int .u32 (digs C 6))).setCell ⟨gT, 7, none⟩ (.int .u32 (digs C 7))).setCell ⟨gU, 0, none⟩ (.int .u32 (digs S 0))).setCell ⟨gU, 1, none⟩ (.int .u32 (digs S 1))).setCell ⟨gU, 2, none⟩ (.int .u32 (digs S 2))).setCell ⟨gU, 3, none⟩ (.int .u32 (digs S 3))).setCell ⟨gU, 4, none⟩ (.int .u32 (digs S 4))).setCell ⟨gU, 5, none⟩ (.int .u32 (digs S 5))).setCell ⟨gU, 6, none⟩ (.int .u32 (digs S 6))).setCell ⟨gU, 7, none⟩ (.int .u32 (digs S 7))) := by
 exact ⟨gT, gU, rfl, rfl, (HT.sets8).far8 (fun e => hne e.symm), (HU.far8 hne).sets8, by go_grown⟩
set_option maxRecDepth 100000 in
set_option maxHeartbeats 8000000 in
theorem rapart_calls (x1 y1 x2 y2 x3 y3 : Int) (w : World) (b1 : withinB 65536000 x1 y1 = true) (b2 : withinB 65536000 x2 y2 = true) (b3 : withinB 65536000 x3 y3 = true) :
  Calls Tryz.prog 59 #[vecV x1 y1, vecV x2 y2, vecV x3 y3] w (Ret (.int .i64 (rfar (x1, y1) (x2, y2) (x3, y3))) w) := by
 obtain ⟨a1, a2, a3, a4⟩ := withinB_iff.1 b1
 obtain ⟨c1, c2, c3, c4⟩ := withinB_iff.1 b2
 obtain ⟨d1, d2, d3, d4⟩ := withinB_iff.1 b3
 have HSE := hid (fun w => sub_small x3 y3 x2 y2 w (by unfold sm; omega) (by unfold sm; omega) (by unfold sm; omega) (by unfold sm; omega))
 have HSD := hid (fun w => sub_small x1 y1 x2 y2 w (by unfold sm; omega) (by unfold sm; omega) (by unfold sm; omega) (by unfold sm; omega))
 have HSF := hid (fun w => sub_small x1 y1 x3 y3 w (by unfold sm; omega) (by unfold sm; omega) (by unfold sm; omega) (by unfold sm; omega))
 obtain ⟨ex, hex⟩ : ∃ z, z = x3 - x2 := ⟨_, rfl⟩
 obtain ⟨ey, hey⟩ : ∃ z, z = y3 - y2 := ⟨_, rfl⟩
 obtain ⟨dx, hdx⟩ : ∃ z, z = x1 - x2 := ⟨_, rfl⟩
 obtain ⟨dy, hdy⟩ : ∃ z, z = y1 - y2 := ⟨_, rfl⟩
 obtain ⟨fx, hfx⟩ : ∃ z, z = x1 - x3 := ⟨_, rfl⟩
 obtain ⟨fy, hfy⟩ : ∃ z, z = y1 - y3 := ⟨_, rfl⟩
 rw [← hex, ← hey] at HSE
 rw [← hdx, ← hdy] at HSD
 rw [← hfx, ← hfy] at HSF
 have be1 : -131072000 ≤ ex ∧ ex ≤ 131072000 := by omega
 have be2 : -131072000 ≤ ey ∧ ey ≤ 131072000 := by omega
 have bd1 : -131072000 ≤ dx ∧ dx ≤ 131072000 := by omega
 have bd2 : -131072000 ≤ dy ∧ dy ≤ 131072000 := by omega
 have bf1 : -131072000 ≤ fx ∧ fx ≤ 131072000 := by omega
 have bf2 : -131072000 ≤ fy ∧ fy ≤ 131072000 := by omega
 have e1 : x2 - x1 = -dx := by omega
 have e2 : y2 - y1 = -dy := by omega
 have e3 : x3 - x1 = -fx := by omega
 have e4 : y3 - y1 = -fy := by omega
 have g1 : ex = dx - fx := by omega
 have g2 : ey = dy - fy := by omega
 have eT : farT (-dx) (-dy) (-fx) (-fy) = dx * ex + dy * ey := by unfold farT; rw [show -fx - -dx = ex by omega, show -fy - -dy = ey by omega, Int.neg_neg, Int.sub_eq_add_neg, ← Int.neg_mul, Int.neg_neg]
 have eS : sqZ (-fx - -dx) (-fy - -dy) = sqZ ex ey := by rw [show -fx - -dx = ex by omega, show -fy - -dy = ey by omega]
 have eD : sqZ (-dx) (-dy) = sqZ dx dy := by unfold sqZ; rw [Int.neg_mul_neg, Int.neg_mul_neg]
 have eF : sqZ (-fx) (-fy) = sqZ fx fy := by unfold sqZ; rw [Int.neg_mul_neg, Int.neg_mul_neg]
 have eC : crsZ (-dx) (-dy) (-fx) (-fy) * crsZ (-dx) (-dy) (-fx) (-fy) = (ex * dy - ey * dx) * (ex * dy - ey * dx) := by unfold crsZ; rw [g1, g2]; grind
 have HFZ : Hid (rfar (x1, y1) (x2, y2) (x3, y3) = if dx * ex + dy * ey ≤ 0 then rootZ (sqZ dx dy) else if 0 ≤ fx * ex + fy * ey then rootZ (sqZ fx fy) else rootZ ((ex * dy - ey * dx) * (ex * dy - ey * dx) / sqZ ex ey)) := by
  show _ = _
  unfold rfar
  dsimp only
  rw [e1, e2, e3, e4]
  unfold farZ
  rw [eT, eS, eD, eF, eC]
  have k : sqZ ex ey ≤ dx * ex + dy * ey ↔ 0 ≤ fx * ex + fy * ey := by
   have : fx * ex + fy * ey = dx * ex + dy * ey - sqZ ex ey := by unfold sqZ; rw [g1, g2]; grind
   omega
  by_cases q : 0 ≤ fx * ex + fy * ey
  ·rw [if_pos q, if_pos (k.2 q)]
  ·rw [if_neg q, if_neg (fun h => q (k.1 h))]
 have bN : 0 < sqZ ex ey → 0 ≤ (ex * dy - ey * dx) * (ex * dy - ey * dx) / sqZ ex ey ∧ (ex * dy - ey * dx) * (ex * dy - ey * dx) / sqZ ex ey ≤ 34359738368000000 := fun h => by
  have := far_third (x1 := -dx) (y1 := -dy) (x2 := -fx) (y2 := -fy) (by omega) (by omega) (by rw [eS]; exact h)
  rw [eS, eC] at this
  exact this
 have bT := mul_bd (x := dx) (y := ex) (M := 131072000) (N := 131072000) (by omega) (by omega) (by omega) (by omega)
 have bT2 := mul_bd (x := dy) (y := ey) (M := 131072000) (N := 131072000) (by omega) (by omega) (by omega) (by omega)
 have bG := mul_bd (x := fx) (y := ex) (M := 131072000) (N := 131072000) (by omega) (by omega) (by omega) (by omega)
 have bG2 := mul_bd (x := fy) (y := ey) (M := 131072000) (N := 131072000) (by omega) (by omega) (by omega) (by omega)
 have bC := mul_bd (x := ex) (y := dy) (M := 131072000) (N := 131072000) (by omega) (by omega) (by omega) (by omega)
 have bC2 := mul_bd (x := ey) (y := dx) (M := 131072000) (N := 131072000) (by omega) (by omega) (by omega) (by omega)
 have bD := sqZ_bd (x := dx) (y := dy) (by omega) (by omega)
 have bF := sqZ_bd (x := fx) (y := fy) (by omega) (by omega)
 have bE := sqZ_bd (x := ex) (y := ey) (by omega) (by omega)
 have bCC : -34359738368000000 ≤ ex * dy - ey * dx ∧ ex * dy - ey * dx ≤ 34359738368000000 := by omega
 have bTT : -34359738368000000 ≤ dx * ex + dy * ey ∧ dx * ex + dy * ey ≤ 34359738368000000 := by omega
 have bUU : -34359738368000000 ≤ fx * ex + fy * ey ∧ fx * ex + fy * ey ≤ 34359738368000000 := by omega
 have HDT := hid (fun w => rdot_calls dx dy ex ey (by omega) (by omega) (by omega) (by omega) w)
 have HFT := hid (fun w => rdot_calls fx fy ex ey (by omega) (by omega) (by omega) (by omega) w)
 have HEE := hid (fun w => rdot_calls ex ey ex ey (by omega) (by omega) (by omega) (by omega) w)
 have HCR := hid (fun w => rcross_calls ex ey dx dy (by omega) (by omega) (by omega) (by omega) w)
 change Hid (∀ w, Calls _ _ _ _ (Ret (bigV (sqZ ex ey)) w)) at HEE
 have HRD := hid (fun w => rroot_calls (sqZ dx dy) (by omega) (by omega) w)
 have HRF := hid (fun w => rroot_calls (sqZ fx fy) (by omega) (by omega) w)
 have HSZ : Hid (dx * ex + dy * ey ≤ 0 ∨ 0 < sqZ ex ey) := by
  rcases Int.lt_or_le 0 (sqZ ex ey) with q | q
  ·exact .inr q
  ·left
   unfold sqZ at q
   have p1 := sq_nonneg ex
   have p2 := sq_nonneg ey
   have z1 : ex = 0 := by
    rcases Int.lt_trichotomy ex 0 with r | r | r
    ·have := Int.mul_pos_of_neg_of_neg r r; omega
    ·exact r
    ·have := Int.mul_pos r r; omega
   have z2 : ey = 0 := by
    rcases Int.lt_trichotomy ey 0 with r | r | r
    ·have := Int.mul_pos_of_neg_of_neg r r; omega
    ·exact r
    ·have := Int.mul_pos r r; omega
   rw [z1, z2]; omega
 have v1 : IntKind.i64.wrap (dx * dx) = dx * dx := IntWalk.i64_in _ (by have := mul_bd (x := dx) (y := dx) (M := 131072000) (N := 131072000) (by omega) (by omega) (by omega) (by omega); omega)
 have v2 : IntKind.i64.wrap (dy * dy) = dy * dy := IntWalk.i64_in _ (by have := mul_bd (x := dy) (y := dy) (M := 131072000) (N := 131072000) (by omega) (by omega) (by omega) (by omega); omega)
 have v3 : IntKind.i64.wrap (dx * dx + dy * dy) = sqZ dx dy := IntWalk.i64_in _ (by unfold sqZ at bD; omega)
 have v4 : IntKind.i64.wrap (fx * fx) = fx * fx := IntWalk.i64_in _ (by have := mul_bd (x := fx) (y := fx) (M := 131072000) (N := 131072000) (by omega) (by omega) (by omega) (by omega); omega)
 have v5 : IntKind.i64.wrap (fy * fy) = fy * fy := IntWalk.i64_in _ (by have := mul_bd (x := fy) (y := fy) (M := 131072000) (N := 131072000) (by omega) (by omega) (by omega) (by omega); omega)
 have v6 : IntKind.i64.wrap (fx * fx + fy * fy) = sqZ fx fy := IntWalk.i64_in _ (by unfold sqZ at bF; omega)
 generalize rfar (x1, y1) (x2, y2) (x3, y3) = Z at *
 generalize sqZ dx dy = DD at *
 generalize sqZ fx fy = FF at *
 generalize sqZ ex ey = S at *
 generalize dx * ex + dy * ey = T at *
 generalize fx * ex + fy * ey = U at *
 generalize ex * dy - ey * dx = C at *
 have hz := hid bigV_zero
 have HCT := hid (fun w => bcmp_calls T 0 (by omega) (by omega) (by omega) (by omega) w)
 have HCU := hid (fun w => bcmp_calls U 0 (by omega) (by omega) (by omega) (by omega) w)
 rw [hz.out] at HCT HCU
 have HPT := hid (cmpZ_pos (a := T) (b := 0))
 have HPU := hid (cmpZ_nonneg (a := U) (b := 0))
 generalize cmpZ T 0 = ct at *
 generalize cmpZ U 0 = cu at *
 clear e1 e2 e3 e4 g1 g2 eT eS eD eF eC a1 a2 a3 a4 c1 c2 c3 c4 d1 d2 d3 d4 b1 b2 b3 bT bT2 bG bG2 bC bC2 hex hey hdx hdy hfx hfy be1 be2 bd1 bd2 bf1 bf2 bD bF
 obtain ⟨W, hW⟩ : ∃ W, W = ((w.alloc (.cells #[.int .i64 x1, .int .i64 y1] 23)).alloc (.cells #[.int .i64 x2, .int .i64 y2] 23)).alloc (.cells #[.int .i64 x3, .int .i64 y3] 23) := ⟨_, rfl⟩
 have i0 : W.cell? ⟨w.heap.size, 0, none⟩ = some (.int .i64 x1) := by rw [hW]; go_simp
 have i1 : W.cell? ⟨w.heap.size, 1, none⟩ = some (.int .i64 y1) := by rw [hW]; go_simp
 have j0 : W.cell? ⟨w.heap.size + 1, 0, none⟩ = some (.int .i64 x2) := by rw [hW]; go_simp
 have j1 : W.cell? ⟨w.heap.size + 1, 1, none⟩ = some (.int .i64 y2) := by rw [hW]; go_simp
 have k0 : W.cell? ⟨w.heap.size + 2, 0, none⟩ = some (.int .i64 x3) := by rw [hW]; go_simp
 have k1 : W.cell? ⟨w.heap.size + 2, 1, none⟩ = some (.int .i64 y3) := by rw [hW]; go_simp
 have hB0 : Below w.heap.size w W := by rw [hW]; go_grown
 go_enter Tryz.func59, Tryz.ntmps59
 go_upto_region 1 with fail
 rw [← hW]
 clear hW
 go_cut [7, 8] from 15 to 20 (fun t u wx => ApartE w ex ey dx dy x1 y1 x3 y3 t u wx)
 case first =>
  clear HSF HFZ bN bE HDT HFT HEE HCR HRD HRF HSZ v1 v2 v3 v4 v5 v6 bCC bTT bUU hz HCT HCU HPT HPU
  refine (fun (hNr1 : Hid (?Tr1 : Prop)) => ?mainr1) (hid ?prfr1)
  case mainr1 =>
   refine wp_region_noPanic ?_
   refine wp_region_U (S := (S2 (fun w' => w'.cell? ⟨w.heap.size, 0, none⟩ = some (.int .i64 x1) ∧ w'.cell? ⟨w.heap.size, 1, none⟩ = some (.int .i64 y1) ∧ w'.cell? ⟨w.heap.size + 1, 0, none⟩ = some (.int .i64 x2) ∧ w'.cell? ⟨w.heap.size + 1, 1, none⟩ = some (.int .i64 y2) ∧ w'.cell? ⟨w.heap.size + 2, 0, none⟩ = some (.int .i64 x3) ∧ w'.cell? ⟨w.heap.size + 2, 1, none⟩ = some (.int .i64 y3) ∧ Below w.heap.size w w'))) (T := (fun j => [0, 0, 0, 0, 0, 0, 0, 0, 1, 1].getD j 0)) (by kernel_rfl) (S2i0 ⟨i0, i1, j0, j1, k0, k1, hB0.drew⟩) (fun hH => ?_)
   have hWr1 : Weaker (S2 (fun w' => w'.cell? ⟨w.heap.size, 0, none⟩ = some (.int .i64 x1) ∧ w'.cell? ⟨w.heap.size, 1, none⟩ = some (.int .i64 y1) ∧ w'.cell? ⟨w.heap.size + 1, 0, none⟩ = some (.int .i64 x2) ∧ w'.cell? ⟨w.heap.size + 1, 1, none⟩ = some (.int .i64 y2) ∧ w'.cell? ⟨w.heap.size + 2, 0, none⟩ = some (.int .i64 x3) ∧ w'.cell? ⟨w.heap.size + 2, 1, none⟩ = some (.int .i64 y3) ∧ Below w.heap.size w w')) := weaker2 _
   refine Ut 0 15 9 0 0 (v := ?vr1_1) rfl hWr1 hH ?hyr1_1 ?_
   case hyr1_1 => (intro w' hSw; replace hSw := S2o0 hSw; (try dsimp only at hSw); have q0 := hSw.1; have q1 := hSw.2.1; have q2 := hSw.2.2.1; have q3 := hSw.2.2.2.1; have q4 := hSw.2.2.2.2.1; have q5 := hSw.2.2.2.2.2.1; have q6 := hSw.2.2.2.2.2.2; go_simp; try (with_reducible rfl))
   simp only [sB, sC]
   refine Ut 1 16 8 0 0 (v := ?vr1_2) rfl hWr1 hH ?hyr1_2 ?_
   case hyr1_2 => (intro w' hSw; replace hSw := S2o0 hSw; (try dsimp only at hSw); have q0 := hSw.1; have q1 := hSw.2.1; have q2 := hSw.2.2.1; have q3 := hSw.2.2.2.1; have q4 := hSw.2.2.2.2.1; have q5 := hSw.2.2.2.2.2.1; have q6 := hSw.2.2.2.2.2.2; go_simp; try (with_reducible rfl))
   simp only [sB, sC]
   refine Ut 3 18 7 0 0 (v := ?vr1_3) rfl hWr1 hH ?hyr1_3 ?_
   case hyr1_3 => (intro w' hSw; replace hSw := S2o0 hSw; (try dsimp only at hSw); have q0 := hSw.1; have q1 := hSw.2.1; have q2 := hSw.2.2.1; have q3 := hSw.2.2.2.1; have q4 := hSw.2.2.2.2.1; have q5 := hSw.2.2.2.2.2.1; have q6 := hSw.2.2.2.2.2.2; go_simp; try (with_reducible rfl))
   simp only [sB, sC]
   refine Ut 4 19 6 0 0 (v := ?vr1_4) rfl hWr1 hH ?hyr1_4 ?_
   case hyr1_4 => (intro w' hSw; replace hSw := S2o0 hSw; (try dsimp only at hSw); have q0 := hSw.1; have q1 := hSw.2.1; have q2 := hSw.2.2.1; have q3 := hSw.2.2.2.1; have q4 := hSw.2.2.2.2.1; have q5 := hSw.2.2.2.2.2.1; have q6 := hSw.2.2.2.2.2.2; go_simp; try (with_reducible rfl))
   simp only [sB, sC]
   refine Ur [2, 6, 7] ?_
   refine Uc 0 rfl (fun K hK => ?_) ?_
   ·try clear hb
    go_simp
    (go_at_call 50; refine (HSE.out _).mono ?_; rintro e wn ⟨rfl, hb⟩; (try (replace hT := keepVZ hb hT)); (try (replace hU := keepVZ hb hU)))
    refine hK.out _ _ ?hsr1_5 (fun hH2 => ?hrr1_5)
    case hsr1_5 => exact S2i0 (by have hG := hH; replace hG := S2o0 hG; (try dsimp only at hG); have q0 := hG.1; have q1 := hG.2.1; have q2 := hG.2.2.1; have q3 := hG.2.2.2.1; have q4 := hG.2.2.2.2.1; have q5 := hG.2.2.2.2.2.1; have q6 := hG.2.2.2.2.2.2; exact ⟨keepCell hb q0, keepCell hb q1, keepCell hb q2, keepCell hb q3, keepCell hb q4, keepCell hb q5, keepBelow hb q6⟩)
    clear hK K hH
    have hH := hH2
    clear hH2
    try simp only [Act.put, sA, sB, sC]
    refine Ur [5, 6, 7] ?_
    refine Uc 0 rfl (fun K hK => ?_) ?_
    ·try clear hb
     go_simp
     (go_at_call 50; refine (HSD.out _).mono ?_; rintro e wn ⟨rfl, hb⟩; (try (replace hT := keepVZ hb hT)); (try (replace hU := keepVZ hb hU)))
     refine hK.out _ _ ?hsr1_6 (fun hH2 => ?hrr1_6)
     case hsr1_6 => exact S2i0 (by have hG := hH; replace hG := S2o0 hG; (try dsimp only at hG); have q0 := hG.1; have q1 := hG.2.1; have q2 := hG.2.2.1; have q3 := hG.2.2.2.1; have q4 := hG.2.2.2.2.1; have q5 := hG.2.2.2.2.2.1; have q6 := hG.2.2.2.2.2.2; exact ⟨keepCell hb q0, keepCell hb q1, keepCell hb q2, keepCell hb q3, keepCell hb q4, keepCell hb q5, keepBelow hb q6⟩)
     clear hK K hH
     have hH := hH2
     clear hH2
     try simp only [Act.put, sA, sB, sC]
     refine Ur [6, 7] ?_
     refine Uc 0 rfl (fun K hK => ?_) ?_
     ·try clear hb
      have hG := hH
      replace hG := S2o0 hG; (try dsimp only at hG); have q0 := hG.1; have q1 := hG.2.1; have q2 := hG.2.2.1; have q3 := hG.2.2.2.1; have q4 := hG.2.2.2.2.1; have q5 := hG.2.2.2.2.2.1; have q6 := hG.2.2.2.2.2.2
      go_simp
      refine hK.out _ _ ?hsr1_7 (fun hH2 => ?hrr1_7)
      case hsr1_7 => exact S2i0 (by have hG := hH; replace hG := S2o0 hG; (try dsimp only at hG); have q0 := hG.1; have q1 := hG.2.1; have q2 := hG.2.2.1; have q3 := hG.2.2.2.1; have q4 := hG.2.2.2.2.1; have q5 := hG.2.2.2.2.2.1; have q6 := hG.2.2.2.2.2.2; exact ⟨keepCell ((Below.refl _ _).alloc (Nat.le_refl _) _) q0, keepCell ((Below.refl _ _).alloc (Nat.le_refl _) _) q1, keepCell ((Below.refl _ _).alloc (Nat.le_refl _) _) q2, keepCell ((Below.refl _ _).alloc (Nat.le_refl _) _) q3, keepCell ((Below.refl _ _).alloc (Nat.le_refl _) _) q4, keepCell ((Below.refl _ _).alloc (Nat.le_refl _) _) q5, q6.alloc q6.size _⟩)
      clear hK K hH
      have hH := hH2
      clear hH2
      try simp only [Act.put, sA, sB, sC]
      have hT : VZ (wn.alloc (.cells #[.int .i64 0, .int .i64 0] 23)) wn.heap.size := VZ.here _ _ _ _
      obtain ⟨gT, hgT⟩ : ∃ g, g = wn.heap.size := ⟨_, rfl⟩
      have hlT : w.heap.size + 2 < gT := by rw [hgT]; exact lt_of_cell q4
      rw [← hgT] at hT
      try rw [← hgT]
      clear hgT q0 q1 q2 q3 q4 q5 q6
      generalize wn.alloc (.cells #[.int .i64 0, .int .i64 0] 23) = wx6 at *
      refine U1 7 0 rfl (fun K hK => ?_)
      try clear hb
      have hG := hH
      replace hG := S2o0 hG; (try dsimp only at hG); have q0 := hG.1; have q1 := hG.2.1; have q2 := hG.2.2.1; have q3 := hG.2.2.2.1; have q4 := hG.2.2.2.2.1; have q5 := hG.2.2.2.2.2.1; have q6 := hG.2.2.2.2.2.2
      have hZT := VZ.lt hT
      go_simp
      refine hK.out _ _ ?hsr1_8 (fun hH2 => ?hrr1_8)
      case hsr1_8 => exact S2i0 (by have hG := hH; replace hG := S2o0 hG; (try dsimp only at hG); have q0 := hG.1; have q1 := hG.2.1; have q2 := hG.2.2.1; have q3 := hG.2.2.2.1; have q4 := hG.2.2.2.2.1; have q5 := hG.2.2.2.2.2.1; have q6 := hG.2.2.2.2.2.2; exact ⟨keepCell ((Below.refl _ _).alloc (Nat.le_refl _) _) q0, keepCell ((Below.refl _ _).alloc (Nat.le_refl _) _) q1, keepCell ((Below.refl _ _).alloc (Nat.le_refl _) _) q2, keepCell ((Below.refl _ _).alloc (Nat.le_refl _) _) q3, keepCell ((Below.refl _ _).alloc (Nat.le_refl _) _) q4, keepCell ((Below.refl _ _).alloc (Nat.le_refl _) _) q5, q6.alloc q6.size _⟩)
      clear hK K hH
      have hH := hH2
      clear hH2
      try simp only [Act.put, sA, sB, sC]
      have hU : VZ (wx6.alloc (.cells #[.int .i64 0, .int .i64 0] 23)) wx6.heap.size := VZ.here _ _ _ _
      replace hT := keepVZ ((Below.refl _ _).alloc (Nat.le_refl _) (.cells #[.int .i64 0, .int .i64 0] 23)) hT
      obtain ⟨gU, hgU⟩ : ∃ g, g = wx6.heap.size := ⟨_, rfl⟩
      have hlU : w.heap.size + 2 < gU ∧ gT < gU := by rw [hgU]; exact ⟨lt_of_cell q4, hZT⟩
      rw [← hgU] at hU
      try rw [← hgU]
      clear hgU q0 q1 q2 q3 q4 q5 q6
      generalize wx6.alloc (.cells #[.int .i64 0, .int .i64 0] 23) = wx7 at *
      refine wpAnyU_lst (l' := #[true, true, true, true, true, true, true, true, false, false]) (by kernel_rfl) ?_
      have hl2 : w.heap.size + 2 < gT ∧ w.heap.size + 2 < gU ∧ gT ≠ gU := by omega
      clear hlT hlU
      try clear hZT
      try clear hZU
      try clear hb
      revert hH
      revert hU; revert hT
      revert hl2
      revert gU; revert gT
      revert wx7
      exact hNr1.out
     refine Uc 0 rfl (fun K hK => ?_) ?_
     ·try clear hb
      have hG := hH
      replace hG := S2o0 hG; (try dsimp only at hG); have q0 := hG.1; have q1 := hG.2.1; have q2 := hG.2.2.1; have q3 := hG.2.2.2.1; have q4 := hG.2.2.2.2.1; have q5 := hG.2.2.2.2.2.1; have q6 := hG.2.2.2.2.2.2
      go_simp
      refine hK.out _ _ ?hsr1_11 (fun hH2 => ?hrr1_11)
      case hsr1_11 => exact S2i0 (by have hG := hH; replace hG := S2o0 hG; (try dsimp only at hG); have q0 := hG.1; have q1 := hG.2.1; have q2 := hG.2.2.1; have q3 := hG.2.2.2.1; have q4 := hG.2.2.2.2.1; have q5 := hG.2.2.2.2.2.1; have q6 := hG.2.2.2.2.2.2; exact ⟨keepCell ((Below.refl _ _).alloc (Nat.le_refl _) _) q0, keepCell ((Below.refl _ _).alloc (Nat.le_refl _) _) q1, keepCell ((Below.refl _ _).alloc (Nat.le_refl _) _) q2, keepCell ((Below.refl _ _).alloc (Nat.le_refl _) _) q3, keepCell ((Below.refl _ _).alloc (Nat.le_refl _) _) q4, keepCell ((Below.refl _ _).alloc (Nat.le_refl _) _) q5, q6.alloc q6.size _⟩)
      clear hK K hH
      have hH := hH2
      clear hH2
      try simp only [Act.put, sA, sB, sC]
      have hU : VZ (wn.alloc (.cells #[.int .i64 0, .int .i64 0] 23)) wn.heap.size := VZ.here _ _ _ _
      obtain ⟨gU, hgU⟩ : ∃ g, g = wn.heap.size := ⟨_, rfl⟩
      have hlU : w.heap.size + 2 < gU := by rw [hgU]; exact lt_of_cell q4
      rw [← hgU] at hU
      try rw [← hgU]
      clear hgU q0 q1 q2 q3 q4 q5 q6
      generalize wn.alloc (.cells #[.int .i64 0, .int .i64 0] 23) = wx7 at *
      refine U1 6 0 rfl (fun K hK => ?_)
      try clear hb
      have hG := hH
      replace hG := S2o0 hG; (try dsimp only at hG); have q0 := hG.1; have q1 := hG.2.1; have q2 := hG.2.2.1; have q3 := hG.2.2.2.1; have q4 := hG.2.2.2.2.1; have q5 := hG.2.2.2.2.2.1; have q6 := hG.2.2.2.2.2.2
      have hZU := VZ.lt hU
      go_simp
      refine hK.out _ _ ?hsr1_12 (fun hH2 => ?hrr1_12)
      case hsr1_12 => exact S2i0 (by have hG := hH; replace hG := S2o0 hG; (try dsimp only at hG); have q0 := hG.1; have q1 := hG.2.1; have q2 := hG.2.2.1; have q3 := hG.2.2.2.1; have q4 := hG.2.2.2.2.1; have q5 := hG.2.2.2.2.2.1; have q6 := hG.2.2.2.2.2.2; exact ⟨keepCell ((Below.refl _ _).alloc (Nat.le_refl _) _) q0, keepCell ((Below.refl _ _).alloc (Nat.le_refl _) _) q1, keepCell ((Below.refl _ _).alloc (Nat.le_refl _) _) q2, keepCell ((Below.refl _ _).alloc (Nat.le_refl _) _) q3, keepCell ((Below.refl _ _).alloc (Nat.le_refl _) _) q4, keepCell ((Below.refl _ _).alloc (Nat.le_refl _) _) q5, q6.alloc q6.size _⟩)
      clear hK K hH
      have hH := hH2
      clear hH2
      try simp only [Act.put, sA, sB, sC]
      have hT : VZ (wx7.alloc (.cells #[.int .i64 0, .int .i64 0] 23)) wx7.heap.size := VZ.here _ _ _ _
      replace hU := keepVZ ((Below.refl _ _).alloc (Nat.le_refl _) (.cells #[.int .i64 0, .int .i64 0] 23)) hU
      obtain ⟨gT, hgT⟩ : ∃ g, g = wx7.heap.size := ⟨_, rfl⟩
      have hlT : w.heap.size + 2 < gT ∧ gU < gT := by rw [hgT]; exact ⟨lt_of_cell q4, hZU⟩
      rw [← hgT] at hT
      try rw [← hgT]
      clear hgT q0 q1 q2 q3 q4 q5 q6
      generalize wx7.alloc (.cells #[.int .i64 0, .int .i64 0] 23) = wx6 at *
      refine wpAnyU_lst (l' := #[true, true, true, true, true, true, true, true, false, false]) (by kernel_rfl) ?_
      have hl2 : w.heap.size + 2 < gT ∧ w.heap.size + 2 < gU ∧ gT ≠ gU := by omega
      clear hlT hlU
      try clear hZT
      try clear hZU
      try clear hb
      revert hH
      revert hU; revert hT
      revert hl2
      revert gU; revert gT
      revert wx6
      exact hNr1.out
     exact AllReadyU.nil
    refine Uc 0 rfl (fun K hK => ?_) ?_
    ·try clear hb
     have hG := hH
     replace hG := S2o0 hG; (try dsimp only at hG); have q0 := hG.1; have q1 := hG.2.1; have q2 := hG.2.2.1; have q3 := hG.2.2.2.1; have q4 := hG.2.2.2.2.1; have q5 := hG.2.2.2.2.2.1; have q6 := hG.2.2.2.2.2.2
     go_simp
     refine hK.out _ _ ?hsr1_13 (fun hH2 => ?hrr1_13)
     case hsr1_13 => exact S2i0 (by have hG := hH; replace hG := S2o0 hG; (try dsimp only at hG); have q0 := hG.1; have q1 := hG.2.1; have q2 := hG.2.2.1; have q3 := hG.2.2.2.1; have q4 := hG.2.2.2.2.1; have q5 := hG.2.2.2.2.2.1; have q6 := hG.2.2.2.2.2.2; exact ⟨keepCell ((Below.refl _ _).alloc (Nat.le_refl _) _) q0, keepCell ((Below.refl _ _).alloc (Nat.le_refl _) _) q1, keepCell ((Below.refl _ _).alloc (Nat.le_refl _) _) q2, keepCell ((Below.refl _ _).alloc (Nat.le_refl _) _) q3, keepCell ((Below.refl _ _).alloc (Nat.le_refl _) _) q4, keepCell ((Below.refl _ _).alloc (Nat.le_refl _) _) q5, q6.alloc q6.size _⟩)
     clear hK K hH
     have hH := hH2
     clear hH2
     try simp only [Act.put, sA, sB, sC]
     have hT : VZ (wn.alloc (.cells #[.int .i64 0, .int .i64 0] 23)) wn.heap.size := VZ.here _ _ _ _
     obtain ⟨gT, hgT⟩ : ∃ g, g = wn.heap.size := ⟨_, rfl⟩
     have hlT : w.heap.size + 2 < gT := by rw [hgT]; exact lt_of_cell q4
     rw [← hgT] at hT
     try rw [← hgT]
     clear hgT q0 q1 q2 q3 q4 q5 q6
     generalize wn.alloc (.cells #[.int .i64 0, .int .i64 0] 23) = wx6 at *
     refine Ur [5, 7] ?_
     refine Uc 0 rfl (fun K hK => ?_) ?_
     ·try clear hb
      go_simp
      (go_at_call 50; refine (HSD.out _).mono ?_; rintro e wn ⟨rfl, hb⟩; (try (replace hT := keepVZ hb hT)); (try (replace hU := keepVZ hb hU)))
      refine hK.out _ _ ?hsr1_14 (fun hH2 => ?hrr1_14)
      case hsr1_14 => exact S2i0 (by have hG := hH; replace hG := S2o0 hG; (try dsimp only at hG); have q0 := hG.1; have q1 := hG.2.1; have q2 := hG.2.2.1; have q3 := hG.2.2.2.1; have q4 := hG.2.2.2.2.1; have q5 := hG.2.2.2.2.2.1; have q6 := hG.2.2.2.2.2.2; exact ⟨keepCell hb q0, keepCell hb q1, keepCell hb q2, keepCell hb q3, keepCell hb q4, keepCell hb q5, keepBelow hb q6⟩)
      clear hK K hH
      have hH := hH2
      clear hH2
      try simp only [Act.put, sA, sB, sC]
      refine U1 7 0 rfl (fun K hK => ?_)
      try clear hb
      have hG := hH
      replace hG := S2o0 hG; (try dsimp only at hG); have q0 := hG.1; have q1 := hG.2.1; have q2 := hG.2.2.1; have q3 := hG.2.2.2.1; have q4 := hG.2.2.2.2.1; have q5 := hG.2.2.2.2.2.1; have q6 := hG.2.2.2.2.2.2
      have hZT := VZ.lt hT
      go_simp
      refine hK.out _ _ ?hsr1_15 (fun hH2 => ?hrr1_15)
      case hsr1_15 => exact S2i0 (by have hG := hH; replace hG := S2o0 hG; (try dsimp only at hG); have q0 := hG.1; have q1 := hG.2.1; have q2 := hG.2.2.1; have q3 := hG.2.2.2.1; have q4 := hG.2.2.2.2.1; have q5 := hG.2.2.2.2.2.1; have q6 := hG.2.2.2.2.2.2; exact ⟨keepCell ((Below.refl _ _).alloc (Nat.le_refl _) _) q0, keepCell ((Below.refl _ _).alloc (Nat.le_refl _) _) q1, keepCell ((Below.refl _ _).alloc (Nat.le_refl _) _) q2, keepCell ((Below.refl _ _).alloc (Nat.le_refl _) _) q3, keepCell ((Below.refl _ _).alloc (Nat.le_refl _) _) q4, keepCell ((Below.refl _ _).alloc (Nat.le_refl _) _) q5, q6.alloc q6.size _⟩)
      clear hK K hH
      have hH := hH2
      clear hH2
      try simp only [Act.put, sA, sB, sC]
      have hU : VZ (wn.alloc (.cells #[.int .i64 0, .int .i64 0] 23)) wn.heap.size := VZ.here _ _ _ _
      replace hT := keepVZ ((Below.refl _ _).alloc (Nat.le_refl _) (.cells #[.int .i64 0, .int .i64 0] 23)) hT
      obtain ⟨gU, hgU⟩ : ∃ g, g = wn.heap.size := ⟨_, rfl⟩
      have hlU : w.heap.size + 2 < gU ∧ gT < gU := by rw [hgU]; exact ⟨lt_of_cell q4, hZT⟩
      rw [← hgU] at hU
      try rw [← hgU]
      clear hgU q0 q1 q2 q3 q4 q5 q6
      generalize wn.alloc (.cells #[.int .i64 0, .int .i64 0] 23) = wx7 at *
      refine wpAnyU_lst (l' := #[true, true, true, true, true, true, true, true, false, false]) (by kernel_rfl) ?_
      have hl2 : w.heap.size + 2 < gT ∧ w.heap.size + 2 < gU ∧ gT ≠ gU := by omega
      clear hlT hlU
      try clear hZT
      try clear hZU
      try clear hb
      revert hH
      revert hU; revert hT
      revert hl2
      revert gU; revert gT
      revert wx7
      exact hNr1.out
     refine Uc 0 rfl (fun K hK => ?_) ?_
     ·try clear hb
      have hG := hH
      replace hG := S2o0 hG; (try dsimp only at hG); have q0 := hG.1; have q1 := hG.2.1; have q2 := hG.2.2.1; have q3 := hG.2.2.2.1; have q4 := hG.2.2.2.2.1; have q5 := hG.2.2.2.2.2.1; have q6 := hG.2.2.2.2.2.2
      have hZT := VZ.lt hT
      go_simp
      refine hK.out _ _ ?hsr1_16 (fun hH2 => ?hrr1_16)
      case hsr1_16 => exact S2i0 (by have hG := hH; replace hG := S2o0 hG; (try dsimp only at hG); have q0 := hG.1; have q1 := hG.2.1; have q2 := hG.2.2.1; have q3 := hG.2.2.2.1; have q4 := hG.2.2.2.2.1; have q5 := hG.2.2.2.2.2.1; have q6 := hG.2.2.2.2.2.2; exact ⟨keepCell ((Below.refl _ _).alloc (Nat.le_refl _) _) q0, keepCell ((Below.refl _ _).alloc (Nat.le_refl _) _) q1, keepCell ((Below.refl _ _).alloc (Nat.le_refl _) _) q2, keepCell ((Below.refl _ _).alloc (Nat.le_refl _) _) q3, keepCell ((Below.refl _ _).alloc (Nat.le_refl _) _) q4, keepCell ((Below.refl _ _).alloc (Nat.le_refl _) _) q5, q6.alloc q6.size _⟩)
      clear hK K hH
      have hH := hH2
      clear hH2
      try simp only [Act.put, sA, sB, sC]
      have hU : VZ (wx6.alloc (.cells #[.int .i64 0, .int .i64 0] 23)) wx6.heap.size := VZ.here _ _ _ _
      replace hT := keepVZ ((Below.refl _ _).alloc (Nat.le_refl _) (.cells #[.int .i64 0, .int .i64 0] 23)) hT
      obtain ⟨gU, hgU⟩ : ∃ g, g = wx6.heap.size := ⟨_, rfl⟩
      have hlU : w.heap.size + 2 < gU ∧ gT < gU := by rw [hgU]; exact ⟨lt_of_cell q4, hZT⟩
      rw [← hgU] at hU
      try rw [← hgU]
      clear hgU q0 q1 q2 q3 q4 q5 q6
      generalize wx6.alloc (.cells #[.int .i64 0, .int .i64 0] 23) = wx7 at *
      refine U1 5 0 rfl (fun K hK => ?_)
      try clear hb
      go_simp
      (go_at_call 50; refine (HSD.out _).mono ?_; rintro e wn ⟨rfl, hb⟩; (try (replace hT := keepVZ hb hT)); (try (replace hU := keepVZ hb hU)))
      refine hK.out _ _ ?hsr1_17 (fun hH2 => ?hrr1_17)
      case hsr1_17 => exact S2i0 (by have hG := hH; replace hG := S2o0 hG; (try dsimp only at hG); have q0 := hG.1; have q1 := hG.2.1; have q2 := hG.2.2.1; have q3 := hG.2.2.2.1; have q4 := hG.2.2.2.2.1; have q5 := hG.2.2.2.2.2.1; have q6 := hG.2.2.2.2.2.2; exact ⟨keepCell hb q0, keepCell hb q1, keepCell hb q2, keepCell hb q3, keepCell hb q4, keepCell hb q5, keepBelow hb q6⟩)
      clear hK K hH
      have hH := hH2
      clear hH2
      try simp only [Act.put, sA, sB, sC]
      refine wpAnyU_lst (l' := #[true, true, true, true, true, true, true, true, false, false]) (by kernel_rfl) ?_
      have hl2 : w.heap.size + 2 < gT ∧ w.heap.size + 2 < gU ∧ gT ≠ gU := by omega
      clear hlT hlU
      try clear hZT
      try clear hZU
      try clear hb
      revert hH
      revert hU; revert hT
      revert hl2
      revert gU; revert gT
      revert wn
      exact hNr1.out
     exact AllReadyU.nil
    refine Uc 0 rfl (fun K hK => ?_) ?_
    ·try clear hb
     have hG := hH
     replace hG := S2o0 hG; (try dsimp only at hG); have q0 := hG.1; have q1 := hG.2.1; have q2 := hG.2.2.1; have q3 := hG.2.2.2.1; have q4 := hG.2.2.2.2.1; have q5 := hG.2.2.2.2.2.1; have q6 := hG.2.2.2.2.2.2
     go_simp
     refine hK.out _ _ ?hsr1_18 (fun hH2 => ?hrr1_18)
     case hsr1_18 => exact S2i0 (by have hG := hH; replace hG := S2o0 hG; (try dsimp only at hG); have q0 := hG.1; have q1 := hG.2.1; have q2 := hG.2.2.1; have q3 := hG.2.2.2.1; have q4 := hG.2.2.2.2.1; have q5 := hG.2.2.2.2.2.1; have q6 := hG.2.2.2.2.2.2; exact ⟨keepCell ((Below.refl _ _).alloc (Nat.le_refl _) _) q0, keepCell ((Below.refl _ _).alloc (Nat.le_refl _) _) q1, keepCell ((Below.refl _ _).alloc (Nat.le_refl _) _) q2, keepCell ((Below.refl _ _).alloc (Nat.le_refl _) _) q3, keepCell ((Below.refl _ _).alloc (Nat.le_refl _) _) q4, keepCell ((Below.refl _ _).alloc (Nat.le_refl _) _) q5, q6.alloc q6.size _⟩)
     clear hK K hH
     have hH := hH2
     clear hH2
     try simp only [Act.put, sA, sB, sC]
     have hU : VZ (wn.alloc (.cells #[.int .i64 0, .int .i64 0] 23)) wn.heap.size := VZ.here _ _ _ _
     obtain ⟨gU, hgU⟩ : ∃ g, g = wn.heap.size := ⟨_, rfl⟩
     have hlU : w.heap.size + 2 < gU := by rw [hgU]; exact lt_of_cell q4
     rw [← hgU] at hU
     try rw [← hgU]
     clear hgU q0 q1 q2 q3 q4 q5 q6
     generalize wn.alloc (.cells #[.int .i64 0, .int .i64 0] 23) = wx7 at *
     refine Ur [5, 6] ?_
     refine Uc 0 rfl (fun K hK => ?_) ?_
     ·try clear hb
      go_simp
      (go_at_call 50; refine (HSD.out _).mono ?_; rintro e wn ⟨rfl, hb⟩; (try (replace hT := keepVZ hb hT)); (try (replace hU := keepVZ hb hU)))
      refine hK.out _ _ ?hsr1_19 (fun hH2 => ?hrr1_19)
      case hsr1_19 => exact S2i0 (by have hG := hH; replace hG := S2o0 hG; (try dsimp only at hG); have q0 := hG.1; have q1 := hG.2.1; have q2 := hG.2.2.1; have q3 := hG.2.2.2.1; have q4 := hG.2.2.2.2.1; have q5 := hG.2.2.2.2.2.1; have q6 := hG.2.2.2.2.2.2; exact ⟨keepCell hb q0, keepCell hb q1, keepCell hb q2, keepCell hb q3, keepCell hb q4, keepCell hb q5, keepBelow hb q6⟩)
      clear hK K hH
      have hH := hH2
      clear hH2
      try simp only [Act.put, sA, sB, sC]
      refine U1 6 0 rfl (fun K hK => ?_)
      try clear hb
      have hG := hH
      replace hG := S2o0 hG; (try dsimp only at hG); have q0 := hG.1; have q1 := hG.2.1; have q2 := hG.2.2.1; have q3 := hG.2.2.2.1; have q4 := hG.2.2.2.2.1; have q5 := hG.2.2.2.2.2.1; have q6 := hG.2.2.2.2.2.2
      have hZU := VZ.lt hU
      go_simp
      refine hK.out _ _ ?hsr1_20 (fun hH2 => ?hrr1_20)
      case hsr1_20 => exact S2i0 (by have hG := hH; replace hG := S2o0 hG; (try dsimp only at hG); have q0 := hG.1; have q1 := hG.2.1; have q2 := hG.2.2.1; have q3 := hG.2.2.2.1; have q4 := hG.2.2.2.2.1; have q5 := hG.2.2.2.2.2.1; have q6 := hG.2.2.2.2.2.2; exact ⟨keepCell ((Below.refl _ _).alloc (Nat.le_refl _) _) q0, keepCell ((Below.refl _ _).alloc (Nat.le_refl _) _) q1, keepCell ((Below.refl _ _).alloc (Nat.le_refl _) _) q2, keepCell ((Below.refl _ _).alloc (Nat.le_refl _) _) q3, keepCell ((Below.refl _ _).alloc (Nat.le_refl _) _) q4, keepCell ((Below.refl _ _).alloc (Nat.le_refl _) _) q5, q6.alloc q6.size _⟩)
      clear hK K hH
      have hH := hH2
      clear hH2
      try simp only [Act.put, sA, sB, sC]
      have hT : VZ (wn.alloc (.cells #[.int .i64 0, .int .i64 0] 23)) wn.heap.size := VZ.here _ _ _ _
      replace hU := keepVZ ((Below.refl _ _).alloc (Nat.le_refl _) (.cells #[.int .i64 0, .int .i64 0] 23)) hU
      obtain ⟨gT, hgT⟩ : ∃ g, g = wn.heap.size := ⟨_, rfl⟩
      have hlT : w.heap.size + 2 < gT ∧ gU < gT := by rw [hgT]; exact ⟨lt_of_cell q4, hZU⟩
      rw [← hgT] at hT
      try rw [← hgT]
      clear hgT q0 q1 q2 q3 q4 q5 q6
      generalize wn.alloc (.cells #[.int .i64 0, .int .i64 0] 23) = wx6 at *
      refine wpAnyU_lst (l' := #[true, true, true, true, true, true, true, true, false, false]) (by kernel_rfl) ?_
      have hl2 : w.heap.size + 2 < gT ∧ w.heap.size + 2 < gU ∧ gT ≠ gU := by omega
      clear hlT hlU
      try clear hZT
      try clear hZU
      try clear hb
      revert hH
      revert hU; revert hT
      revert hl2
      revert gU; revert gT
      revert wx6
      exact hNr1.out
     refine Uc 0 rfl (fun K hK => ?_) ?_
     ·try clear hb
      have hG := hH
      replace hG := S2o0 hG; (try dsimp only at hG); have q0 := hG.1; have q1 := hG.2.1; have q2 := hG.2.2.1; have q3 := hG.2.2.2.1; have q4 := hG.2.2.2.2.1; have q5 := hG.2.2.2.2.2.1; have q6 := hG.2.2.2.2.2.2
      have hZU := VZ.lt hU
      go_simp
      refine hK.out _ _ ?hsr1_21 (fun hH2 => ?hrr1_21)
      case hsr1_21 => exact S2i0 (by have hG := hH; replace hG := S2o0 hG; (try dsimp only at hG); have q0 := hG.1; have q1 := hG.2.1; have q2 := hG.2.2.1; have q3 := hG.2.2.2.1; have q4 := hG.2.2.2.2.1; have q5 := hG.2.2.2.2.2.1; have q6 := hG.2.2.2.2.2.2; exact ⟨keepCell ((Below.refl _ _).alloc (Nat.le_refl _) _) q0, keepCell ((Below.refl _ _).alloc (Nat.le_refl _) _) q1, keepCell ((Below.refl _ _).alloc (Nat.le_refl _) _) q2, keepCell ((Below.refl _ _).alloc (Nat.le_refl _) _) q3, keepCell ((Below.refl _ _).alloc (Nat.le_refl _) _) q4, keepCell ((Below.refl _ _).alloc (Nat.le_refl _) _) q5, q6.alloc q6.size _⟩)
      clear hK K hH
      have hH := hH2
      clear hH2
      try simp only [Act.put, sA, sB, sC]
      have hT : VZ (wx7.alloc (.cells #[.int .i64 0, .int .i64 0] 23)) wx7.heap.size := VZ.here _ _ _ _
      replace hU := keepVZ ((Below.refl _ _).alloc (Nat.le_refl _) (.cells #[.int .i64 0, .int .i64 0] 23)) hU
      obtain ⟨gT, hgT⟩ : ∃ g, g = wx7.heap.size := ⟨_, rfl⟩
      have hlT : w.heap.size + 2 < gT ∧ gU < gT := by rw [hgT]; exact ⟨lt_of_cell q4, hZU⟩
      rw [← hgT] at hT
      try rw [← hgT]
      clear hgT q0 q1 q2 q3 q4 q5 q6
      generalize wx7.alloc (.cells #[.int .i64 0, .int .i64 0] 23) = wx6 at *
      refine U1 5 0 rfl (fun K hK => ?_)
      try clear hb
      go_simp
      (go_at_call 50; refine (HSD.out _).mono ?_; rintro e wn ⟨rfl, hb⟩; (try (replace hT := keepVZ hb hT)); (try (replace hU := keepVZ hb hU)))
      refine hK.out _ _ ?hsr1_22 (fun hH2 => ?hrr1_22)
      case hsr1_22 => exact S2i0 (by have hG := hH; replace hG := S2o0 hG; (try dsimp only at hG); have q0 := hG.1; have q1 := hG.2.1; have q2 := hG.2.2.1; have q3 := hG.2.2.2.1; have q4 := hG.2.2.2.2.1; have q5 := hG.2.2.2.2.2.1; have q6 := hG.2.2.2.2.2.2; exact ⟨keepCell hb q0, keepCell hb q1, keepCell hb q2, keepCell hb q3, keepCell hb q4, keepCell hb q5, keepBelow hb q6⟩)
      clear hK K hH
      have hH := hH2
      clear hH2
      try simp only [Act.put, sA, sB, sC]
      refine wpAnyU_lst (l' := #[true, true, true, true, true, true, true, true, false, false]) (by kernel_rfl) ?_
      have hl2 : w.heap.size + 2 < gT ∧ w.heap.size + 2 < gU ∧ gT ≠ gU := by omega
      clear hlT hlU
      try clear hZT
      try clear hZU
      try clear hb
      revert hH
      revert hU; revert hT
      revert hl2
      revert gU; revert gT
      revert wn
      exact hNr1.out
     exact AllReadyU.nil
    exact AllReadyU.nil
   refine Uc 0 rfl (fun K hK => ?_) ?_
   ·try clear hb
    have hG := hH
    replace hG := S2o0 hG; (try dsimp only at hG); have q0 := hG.1; have q1 := hG.2.1; have q2 := hG.2.2.1; have q3 := hG.2.2.2.1; have q4 := hG.2.2.2.2.1; have q5 := hG.2.2.2.2.2.1; have q6 := hG.2.2.2.2.2.2
    go_simp
    refine hK.out _ _ ?hsr1_23 (fun hH2 => ?hrr1_23)
    case hsr1_23 => exact S2i0 (by have hG := hH; replace hG := S2o0 hG; (try dsimp only at hG); have q0 := hG.1; have q1 := hG.2.1; have q2 := hG.2.2.1; have q3 := hG.2.2.2.1; have q4 := hG.2.2.2.2.1; have q5 := hG.2.2.2.2.2.1; have q6 := hG.2.2.2.2.2.2; exact ⟨keepCell ((Below.refl _ _).alloc (Nat.le_refl _) _) q0, keepCell ((Below.refl _ _).alloc (Nat.le_refl _) _) q1, keepCell ((Below.refl _ _).alloc (Nat.le_refl _) _) q2, keepCell ((Below.refl _ _).alloc (Nat.le_refl _) _) q3, keepCell ((Below.refl _ _).alloc (Nat.le_refl _) _) q4, keepCell ((Below.refl _ _).alloc (Nat.le_refl _) _) q5, q6.alloc q6.size _⟩)
    clear hK K hH
    have hH := hH2
    clear hH2
    try simp only [Act.put, sA, sB, sC]
    have hT : VZ ((W.alloc (.cells #[.int .i64 0, .int .i64 0] 23)).drew) W.heap.size := VZ.drew (VZ.here _ _ _ _)
    obtain ⟨gT, hgT⟩ : ∃ g, g = W.heap.size := ⟨_, rfl⟩
    have hlT : w.heap.size + 2 < gT := by rw [hgT]; exact lt_of_cell q4
    rw [← hgT] at hT
    try rw [← hgT]
    clear hgT q0 q1 q2 q3 q4 q5 q6
    generalize (W.alloc (.cells #[.int .i64 0, .int .i64 0] 23)).drew = wx6 at *
    refine Ur [2, 7] ?_
    refine Uc 0 rfl (fun K hK => ?_) ?_
    ·try clear hb
     go_simp
     (go_at_call 50; refine (HSE.out _).mono ?_; rintro e wn ⟨rfl, hb⟩; (try (replace hT := keepVZ hb hT)); (try (replace hU := keepVZ hb hU)))
     refine hK.out _ _ ?hsr1_24 (fun hH2 => ?hrr1_24)
     case hsr1_24 => exact S2i0 (by have hG := hH; replace hG := S2o0 hG; (try dsimp only at hG); have q0 := hG.1; have q1 := hG.2.1; have q2 := hG.2.2.1; have q3 := hG.2.2.2.1; have q4 := hG.2.2.2.2.1; have q5 := hG.2.2.2.2.2.1; have q6 := hG.2.2.2.2.2.2; exact ⟨keepCell hb q0, keepCell hb q1, keepCell hb q2, keepCell hb q3, keepCell hb q4, keepCell hb q5, keepBelow hb q6⟩)
     clear hK K hH
     have hH := hH2
     clear hH2
     try simp only [Act.put, sA, sB, sC]
     refine Ur [5, 7] ?_
     refine Uc 0 rfl (fun K hK => ?_) ?_
     ·try clear hb
      go_simp
      (go_at_call 50; refine (HSD.out _).mono ?_; rintro e wn ⟨rfl, hb⟩; (try (replace hT := keepVZ hb hT)); (try (replace hU := keepVZ hb hU)))
      refine hK.out _ _ ?hsr1_25 (fun hH2 => ?hrr1_25)
      case hsr1_25 => exact S2i0 (by have hG := hH; replace hG := S2o0 hG; (try dsimp only at hG); have q0 := hG.1; have q1 := hG.2.1; have q2 := hG.2.2.1; have q3 := hG.2.2.2.1; have q4 := hG.2.2.2.2.1; have q5 := hG.2.2.2.2.2.1; have q6 := hG.2.2.2.2.2.2; exact ⟨keepCell hb q0, keepCell hb q1, keepCell hb q2, keepCell hb q3, keepCell hb q4, keepCell hb q5, keepBelow hb q6⟩)
      clear hK K hH
      have hH := hH2
      clear hH2
      try simp only [Act.put, sA, sB, sC]
      refine U1 7 0 rfl (fun K hK => ?_)
      try clear hb
      have hG := hH
      replace hG := S2o0 hG; (try dsimp only at hG); have q0 := hG.1; have q1 := hG.2.1; have q2 := hG.2.2.1; have q3 := hG.2.2.2.1; have q4 := hG.2.2.2.2.1; have q5 := hG.2.2.2.2.2.1; have q6 := hG.2.2.2.2.2.2
      have hZT := VZ.lt hT
      go_simp
      refine hK.out _ _ ?hsr1_26 (fun hH2 => ?hrr1_26)
      case hsr1_26 => exact S2i0 (by have hG := hH; replace hG := S2o0 hG; (try dsimp only at hG); have q0 := hG.1; have q1 := hG.2.1; have q2 := hG.2.2.1; have q3 := hG.2.2.2.1; have q4 := hG.2.2.2.2.1; have q5 := hG.2.2.2.2.2.1; have q6 := hG.2.2.2.2.2.2; exact ⟨keepCell ((Below.refl _ _).alloc (Nat.le_refl _) _) q0, keepCell ((Below.refl _ _).alloc (Nat.le_refl _) _) q1, keepCell ((Below.refl _ _).alloc (Nat.le_refl _) _) q2, keepCell ((Below.refl _ _).alloc (Nat.le_refl _) _) q3, keepCell ((Below.refl _ _).alloc (Nat.le_refl _) _) q4, keepCell ((Below.refl _ _).alloc (Nat.le_refl _) _) q5, q6.alloc q6.size _⟩)
      clear hK K hH
      have hH := hH2
      clear hH2
      try simp only [Act.put, sA, sB, sC]
      have hU : VZ (wn.alloc (.cells #[.int .i64 0, .int .i64 0] 23)) wn.heap.size := VZ.here _ _ _ _
      replace hT := keepVZ ((Below.refl _ _).alloc (Nat.le_refl _) (.cells #[.int .i64 0, .int .i64 0] 23)) hT
      obtain ⟨gU, hgU⟩ : ∃ g, g = wn.heap.size := ⟨_, rfl⟩
      have hlU : w.heap.size + 2 < gU ∧ gT < gU := by rw [hgU]; exact ⟨lt_of_cell q4, hZT⟩
      rw [← hgU] at hU
      try rw [← hgU]
      clear hgU q0 q1 q2 q3 q4 q5 q6
      generalize wn.alloc (.cells #[.int .i64 0, .int .i64 0] 23) = wx7 at *
      refine wpAnyU_lst (l' := #[true, true, true, true, true, true, true, true, false, false]) (by kernel_rfl) ?_
      have hl2 : w.heap.size + 2 < gT ∧ w.heap.size + 2 < gU ∧ gT ≠ gU := by omega
      clear hlT hlU
      try clear hZT
      try clear hZU
      try clear hb
      revert hH
      revert hU; revert hT
      revert hl2
      revert gU; revert gT
      revert wx7
      exact hNr1.out
     refine Uc 0 rfl (fun K hK => ?_) ?_
     ·try clear hb
      have hG := hH
      replace hG := S2o0 hG; (try dsimp only at hG); have q0 := hG.1; have q1 := hG.2.1; have q2 := hG.2.2.1; have q3 := hG.2.2.2.1; have q4 := hG.2.2.2.2.1; have q5 := hG.2.2.2.2.2.1; have q6 := hG.2.2.2.2.2.2
      have hZT := VZ.lt hT
      go_simp
      refine hK.out _ _ ?hsr1_27 (fun hH2 => ?hrr1_27)
      case hsr1_27 => exact S2i0 (by have hG := hH; replace hG := S2o0 hG; (try dsimp only at hG); have q0 := hG.1; have q1 := hG.2.1; have q2 := hG.2.2.1; have q3 := hG.2.2.2.1; have q4 := hG.2.2.2.2.1; have q5 := hG.2.2.2.2.2.1; have q6 := hG.2.2.2.2.2.2; exact ⟨keepCell ((Below.refl _ _).alloc (Nat.le_refl _) _) q0, keepCell ((Below.refl _ _).alloc (Nat.le_refl _) _) q1, keepCell ((Below.refl _ _).alloc (Nat.le_refl _) _) q2, keepCell ((Below.refl _ _).alloc (Nat.le_refl _) _) q3, keepCell ((Below.refl _ _).alloc (Nat.le_refl _) _) q4, keepCell ((Below.refl _ _).alloc (Nat.le_refl _) _) q5, q6.alloc q6.size _⟩)
      clear hK K hH
      have hH := hH2
      clear hH2
      try simp only [Act.put, sA, sB, sC]
      have hU : VZ (wn.alloc (.cells #[.int .i64 0, .int .i64 0] 23)) wn.heap.size := VZ.here _ _ _ _
      replace hT := keepVZ ((Below.refl _ _).alloc (Nat.le_refl _) (.cells #[.int .i64 0, .int .i64 0] 23)) hT
      obtain ⟨gU, hgU⟩ : ∃ g, g = wn.heap.size := ⟨_, rfl⟩
      have hlU : w.heap.size + 2 < gU ∧ gT < gU := by rw [hgU]; exact ⟨lt_of_cell q4, hZT⟩
      rw [← hgU] at hU
      try rw [← hgU]
      clear hgU q0 q1 q2 q3 q4 q5 q6
      generalize wn.alloc (.cells #[.int .i64 0, .int .i64 0] 23) = wx7 at *
      refine U1 5 0 rfl (fun K hK => ?_)
      try clear hb
      go_simp
      (go_at_call 50; refine (HSD.out _).mono ?_; rintro e wn ⟨rfl, hb⟩; (try (replace hT := keepVZ hb hT)); (try (replace hU := keepVZ hb hU)))
      refine hK.out _ _ ?hsr1_28 (fun hH2 => ?hrr1_28)
      case hsr1_28 => exact S2i0 (by have hG := hH; replace hG := S2o0 hG; (try dsimp only at hG); have q0 := hG.1; have q1 := hG.2.1; have q2 := hG.2.2.1; have q3 := hG.2.2.2.1; have q4 := hG.2.2.2.2.1; have q5 := hG.2.2.2.2.2.1; have q6 := hG.2.2.2.2.2.2; exact ⟨keepCell hb q0, keepCell hb q1, keepCell hb q2, keepCell hb q3, keepCell hb q4, keepCell hb q5, keepBelow hb q6⟩)
      clear hK K hH
      have hH := hH2
      clear hH2
      try simp only [Act.put, sA, sB, sC]
      refine wpAnyU_lst (l' := #[true, true, true, true, true, true, true, true, false, false]) (by kernel_rfl) ?_
      have hl2 : w.heap.size + 2 < gT ∧ w.heap.size + 2 < gU ∧ gT ≠ gU := by omega
      clear hlT hlU
      try clear hZT
      try clear hZU
      try clear hb
      revert hH
      revert hU; revert hT
      revert hl2
      revert gU; revert gT
      revert wn
      exact hNr1.out
     exact AllReadyU.nil
    refine Uc 0 rfl (fun K hK => ?_) ?_
    ·try clear hb
     have hG := hH
     replace hG := S2o0 hG; (try dsimp only at hG); have q0 := hG.1; have q1 := hG.2.1; have q2 := hG.2.2.1; have q3 := hG.2.2.2.1; have q4 := hG.2.2.2.2.1; have q5 := hG.2.2.2.2.2.1; have q6 := hG.2.2.2.2.2.2
     have hZT := VZ.lt hT
     go_simp
     refine hK.out _ _ ?hsr1_29 (fun hH2 => ?hrr1_29)
     case hsr1_29 => exact S2i0 (by have hG := hH; replace hG := S2o0 hG; (try dsimp only at hG); have q0 := hG.1; have q1 := hG.2.1; have q2 := hG.2.2.1; have q3 := hG.2.2.2.1; have q4 := hG.2.2.2.2.1; have q5 := hG.2.2.2.2.2.1; have q6 := hG.2.2.2.2.2.2; exact ⟨keepCell ((Below.refl _ _).alloc (Nat.le_refl _) _) q0, keepCell ((Below.refl _ _).alloc (Nat.le_refl _) _) q1, keepCell ((Below.refl _ _).alloc (Nat.le_refl _) _) q2, keepCell ((Below.refl _ _).alloc (Nat.le_refl _) _) q3, keepCell ((Below.refl _ _).alloc (Nat.le_refl _) _) q4, keepCell ((Below.refl _ _).alloc (Nat.le_refl _) _) q5, q6.alloc q6.size _⟩)
     clear hK K hH
     have hH := hH2
     clear hH2
     try simp only [Act.put, sA, sB, sC]
     have hU : VZ (wx6.alloc (.cells #[.int .i64 0, .int .i64 0] 23)) wx6.heap.size := VZ.here _ _ _ _
     replace hT := keepVZ ((Below.refl _ _).alloc (Nat.le_refl _) (.cells #[.int .i64 0, .int .i64 0] 23)) hT
     obtain ⟨gU, hgU⟩ : ∃ g, g = wx6.heap.size := ⟨_, rfl⟩
     have hlU : w.heap.size + 2 < gU ∧ gT < gU := by rw [hgU]; exact ⟨lt_of_cell q4, hZT⟩
     rw [← hgU] at hU
     try rw [← hgU]
     clear hgU q0 q1 q2 q3 q4 q5 q6
     generalize wx6.alloc (.cells #[.int .i64 0, .int .i64 0] 23) = wx7 at *
     refine U1 2 0 rfl (fun K hK => ?_)
     try clear hb
     go_simp
     (go_at_call 50; refine (HSE.out _).mono ?_; rintro e wn ⟨rfl, hb⟩; (try (replace hT := keepVZ hb hT)); (try (replace hU := keepVZ hb hU)))
     refine hK.out _ _ ?hsr1_30 (fun hH2 => ?hrr1_30)
     case hsr1_30 => exact S2i0 (by have hG := hH; replace hG := S2o0 hG; (try dsimp only at hG); have q0 := hG.1; have q1 := hG.2.1; have q2 := hG.2.2.1; have q3 := hG.2.2.2.1; have q4 := hG.2.2.2.2.1; have q5 := hG.2.2.2.2.2.1; have q6 := hG.2.2.2.2.2.2; exact ⟨keepCell hb q0, keepCell hb q1, keepCell hb q2, keepCell hb q3, keepCell hb q4, keepCell hb q5, keepBelow hb q6⟩)
     clear hK K hH
     have hH := hH2
     clear hH2
     try simp only [Act.put, sA, sB, sC]
     refine U1 5 0 rfl (fun K hK => ?_)
     try clear hb
     go_simp
     (go_at_call 50; refine (HSD.out _).mono ?_; rintro e wn ⟨rfl, hb⟩; (try (replace hT := keepVZ hb hT)); (try (replace hU := keepVZ hb hU)))
     refine hK.out _ _ ?hsr1_31 (fun hH2 => ?hrr1_31)
     case hsr1_31 => exact S2i0 (by have hG := hH; replace hG := S2o0 hG; (try dsimp only at hG); have q0 := hG.1; have q1 := hG.2.1; have q2 := hG.2.2.1; have q3 := hG.2.2.2.1; have q4 := hG.2.2.2.2.1; have q5 := hG.2.2.2.2.2.1; have q6 := hG.2.2.2.2.2.2; exact ⟨keepCell hb q0, keepCell hb q1, keepCell hb q2, keepCell hb q3, keepCell hb q4, keepCell hb q5, keepBelow hb q6⟩)
     clear hK K hH
     have hH := hH2
     clear hH2
     try simp only [Act.put, sA, sB, sC]
     refine wpAnyU_lst (l' := #[true, true, true, true, true, true, true, true, false, false]) (by kernel_rfl) ?_
     have hl2 : w.heap.size + 2 < gT ∧ w.heap.size + 2 < gU ∧ gT ≠ gU := by omega
     clear hlT hlU
     try clear hZT
     try clear hZU
     try clear hb
     revert hH
     revert hU; revert hT
     revert hl2
     revert gU; revert gT
     revert wn
     exact hNr1.out
    exact AllReadyU.nil
   refine Uc 0 rfl (fun K hK => ?_) ?_
   ·try clear hb
    have hG := hH
    replace hG := S2o0 hG; (try dsimp only at hG); have q0 := hG.1; have q1 := hG.2.1; have q2 := hG.2.2.1; have q3 := hG.2.2.2.1; have q4 := hG.2.2.2.2.1; have q5 := hG.2.2.2.2.2.1; have q6 := hG.2.2.2.2.2.2
    go_simp
    refine hK.out _ _ ?hsr1_32 (fun hH2 => ?hrr1_32)
    case hsr1_32 => exact S2i0 (by have hG := hH; replace hG := S2o0 hG; (try dsimp only at hG); have q0 := hG.1; have q1 := hG.2.1; have q2 := hG.2.2.1; have q3 := hG.2.2.2.1; have q4 := hG.2.2.2.2.1; have q5 := hG.2.2.2.2.2.1; have q6 := hG.2.2.2.2.2.2; exact ⟨keepCell ((Below.refl _ _).alloc (Nat.le_refl _) _) q0, keepCell ((Below.refl _ _).alloc (Nat.le_refl _) _) q1, keepCell ((Below.refl _ _).alloc (Nat.le_refl _) _) q2, keepCell ((Below.refl _ _).alloc (Nat.le_refl _) _) q3, keepCell ((Below.refl _ _).alloc (Nat.le_refl _) _) q4, keepCell ((Below.refl _ _).alloc (Nat.le_refl _) _) q5, q6.alloc q6.size _⟩)
    clear hK K hH
    have hH := hH2
    clear hH2
    try simp only [Act.put, sA, sB, sC]
    have hU : VZ ((W.alloc (.cells #[.int .i64 0, .int .i64 0] 23)).drew) W.heap.size := VZ.drew (VZ.here _ _ _ _)
    obtain ⟨gU, hgU⟩ : ∃ g, g = W.heap.size := ⟨_, rfl⟩
    have hlU : w.heap.size + 2 < gU := by rw [hgU]; exact lt_of_cell q4
    rw [← hgU] at hU
    try rw [← hgU]
    clear hgU q0 q1 q2 q3 q4 q5 q6
    generalize (W.alloc (.cells #[.int .i64 0, .int .i64 0] 23)).drew = wx7 at *
    refine Ur [2, 6] ?_
    refine Uc 0 rfl (fun K hK => ?_) ?_
    ·try clear hb
     go_simp
     (go_at_call 50; refine (HSE.out _).mono ?_; rintro e wn ⟨rfl, hb⟩; (try (replace hT := keepVZ hb hT)); (try (replace hU := keepVZ hb hU)))
     refine hK.out _ _ ?hsr1_33 (fun hH2 => ?hrr1_33)
     case hsr1_33 => exact S2i0 (by have hG := hH; replace hG := S2o0 hG; (try dsimp only at hG); have q0 := hG.1; have q1 := hG.2.1; have q2 := hG.2.2.1; have q3 := hG.2.2.2.1; have q4 := hG.2.2.2.2.1; have q5 := hG.2.2.2.2.2.1; have q6 := hG.2.2.2.2.2.2; exact ⟨keepCell hb q0, keepCell hb q1, keepCell hb q2, keepCell hb q3, keepCell hb q4, keepCell hb q5, keepBelow hb q6⟩)
     clear hK K hH
     have hH := hH2
     clear hH2
     try simp only [Act.put, sA, sB, sC]
     refine Ur [5, 6] ?_
     refine Uc 0 rfl (fun K hK => ?_) ?_
     ·try clear hb
      go_simp
      (go_at_call 50; refine (HSD.out _).mono ?_; rintro e wn ⟨rfl, hb⟩; (try (replace hT := keepVZ hb hT)); (try (replace hU := keepVZ hb hU)))
      refine hK.out _ _ ?hsr1_34 (fun hH2 => ?hrr1_34)
      case hsr1_34 => exact S2i0 (by have hG := hH; replace hG := S2o0 hG; (try dsimp only at hG); have q0 := hG.1; have q1 := hG.2.1; have q2 := hG.2.2.1; have q3 := hG.2.2.2.1; have q4 := hG.2.2.2.2.1; have q5 := hG.2.2.2.2.2.1; have q6 := hG.2.2.2.2.2.2; exact ⟨keepCell hb q0, keepCell hb q1, keepCell hb q2, keepCell hb q3, keepCell hb q4, keepCell hb q5, keepBelow hb q6⟩)
      clear hK K hH
      have hH := hH2
      clear hH2
      try simp only [Act.put, sA, sB, sC]
      refine U1 6 0 rfl (fun K hK => ?_)
      try clear hb
      have hG := hH
      replace hG := S2o0 hG; (try dsimp only at hG); have q0 := hG.1; have q1 := hG.2.1; have q2 := hG.2.2.1; have q3 := hG.2.2.2.1; have q4 := hG.2.2.2.2.1; have q5 := hG.2.2.2.2.2.1; have q6 := hG.2.2.2.2.2.2
      have hZU := VZ.lt hU
      go_simp
      refine hK.out _ _ ?hsr1_35 (fun hH2 => ?hrr1_35)
      case hsr1_35 => exact S2i0 (by have hG := hH; replace hG := S2o0 hG; (try dsimp only at hG); have q0 := hG.1; have q1 := hG.2.1; have q2 := hG.2.2.1; have q3 := hG.2.2.2.1; have q4 := hG.2.2.2.2.1; have q5 := hG.2.2.2.2.2.1; have q6 := hG.2.2.2.2.2.2; exact ⟨keepCell ((Below.refl _ _).alloc (Nat.le_refl _) _) q0, keepCell ((Below.refl _ _).alloc (Nat.le_refl _) _) q1, keepCell ((Below.refl _ _).alloc (Nat.le_refl _) _) q2, keepCell ((Below.refl _ _).alloc (Nat.le_refl _) _) q3, keepCell ((Below.refl _ _).alloc (Nat.le_refl _) _) q4, keepCell ((Below.refl _ _).alloc (Nat.le_refl _) _) q5, q6.alloc q6.size _⟩)
      clear hK K hH
      have hH := hH2
      clear hH2
      try simp only [Act.put, sA, sB, sC]
      have hT : VZ (wn.alloc (.cells #[.int .i64 0, .int .i64 0] 23)) wn.heap.size := VZ.here _ _ _ _
      replace hU := keepVZ ((Below.refl _ _).alloc (Nat.le_refl _) (.cells #[.int .i64 0, .int .i64 0] 23)) hU
      obtain ⟨gT, hgT⟩ : ∃ g, g = wn.heap.size := ⟨_, rfl⟩
      have hlT : w.heap.size + 2 < gT ∧ gU < gT := by rw [hgT]; exact ⟨lt_of_cell q4, hZU⟩
      rw [← hgT] at hT
      try rw [← hgT]
      clear hgT q0 q1 q2 q3 q4 q5 q6
      generalize wn.alloc (.cells #[.int .i64 0, .int .i64 0] 23) = wx6 at *
      refine wpAnyU_lst (l' := #[true, true, true, true, true, true, true, true, false, false]) (by kernel_rfl) ?_
      have hl2 : w.heap.size + 2 < gT ∧ w.heap.size + 2 < gU ∧ gT ≠ gU := by omega
      clear hlT hlU
      try clear hZT
      try clear hZU
      try clear hb
      revert hH
      revert hU; revert hT
      revert hl2
      revert gU; revert gT
      revert wx6
      exact hNr1.out
     refine Uc 0 rfl (fun K hK => ?_) ?_
     ·try clear hb
      have hG := hH
      replace hG := S2o0 hG; (try dsimp only at hG); have q0 := hG.1; have q1 := hG.2.1; have q2 := hG.2.2.1; have q3 := hG.2.2.2.1; have q4 := hG.2.2.2.2.1; have q5 := hG.2.2.2.2.2.1; have q6 := hG.2.2.2.2.2.2
      have hZU := VZ.lt hU
      go_simp
      refine hK.out _ _ ?hsr1_36 (fun hH2 => ?hrr1_36)
      case hsr1_36 => exact S2i0 (by have hG := hH; replace hG := S2o0 hG; (try dsimp only at hG); have q0 := hG.1; have q1 := hG.2.1; have q2 := hG.2.2.1; have q3 := hG.2.2.2.1; have q4 := hG.2.2.2.2.1; have q5 := hG.2.2.2.2.2.1; have q6 := hG.2.2.2.2.2.2; exact ⟨keepCell ((Below.refl _ _).alloc (Nat.le_refl _) _) q0, keepCell ((Below.refl _ _).alloc (Nat.le_refl _) _) q1, keepCell ((Below.refl _ _).alloc (Nat.le_refl _) _) q2, keepCell ((Below.refl _ _).alloc (Nat.le_refl _) _) q3, keepCell ((Below.refl _ _).alloc (Nat.le_refl _) _) q4, keepCell ((Below.refl _ _).alloc (Nat.le_refl _) _) q5, q6.alloc q6.size _⟩)
      clear hK K hH
      have hH := hH2
      clear hH2
      try simp only [Act.put, sA, sB, sC]
      have hT : VZ (wn.alloc (.cells #[.int .i64 0, .int .i64 0] 23)) wn.heap.size := VZ.here _ _ _ _
      replace hU := keepVZ ((Below.refl _ _).alloc (Nat.le_refl _) (.cells #[.int .i64 0, .int .i64 0] 23)) hU
      obtain ⟨gT, hgT⟩ : ∃ g, g = wn.heap.size := ⟨_, rfl⟩
      have hlT : w.heap.size + 2 < gT ∧ gU < gT := by rw [hgT]; exact ⟨lt_of_cell q4, hZU⟩
      rw [← hgT] at hT
      try rw [← hgT]
      clear hgT q0 q1 q2 q3 q4 q5 q6
      generalize wn.alloc (.cells #[.int .i64 0, .int .i64 0] 23) = wx6 at *
      refine U1 5 0 rfl (fun K hK => ?_)
      try clear hb
      go_simp
      (go_at_call 50; refine (HSD.out _).mono ?_; rintro e wn ⟨rfl, hb⟩; (try (replace hT := keepVZ hb hT)); (try (replace hU := keepVZ hb hU)))
      refine hK.out _ _ ?hsr1_37 (fun hH2 => ?hrr1_37)
      case hsr1_37 => exact S2i0 (by have hG := hH; replace hG := S2o0 hG; (try dsimp only at hG); have q0 := hG.1; have q1 := hG.2.1; have q2 := hG.2.2.1; have q3 := hG.2.2.2.1; have q4 := hG.2.2.2.2.1; have q5 := hG.2.2.2.2.2.1; have q6 := hG.2.2.2.2.2.2; exact ⟨keepCell hb q0, keepCell hb q1, keepCell hb q2, keepCell hb q3, keepCell hb q4, keepCell hb q5, keepBelow hb q6⟩)
      clear hK K hH
      have hH := hH2
      clear hH2
      try simp only [Act.put, sA, sB, sC]
      refine wpAnyU_lst (l' := #[true, true, true, true, true, true, true, true, false, false]) (by kernel_rfl) ?_
      have hl2 : w.heap.size + 2 < gT ∧ w.heap.size + 2 < gU ∧ gT ≠ gU := by omega
      clear hlT hlU
      try clear hZT
      try clear hZU
      try clear hb
      revert hH
      revert hU; revert hT
      revert hl2
      revert gU; revert gT
      revert wn
      exact hNr1.out
     exact AllReadyU.nil
    refine Uc 0 rfl (fun K hK => ?_) ?_
    ·try clear hb
     have hG := hH
     replace hG := S2o0 hG; (try dsimp only at hG); have q0 := hG.1; have q1 := hG.2.1; have q2 := hG.2.2.1; have q3 := hG.2.2.2.1; have q4 := hG.2.2.2.2.1; have q5 := hG.2.2.2.2.2.1; have q6 := hG.2.2.2.2.2.2
     have hZU := VZ.lt hU
     go_simp
     refine hK.out _ _ ?hsr1_38 (fun hH2 => ?hrr1_38)
     case hsr1_38 => exact S2i0 (by have hG := hH; replace hG := S2o0 hG; (try dsimp only at hG); have q0 := hG.1; have q1 := hG.2.1; have q2 := hG.2.2.1; have q3 := hG.2.2.2.1; have q4 := hG.2.2.2.2.1; have q5 := hG.2.2.2.2.2.1; have q6 := hG.2.2.2.2.2.2; exact ⟨keepCell ((Below.refl _ _).alloc (Nat.le_refl _) _) q0, keepCell ((Below.refl _ _).alloc (Nat.le_refl _) _) q1, keepCell ((Below.refl _ _).alloc (Nat.le_refl _) _) q2, keepCell ((Below.refl _ _).alloc (Nat.le_refl _) _) q3, keepCell ((Below.refl _ _).alloc (Nat.le_refl _) _) q4, keepCell ((Below.refl _ _).alloc (Nat.le_refl _) _) q5, q6.alloc q6.size _⟩)
     clear hK K hH
     have hH := hH2
     clear hH2
     try simp only [Act.put, sA, sB, sC]
     have hT : VZ (wx7.alloc (.cells #[.int .i64 0, .int .i64 0] 23)) wx7.heap.size := VZ.here _ _ _ _
     replace hU := keepVZ ((Below.refl _ _).alloc (Nat.le_refl _) (.cells #[.int .i64 0, .int .i64 0] 23)) hU
     obtain ⟨gT, hgT⟩ : ∃ g, g = wx7.heap.size := ⟨_, rfl⟩
     have hlT : w.heap.size + 2 < gT ∧ gU < gT := by rw [hgT]; exact ⟨lt_of_cell q4, hZU⟩
     rw [← hgT] at hT
     try rw [← hgT]
     clear hgT q0 q1 q2 q3 q4 q5 q6
     generalize wx7.alloc (.cells #[.int .i64 0, .int .i64 0] 23) = wx6 at *
     refine U1 2 0 rfl (fun K hK => ?_)
     try clear hb
     go_simp
     (go_at_call 50; refine (HSE.out _).mono ?_; rintro e wn ⟨rfl, hb⟩; (try (replace hT := keepVZ hb hT)); (try (replace hU := keepVZ hb hU)))
     refine hK.out _ _ ?hsr1_39 (fun hH2 => ?hrr1_39)
     case hsr1_39 => exact S2i0 (by have hG := hH; replace hG := S2o0 hG; (try dsimp only at hG); have q0 := hG.1; have q1 := hG.2.1; have q2 := hG.2.2.1; have q3 := hG.2.2.2.1; have q4 := hG.2.2.2.2.1; have q5 := hG.2.2.2.2.2.1; have q6 := hG.2.2.2.2.2.2; exact ⟨keepCell hb q0, keepCell hb q1, keepCell hb q2, keepCell hb q3, keepCell hb q4, keepCell hb q5, keepBelow hb q6⟩)
     clear hK K hH
     have hH := hH2
     clear hH2
     try simp only [Act.put, sA, sB, sC]
     refine U1 5 0 rfl (fun K hK => ?_)
     try clear hb
     go_simp
     (go_at_call 50; refine (HSD.out _).mono ?_; rintro e wn ⟨rfl, hb⟩; (try (replace hT := keepVZ hb hT)); (try (replace hU := keepVZ hb hU)))
     refine hK.out _ _ ?hsr1_40 (fun hH2 => ?hrr1_40)
     case hsr1_40 => exact S2i0 (by have hG := hH; replace hG := S2o0 hG; (try dsimp only at hG); have q0 := hG.1; have q1 := hG.2.1; have q2 := hG.2.2.1; have q3 := hG.2.2.2.1; have q4 := hG.2.2.2.2.1; have q5 := hG.2.2.2.2.2.1; have q6 := hG.2.2.2.2.2.2; exact ⟨keepCell hb q0, keepCell hb q1, keepCell hb q2, keepCell hb q3, keepCell hb q4, keepCell hb q5, keepBelow hb q6⟩)
     clear hK K hH
     have hH := hH2
     clear hH2
     try simp only [Act.put, sA, sB, sC]
     refine wpAnyU_lst (l' := #[true, true, true, true, true, true, true, true, false, false]) (by kernel_rfl) ?_
     have hl2 : w.heap.size + 2 < gT ∧ w.heap.size + 2 < gU ∧ gT ≠ gU := by omega
     clear hlT hlU
     try clear hZT
     try clear hZU
     try clear hb
     revert hH
     revert hU; revert hT
     revert hl2
     revert gU; revert gT
     revert wn
     exact hNr1.out
    exact AllReadyU.nil
   exact AllReadyU.nil
  case prfr1 =>
   intro wX gT gU hl2 hT hU hH
   have hWr1 : Weaker (S2 (fun w' => w'.cell? ⟨w.heap.size, 0, none⟩ = some (.int .i64 x1) ∧ w'.cell? ⟨w.heap.size, 1, none⟩ = some (.int .i64 y1) ∧ w'.cell? ⟨w.heap.size + 1, 0, none⟩ = some (.int .i64 x2) ∧ w'.cell? ⟨w.heap.size + 1, 1, none⟩ = some (.int .i64 y2) ∧ w'.cell? ⟨w.heap.size + 2, 0, none⟩ = some (.int .i64 x3) ∧ w'.cell? ⟨w.heap.size + 2, 1, none⟩ = some (.int .i64 y3) ∧ Below w.heap.size w w')) := weaker2 _
   refine U1 8 1 rfl (fun K hK => ?_)
   have hG := hH
   replace hG := S2o0 hG; (try dsimp only at hG); have q0 := hG.1; have q1 := hG.2.1; have q2 := hG.2.2.1; have q3 := hG.2.2.2.1; have q4 := hG.2.2.2.2.1; have q5 := hG.2.2.2.2.2.1; have q6 := hG.2.2.2.2.2.2
   have HT := hid hT
   have HU := hid hU
   obtain ⟨⟨z0, z1, y0, y1'⟩, yf⟩ := hT
   obtain ⟨⟨u0, u1, v0, v1⟩, uf⟩ := hU
   go_simp
   refine hK.out _ _ ?hsr1_9 (fun hH2 => ?hrr1_9)
   case hsr1_9 => exact S2i1
   clear hK K hH
   have hH := hH2
   clear hH2
   try simp only [Act.put, sA, sB, sC]
   refine U1 9 1 rfl (fun K hK => ?_)
   go_simp
   refine hK.out _ _ ?hsr1_10 (fun hH2 => ?hrr1_10)
   case hsr1_10 => exact S2i1
   clear hK K hH
   have hH := hH2
   clear hH2
   try simp only [Act.put, sA, sB, sC]
   refine wpAnyU_done (by kernel_rfl) ?_ _ _
   refine NoPanic.normal ?_
   go_wp2_with fail
   go_meet
   exact apart_end (by omega) (by omega) (by omega) q0 q1 q4 q5 q6 HT.out HU.out
 case rest =>
  obtain ⟨gT, gU, rfl, rfl, e0, e1, d0, d1, i0, i1, k0, k1, hB⟩ := hcut
  clear hB0 j0 j1 HSE HSD
  go_wp2_with fail
  refine (HDT.out _).mono ?_
  rintro e w2 ⟨rfl, hb2⟩
  replace e0 := keepCell hb2 e0
  replace e1 := keepCell hb2 e1
  replace d0 := keepCell hb2 d0
  replace d1 := keepCell hb2 d1
  replace i0 := keepCell hb2 i0
  replace i1 := keepCell hb2 i1
  replace k0 := keepCell hb2 k0
  replace k1 := keepCell hb2 k1
  replace hB := keepBelow hb2 hB
  clear hb2
  go_wp2_with fail
  refine (HCT.out _).mono ?_
  rintro e w3 ⟨rfl, hb3⟩
  replace e0 := keepCell hb3 e0
  replace e1 := keepCell hb3 e1
  replace d0 := keepCell hb3 d0
  replace d1 := keepCell hb3 d1
  replace i0 := keepCell hb3 i0
  replace i1 := keepCell hb3 i1
  replace k0 := keepCell hb3 k0
  replace k1 := keepCell hb3 k1
  replace hB := keepBelow hb3 hB
  clear hb3
  clear HDT HCT
  by_cases hc : ct ≤ 0
  ·have HR : Hid (Z = rootZ DD) := by show _ = _; rw [HFZ.out, if_pos (by have := HPT.out; omega)]
   clear HFZ HPT HPU HSZ HCU HFT HSF HCR HEE HRF e0 e1 i0 i1 k0 k1
   go_wp2_with fail
   refine (HRD.out _).mono ?_
   rintro e w4 ⟨rfl, hb4⟩
   have hB4 := keepBelow hb4 hB
   clear hb4 hB HRD
   go_wp2
   go_returns
   exact ret_int HR.out.symm hB4
  ·have HT0 := hid (show 0 < T by have := HPT.out; omega)
   have HF2 : Hid (Z = if 0 ≤ U then rootZ FF else rootZ (C * C / S)) := by show _ = _; rw [HFZ.out, if_neg (by have := HT0.out; omega)]
   have HS0 : Hid (0 < S) := by rcases HSZ.out with q | q; exact absurd q (by have := HT0.out; omega); exact q
   clear HFZ HPT HSZ HRD v1 v2 v3
   go_wp2_with fail
   refine (HSF.out _).mono ?_
   rintro e w4 ⟨rfl, hb4⟩
   replace e0 := keepCell hb4 e0
   replace e1 := keepCell hb4 e1
   replace d0 := keepCell hb4 d0
   replace d1 := keepCell hb4 d1
   replace hB := keepBelow hb4 hB
   clear hb4
   obtain ⟨gF, hgF⟩ : ∃ g, g = w4.heap.size := ⟨_, rfl⟩
   obtain ⟨w5, hw5⟩ : ∃ w', w' = w4.alloc (.cells #[.int .i64 fx, .int .i64 fy] 23) := ⟨_, rfl⟩
   have up : ∀ b o v, w4.cell? ⟨b, o, none⟩ = some v → w5.cell? ⟨b, o, none⟩ = some v := fun b o v h => by rw [hw5]; exact keepCell ((Below.refl _ _).alloc (Nat.le_refl _) _) h
   replace e0 := up _ _ _ e0
   replace e1 := up _ _ _ e1
   replace d0 := up _ _ _ d0
   replace d1 := up _ _ _ d1
   have f0 : w5.cell? ⟨gF, 0, none⟩ = some (.int .i64 fx) := by rw [hw5, hgF]; go_simp
   have f1 : w5.cell? ⟨gF, 1, none⟩ = some (.int .i64 fy) := by rw [hw5, hgF]; go_simp
   replace hB : Below w.heap.size w w5 := by rw [hw5]; exact hB.alloc hB.size _
   clear up i0 i1 k0 k1 HSF
   go_upto_region 5 with fail
   rw [← hw5, ← hgF]
   clear hw5 hgF
   go_wp2_with fail
   refine (HFT.out _).mono ?_
   rintro e w6 ⟨rfl, hb6⟩
   replace e0 := keepCell hb6 e0
   replace e1 := keepCell hb6 e1
   replace d0 := keepCell hb6 d0
   replace d1 := keepCell hb6 d1
   replace f0 := keepCell hb6 f0
   replace f1 := keepCell hb6 f1
   replace hB := keepBelow hb6 hB
   clear hb6
   go_wp2_with fail
   refine (HCU.out _).mono ?_
   rintro e w8 ⟨rfl, hb8⟩
   replace e0 := keepCell hb8 e0
   replace e1 := keepCell hb8 e1
   replace d0 := keepCell hb8 d0
   replace d1 := keepCell hb8 d1
   replace f0 := keepCell hb8 f0
   replace f1 := keepCell hb8 f1
   replace hB := keepBelow hb8 hB
   clear hb8
   clear HFT HCU
   by_cases hu : 0 ≤ cu
   ·have HR : Hid (Z = rootZ FF) := by show _ = _; rw [HF2.out, if_pos (HPU.out.1 hu)]
    clear HF2 HPU HCR HEE HT0 HS0 e0 e1 d0 d1
    go_wp2_with fail
    refine (HRF.out _).mono ?_
    rintro e w9 ⟨rfl, hb9⟩
    have hB9 := keepBelow hb9 hB
    clear hb9 hB HRF
    go_wp2
    go_returns
    exact ret_int HR.out.symm hB9
   ·have HR : Hid (Z = rootZ (C * C / S)) := by show _ = _; rw [HF2.out, if_neg (fun h => hu (HPU.out.2 h))]
    clear HF2 HPU HRF HT0 f0 f1 v4 v5 v6
    have hB8 := hB.drew
    go_upto_region 7 with fail
    go_cut [10, 11] from 60 to 65 (fun t u wx => BigE w C S t u wx)
    case first =>
     clear hB bN bE bCC bTT bUU hz HS0 HR hc hu
     refine (fun (hNr2 : Hid (?Tr2 : Prop)) => ?mainr2) (hid ?prfr2)
     case mainr2 =>
      refine wp_region_noPanic ?_
      refine wp_region_U (S := (S2 (fun w' => w'.cell? ⟨gT, 0, none⟩ = some (.int .i64 ex) ∧ w'.cell? ⟨gT, 1, none⟩ = some (.int .i64 ey) ∧ w'.cell? ⟨gU, 0, none⟩ = some (.int .i64 dx) ∧ w'.cell? ⟨gU, 1, none⟩ = some (.int .i64 dy) ∧ Below w.heap.size w w'))) (T := (fun j => [0, 0, 0, 0, 0, 0, 0, 0, 1, 1].getD j 0)) (by kernel_rfl) (S2i0 ⟨e0, e1, d0, d1, hB8⟩) (fun hH => ?_)
      have hWr2 : Weaker (S2 (fun w' => w'.cell? ⟨gT, 0, none⟩ = some (.int .i64 ex) ∧ w'.cell? ⟨gT, 1, none⟩ = some (.int .i64 ey) ∧ w'.cell? ⟨gU, 0, none⟩ = some (.int .i64 dx) ∧ w'.cell? ⟨gU, 1, none⟩ = some (.int .i64 dy) ∧ Below w.heap.size w w')) := weaker2 _
      refine Ut 0 60 9 0 0 (v := ?vr2_1) rfl hWr2 hH ?hyr2_1 ?_
      case hyr2_1 => (intro w' hSw; replace hSw := S2o0 hSw; (try dsimp only at hSw); have q0 := hSw.1; have q1 := hSw.2.1; have q2 := hSw.2.2.1; have q3 := hSw.2.2.2.1; have q4 := hSw.2.2.2.2; go_simp; try (with_reducible rfl))
      simp only [sB, sC]
      refine Ut 1 61 8 0 0 (v := ?vr2_2) rfl hWr2 hH ?hyr2_2 ?_
      case hyr2_2 => (intro w' hSw; replace hSw := S2o0 hSw; (try dsimp only at hSw); have q0 := hSw.1; have q1 := hSw.2.1; have q2 := hSw.2.2.1; have q3 := hSw.2.2.2.1; have q4 := hSw.2.2.2.2; go_simp; try (with_reducible rfl))
      simp only [sB, sC]
      refine Ut 3 63 7 0 0 (v := ?vr2_3) rfl hWr2 hH ?hyr2_3 ?_
      case hyr2_3 => (intro w' hSw; replace hSw := S2o0 hSw; (try dsimp only at hSw); have q0 := hSw.1; have q1 := hSw.2.1; have q2 := hSw.2.2.1; have q3 := hSw.2.2.2.1; have q4 := hSw.2.2.2.2; go_simp; try (with_reducible rfl))
      simp only [sB, sC]
      refine Ut 4 64 6 0 0 (v := ?vr2_4) rfl hWr2 hH ?hyr2_4 ?_
      case hyr2_4 => (intro w' hSw; replace hSw := S2o0 hSw; (try dsimp only at hSw); have q0 := hSw.1; have q1 := hSw.2.1; have q2 := hSw.2.2.1; have q3 := hSw.2.2.2.1; have q4 := hSw.2.2.2.2; go_simp; try (with_reducible rfl))
      simp only [sB, sC]
      refine Ur [2, 6, 7] ?_
      refine Uc 0 rfl (fun K hK => ?_) ?_
      ·try clear hb
       go_simp
       (go_at_call 51; refine (HCR.out _).mono ?_; rintro e wn ⟨rfl, hb⟩; (try (replace hT := keepBlk hb hT)); (try (replace hU := keepBlk hb hU)))
       refine hK.out _ _ ?hsr2_5 (fun hH2 => ?hrr2_5)
       case hsr2_5 => exact S2i0 (by have hG := hH; replace hG := S2o0 hG; (try dsimp only at hG); have q0 := hG.1; have q1 := hG.2.1; have q2 := hG.2.2.1; have q3 := hG.2.2.2.1; have q4 := hG.2.2.2.2; exact ⟨keepCell hb q0, keepCell hb q1, keepCell hb q2, keepCell hb q3, keepBelow hb q4⟩)
       clear hK K hH
       have hH := hH2
       clear hH2
       try simp only [Act.put, sA, sB, sC]
       refine Ur [5, 6, 7] ?_
       refine Uc 0 rfl (fun K hK => ?_) ?_
       ·try clear hb
        go_simp
        (go_at_call 94; refine (HEE.out _).mono ?_; rintro e wn ⟨rfl, hb⟩; (try (replace hT := keepBlk hb hT)); (try (replace hU := keepBlk hb hU)))
        refine hK.out _ _ ?hsr2_6 (fun hH2 => ?hrr2_6)
        case hsr2_6 => exact S2i0 (by have hG := hH; replace hG := S2o0 hG; (try dsimp only at hG); have q0 := hG.1; have q1 := hG.2.1; have q2 := hG.2.2.1; have q3 := hG.2.2.2.1; have q4 := hG.2.2.2.2; exact ⟨keepCell hb q0, keepCell hb q1, keepCell hb q2, keepCell hb q3, keepBelow hb q4⟩)
        clear hK K hH
        have hH := hH2
        clear hH2
        try simp only [Act.put, sA, sB, sC]
        refine Ur [6, 7] ?_
        refine Uc 0 rfl (fun K hK => ?_) ?_
        ·try clear hb
         have hG := hH
         replace hG := S2o0 hG; (try dsimp only at hG); have q0 := hG.1; have q1 := hG.2.1; have q2 := hG.2.2.1; have q3 := hG.2.2.2.1; have q4 := hG.2.2.2.2
         go_simp
         refine hK.out _ _ ?hsr2_7 (fun hH2 => ?hrr2_7)
         case hsr2_7 => exact S2i0 (by have hG := hH; replace hG := S2o0 hG; (try dsimp only at hG); have q0 := hG.1; have q1 := hG.2.1; have q2 := hG.2.2.1; have q3 := hG.2.2.2.1; have q4 := hG.2.2.2.2; exact ⟨keepCell ((Below.refl _ _).alloc (Nat.le_refl _) _) q0, keepCell ((Below.refl _ _).alloc (Nat.le_refl _) _) q1, keepCell ((Below.refl _ _).alloc (Nat.le_refl _) _) q2, keepCell ((Below.refl _ _).alloc (Nat.le_refl _) _) q3, q4.alloc q4.size _⟩)
         clear hK K hH
         have hH := hH2
         clear hH2
         try simp only [Act.put, sA, sB, sC]
         have hT : Blk8 (wn.alloc (.cells #[.int .u32 0, .int .u32 0, .int .u32 0, .int .u32 0, .int .u32 0, .int .u32 0, .int .u32 0, .int .u32 0] 73)) wn.heap.size (fun _ => 0) := Blk8.here _ _ (fun _ => 0)
         obtain ⟨gT, hgT⟩ : ∃ g, g = wn.heap.size := ⟨_, rfl⟩
         have hlT : w.heap.size ≤ gT := by rw [hgT]; exact q4.size
         rw [← hgT] at hT
         try rw [← hgT]
         clear hgT q0 q1 q2 q3 q4
         generalize wn.alloc (.cells #[.int .u32 0, .int .u32 0, .int .u32 0, .int .u32 0, .int .u32 0, .int .u32 0, .int .u32 0, .int .u32 0] 73) = wx6 at *
         refine U1 7 0 rfl (fun K hK => ?_)
         try clear hb
         have hG := hH
         replace hG := S2o0 hG; (try dsimp only at hG); have q0 := hG.1; have q1 := hG.2.1; have q2 := hG.2.2.1; have q3 := hG.2.2.2.1; have q4 := hG.2.2.2.2
         have hZT := Blk8.lt hT
         go_simp
         refine hK.out _ _ ?hsr2_8 (fun hH2 => ?hrr2_8)
         case hsr2_8 => exact S2i0 (by have hG := hH; replace hG := S2o0 hG; (try dsimp only at hG); have q0 := hG.1; have q1 := hG.2.1; have q2 := hG.2.2.1; have q3 := hG.2.2.2.1; have q4 := hG.2.2.2.2; exact ⟨keepCell ((Below.refl _ _).alloc (Nat.le_refl _) _) q0, keepCell ((Below.refl _ _).alloc (Nat.le_refl _) _) q1, keepCell ((Below.refl _ _).alloc (Nat.le_refl _) _) q2, keepCell ((Below.refl _ _).alloc (Nat.le_refl _) _) q3, q4.alloc q4.size _⟩)
         clear hK K hH
         have hH := hH2
         clear hH2
         try simp only [Act.put, sA, sB, sC]
         have hU : Blk8 (wx6.alloc (.cells #[.int .u32 0, .int .u32 0, .int .u32 0, .int .u32 0, .int .u32 0, .int .u32 0, .int .u32 0, .int .u32 0] 73)) wx6.heap.size (fun _ => 0) := Blk8.here _ _ (fun _ => 0)
         replace hT := keepBlk ((Below.refl _ _).alloc (Nat.le_refl _) (.cells #[.int .u32 0, .int .u32 0, .int .u32 0, .int .u32 0, .int .u32 0, .int .u32 0, .int .u32 0, .int .u32 0] 73)) hT
         obtain ⟨gU, hgU⟩ : ∃ g, g = wx6.heap.size := ⟨_, rfl⟩
         have hlU : w.heap.size ≤ gU ∧ gT < gU := by rw [hgU]; exact ⟨q4.size, hZT⟩
         rw [← hgU] at hU
         try rw [← hgU]
         clear hgU q0 q1 q2 q3 q4
         generalize wx6.alloc (.cells #[.int .u32 0, .int .u32 0, .int .u32 0, .int .u32 0, .int .u32 0, .int .u32 0, .int .u32 0, .int .u32 0] 73) = wx7 at *
         refine wpAnyU_lst (l' := #[true, true, true, true, true, true, true, true, false, false]) (by kernel_rfl) ?_
         have hl2 : w.heap.size ≤ gT ∧ w.heap.size ≤ gU ∧ gT ≠ gU := by omega
         clear hlT hlU
         try clear hZT
         try clear hZU
         try clear hb
         revert hH
         revert hU; revert hT
         revert hl2
         revert gU; revert gT
         revert wx7
         exact hNr2.out
        refine Uc 0 rfl (fun K hK => ?_) ?_
        ·try clear hb
         have hG := hH
         replace hG := S2o0 hG; (try dsimp only at hG); have q0 := hG.1; have q1 := hG.2.1; have q2 := hG.2.2.1; have q3 := hG.2.2.2.1; have q4 := hG.2.2.2.2
         go_simp
         refine hK.out _ _ ?hsr2_11 (fun hH2 => ?hrr2_11)
         case hsr2_11 => exact S2i0 (by have hG := hH; replace hG := S2o0 hG; (try dsimp only at hG); have q0 := hG.1; have q1 := hG.2.1; have q2 := hG.2.2.1; have q3 := hG.2.2.2.1; have q4 := hG.2.2.2.2; exact ⟨keepCell ((Below.refl _ _).alloc (Nat.le_refl _) _) q0, keepCell ((Below.refl _ _).alloc (Nat.le_refl _) _) q1, keepCell ((Below.refl _ _).alloc (Nat.le_refl _) _) q2, keepCell ((Below.refl _ _).alloc (Nat.le_refl _) _) q3, q4.alloc q4.size _⟩)
         clear hK K hH
         have hH := hH2
         clear hH2
         try simp only [Act.put, sA, sB, sC]
         have hU : Blk8 (wn.alloc (.cells #[.int .u32 0, .int .u32 0, .int .u32 0, .int .u32 0, .int .u32 0, .int .u32 0, .int .u32 0, .int .u32 0] 73)) wn.heap.size (fun _ => 0) := Blk8.here _ _ (fun _ => 0)
         obtain ⟨gU, hgU⟩ : ∃ g, g = wn.heap.size := ⟨_, rfl⟩
         have hlU : w.heap.size ≤ gU := by rw [hgU]; exact q4.size
         rw [← hgU] at hU
         try rw [← hgU]
         clear hgU q0 q1 q2 q3 q4
         generalize wn.alloc (.cells #[.int .u32 0, .int .u32 0, .int .u32 0, .int .u32 0, .int .u32 0, .int .u32 0, .int .u32 0, .int .u32 0] 73) = wx7 at *
         refine U1 6 0 rfl (fun K hK => ?_)
         try clear hb
         have hG := hH
         replace hG := S2o0 hG; (try dsimp only at hG); have q0 := hG.1; have q1 := hG.2.1; have q2 := hG.2.2.1; have q3 := hG.2.2.2.1; have q4 := hG.2.2.2.2
         have hZU := Blk8.lt hU
         go_simp
         refine hK.out _ _ ?hsr2_12 (fun hH2 => ?hrr2_12)
         case hsr2_12 => exact S2i0 (by have hG := hH; replace hG := S2o0 hG; (try dsimp only at hG); have q0 := hG.1; have q1 := hG.2.1; have q2 := hG.2.2.1; have q3 := hG.2.2.2.1; have q4 := hG.2.2.2.2; exact ⟨keepCell ((Below.refl _ _).alloc (Nat.le_refl _) _) q0, keepCell ((Below.refl _ _).alloc (Nat.le_refl _) _) q1, keepCell ((Below.refl _ _).alloc (Nat.le_refl _) _) q2, keepCell ((Below.refl _ _).alloc (Nat.le_refl _) _) q3, q4.alloc q4.size _⟩)
         clear hK K hH
         have hH := hH2
         clear hH2
         try simp only [Act.put, sA, sB, sC]
         have hT : Blk8 (wx7.alloc (.cells #[.int .u32 0, .int .u32 0, .int .u32 0, .int .u32 0, .int .u32 0, .int .u32 0, .int .u32 0, .int .u32 0] 73)) wx7.heap.size (fun _ => 0) := Blk8.here _ _ (fun _ => 0)
         replace hU := keepBlk ((Below.refl _ _).alloc (Nat.le_refl _) (.cells #[.int .u32 0, .int .u32 0, .int .u32 0, .int .u32 0, .int .u32 0, .int .u32 0, .int .u32 0, .int .u32 0] 73)) hU
         obtain ⟨gT, hgT⟩ : ∃ g, g = wx7.heap.size := ⟨_, rfl⟩
         have hlT : w.heap.size ≤ gT ∧ gU < gT := by rw [hgT]; exact ⟨q4.size, hZU⟩
         rw [← hgT] at hT
         try rw [← hgT]
         clear hgT q0 q1 q2 q3 q4
         generalize wx7.alloc (.cells #[.int .u32 0, .int .u32 0, .int .u32 0, .int .u32 0, .int .u32 0, .int .u32 0, .int .u32 0, .int .u32 0] 73) = wx6 at *
         refine wpAnyU_lst (l' := #[true, true, true, true, true, true, true, true, false, false]) (by kernel_rfl) ?_
         have hl2 : w.heap.size ≤ gT ∧ w.heap.size ≤ gU ∧ gT ≠ gU := by omega
         clear hlT hlU
         try clear hZT
         try clear hZU
         try clear hb
         revert hH
         revert hU; revert hT
         revert hl2
         revert gU; revert gT
         revert wx6
         exact hNr2.out
        exact AllReadyU.nil
       refine Uc 0 rfl (fun K hK => ?_) ?_
       ·try clear hb
        have hG := hH
        replace hG := S2o0 hG; (try dsimp only at hG); have q0 := hG.1; have q1 := hG.2.1; have q2 := hG.2.2.1; have q3 := hG.2.2.2.1; have q4 := hG.2.2.2.2
        go_simp
        refine hK.out _ _ ?hsr2_13 (fun hH2 => ?hrr2_13)
        case hsr2_13 => exact S2i0 (by have hG := hH; replace hG := S2o0 hG; (try dsimp only at hG); have q0 := hG.1; have q1 := hG.2.1; have q2 := hG.2.2.1; have q3 := hG.2.2.2.1; have q4 := hG.2.2.2.2; exact ⟨keepCell ((Below.refl _ _).alloc (Nat.le_refl _) _) q0, keepCell ((Below.refl _ _).alloc (Nat.le_refl _) _) q1, keepCell ((Below.refl _ _).alloc (Nat.le_refl _) _) q2, keepCell ((Below.refl _ _).alloc (Nat.le_refl _) _) q3, q4.alloc q4.size _⟩)
        clear hK K hH
        have hH := hH2
        clear hH2
        try simp only [Act.put, sA, sB, sC]
        have hT : Blk8 (wn.alloc (.cells #[.int .u32 0, .int .u32 0, .int .u32 0, .int .u32 0, .int .u32 0, .int .u32 0, .int .u32 0, .int .u32 0] 73)) wn.heap.size (fun _ => 0) := Blk8.here _ _ (fun _ => 0)
        obtain ⟨gT, hgT⟩ : ∃ g, g = wn.heap.size := ⟨_, rfl⟩
        have hlT : w.heap.size ≤ gT := by rw [hgT]; exact q4.size
        rw [← hgT] at hT
        try rw [← hgT]
        clear hgT q0 q1 q2 q3 q4
        generalize wn.alloc (.cells #[.int .u32 0, .int .u32 0, .int .u32 0, .int .u32 0, .int .u32 0, .int .u32 0, .int .u32 0, .int .u32 0] 73) = wx6 at *
        refine Ur [5, 7] ?_
        refine Uc 0 rfl (fun K hK => ?_) ?_
        ·try clear hb
         go_simp
         (go_at_call 94; refine (HEE.out _).mono ?_; rintro e wn ⟨rfl, hb⟩; (try (replace hT := keepBlk hb hT)); (try (replace hU := keepBlk hb hU)))
         refine hK.out _ _ ?hsr2_14 (fun hH2 => ?hrr2_14)
         case hsr2_14 => exact S2i0 (by have hG := hH; replace hG := S2o0 hG; (try dsimp only at hG); have q0 := hG.1; have q1 := hG.2.1; have q2 := hG.2.2.1; have q3 := hG.2.2.2.1; have q4 := hG.2.2.2.2; exact ⟨keepCell hb q0, keepCell hb q1, keepCell hb q2, keepCell hb q3, keepBelow hb q4⟩)
         clear hK K hH
         have hH := hH2
         clear hH2
         try simp only [Act.put, sA, sB, sC]
         refine U1 7 0 rfl (fun K hK => ?_)
         try clear hb
         have hG := hH
         replace hG := S2o0 hG; (try dsimp only at hG); have q0 := hG.1; have q1 := hG.2.1; have q2 := hG.2.2.1; have q3 := hG.2.2.2.1; have q4 := hG.2.2.2.2
         have hZT := Blk8.lt hT
         go_simp
         refine hK.out _ _ ?hsr2_15 (fun hH2 => ?hrr2_15)
         case hsr2_15 => exact S2i0 (by have hG := hH; replace hG := S2o0 hG; (try dsimp only at hG); have q0 := hG.1; have q1 := hG.2.1; have q2 := hG.2.2.1; have q3 := hG.2.2.2.1; have q4 := hG.2.2.2.2; exact ⟨keepCell ((Below.refl _ _).alloc (Nat.le_refl _) _) q0, keepCell ((Below.refl _ _).alloc (Nat.le_refl _) _) q1, keepCell ((Below.refl _ _).alloc (Nat.le_refl _) _) q2, keepCell ((Below.refl _ _).alloc (Nat.le_refl _) _) q3, q4.alloc q4.size _⟩)
         clear hK K hH
         have hH := hH2
         clear hH2
         try simp only [Act.put, sA, sB, sC]
         have hU : Blk8 (wn.alloc (.cells #[.int .u32 0, .int .u32 0, .int .u32 0, .int .u32 0, .int .u32 0, .int .u32 0, .int .u32 0, .int .u32 0] 73)) wn.heap.size (fun _ => 0) := Blk8.here _ _ (fun _ => 0)
         replace hT := keepBlk ((Below.refl _ _).alloc (Nat.le_refl _) (.cells #[.int .u32 0, .int .u32 0, .int .u32 0, .int .u32 0, .int .u32 0, .int .u32 0, .int .u32 0, .int .u32 0] 73)) hT
         obtain ⟨gU, hgU⟩ : ∃ g, g = wn.heap.size := ⟨_, rfl⟩
         have hlU : w.heap.size ≤ gU ∧ gT < gU := by rw [hgU]; exact ⟨q4.size, hZT⟩
         rw [← hgU] at hU
         try rw [← hgU]
         clear hgU q0 q1 q2 q3 q4
         generalize wn.alloc (.cells #[.int .u32 0, .int .u32 0, .int .u32 0, .int .u32 0, .int .u32 0, .int .u32 0, .int .u32 0, .int .u32 0] 73) = wx7 at *
         refine wpAnyU_lst (l' := #[true, true, true, true, true, true, true, true, false, false]) (by kernel_rfl) ?_
         have hl2 : w.heap.size ≤ gT ∧ w.heap.size ≤ gU ∧ gT ≠ gU := by omega
         clear hlT hlU
         try clear hZT
         try clear hZU
         try clear hb
         revert hH
         revert hU; revert hT
         revert hl2
         revert gU; revert gT
         revert wx7
         exact hNr2.out
        refine Uc 0 rfl (fun K hK => ?_) ?_
        ·try clear hb
         have hG := hH
         replace hG := S2o0 hG; (try dsimp only at hG); have q0 := hG.1; have q1 := hG.2.1; have q2 := hG.2.2.1; have q3 := hG.2.2.2.1; have q4 := hG.2.2.2.2
         have hZT := Blk8.lt hT
         go_simp
         refine hK.out _ _ ?hsr2_16 (fun hH2 => ?hrr2_16)
         case hsr2_16 => exact S2i0 (by have hG := hH; replace hG := S2o0 hG; (try dsimp only at hG); have q0 := hG.1; have q1 := hG.2.1; have q2 := hG.2.2.1; have q3 := hG.2.2.2.1; have q4 := hG.2.2.2.2; exact ⟨keepCell ((Below.refl _ _).alloc (Nat.le_refl _) _) q0, keepCell ((Below.refl _ _).alloc (Nat.le_refl _) _) q1, keepCell ((Below.refl _ _).alloc (Nat.le_refl _) _) q2, keepCell ((Below.refl _ _).alloc (Nat.le_refl _) _) q3, q4.alloc q4.size _⟩)
         clear hK K hH
         have hH := hH2
         clear hH2
         try simp only [Act.put, sA, sB, sC]
         have hU : Blk8 (wx6.alloc (.cells #[.int .u32 0, .int .u32 0, .int .u32 0, .int .u32 0, .int .u32 0, .int .u32 0, .int .u32 0, .int .u32 0] 73)) wx6.heap.size (fun _ => 0) := Blk8.here _ _ (fun _ => 0)
         replace hT := keepBlk ((Below.refl _ _).alloc (Nat.le_refl _) (.cells #[.int .u32 0, .int .u32 0, .int .u32 0, .int .u32 0, .int .u32 0, .int .u32 0, .int .u32 0, .int .u32 0] 73)) hT
         obtain ⟨gU, hgU⟩ : ∃ g, g = wx6.heap.size := ⟨_, rfl⟩
         have hlU : w.heap.size ≤ gU ∧ gT < gU := by rw [hgU]; exact ⟨q4.size, hZT⟩
         rw [← hgU] at hU
         try rw [← hgU]
         clear hgU q0 q1 q2 q3 q4
         generalize wx6.alloc (.cells #[.int .u32 0, .int .u32 0, .int .u32 0, .int .u32 0, .int .u32 0, .int .u32 0, .int .u32 0, .int .u32 0] 73) = wx7 at *
         refine U1 5 0 rfl (fun K hK => ?_)
         try clear hb
         go_simp
         (go_at_call 94; refine (HEE.out _).mono ?_; rintro e wn ⟨rfl, hb⟩; (try (replace hT := keepBlk hb hT)); (try (replace hU := keepBlk hb hU)))
         refine hK.out _ _ ?hsr2_17 (fun hH2 => ?hrr2_17)
         case hsr2_17 => exact S2i0 (by have hG := hH; replace hG := S2o0 hG; (try dsimp only at hG); have q0 := hG.1; have q1 := hG.2.1; have q2 := hG.2.2.1; have q3 := hG.2.2.2.1; have q4 := hG.2.2.2.2; exact ⟨keepCell hb q0, keepCell hb q1, keepCell hb q2, keepCell hb q3, keepBelow hb q4⟩)
         clear hK K hH
         have hH := hH2
         clear hH2
         try simp only [Act.put, sA, sB, sC]
         refine wpAnyU_lst (l' := #[true, true, true, true, true, true, true, true, false, false]) (by kernel_rfl) ?_
         have hl2 : w.heap.size ≤ gT ∧ w.heap.size ≤ gU ∧ gT ≠ gU := by omega
         clear hlT hlU
         try clear hZT
         try clear hZU
         try clear hb
         revert hH
         revert hU; revert hT
         revert hl2
         revert gU; revert gT
         revert wn
         exact hNr2.out
        exact AllReadyU.nil
       refine Uc 0 rfl (fun K hK => ?_) ?_
       ·try clear hb
        have hG := hH
        replace hG := S2o0 hG; (try dsimp only at hG); have q0 := hG.1; have q1 := hG.2.1; have q2 := hG.2.2.1; have q3 := hG.2.2.2.1; have q4 := hG.2.2.2.2
        go_simp
        refine hK.out _ _ ?hsr2_18 (fun hH2 => ?hrr2_18)
        case hsr2_18 => exact S2i0 (by have hG := hH; replace hG := S2o0 hG; (try dsimp only at hG); have q0 := hG.1; have q1 := hG.2.1; have q2 := hG.2.2.1; have q3 := hG.2.2.2.1; have q4 := hG.2.2.2.2; exact ⟨keepCell ((Below.refl _ _).alloc (Nat.le_refl _) _) q0, keepCell ((Below.refl _ _).alloc (Nat.le_refl _) _) q1, keepCell ((Below.refl _ _).alloc (Nat.le_refl _) _) q2, keepCell ((Below.refl _ _).alloc (Nat.le_refl _) _) q3, q4.alloc q4.size _⟩)
        clear hK K hH
        have hH := hH2
        clear hH2
        try simp only [Act.put, sA, sB, sC]
        have hU : Blk8 (wn.alloc (.cells #[.int .u32 0, .int .u32 0, .int .u32 0, .int .u32 0, .int .u32 0, .int .u32 0, .int .u32 0, .int .u32 0] 73)) wn.heap.size (fun _ => 0) := Blk8.here _ _ (fun _ => 0)
        obtain ⟨gU, hgU⟩ : ∃ g, g = wn.heap.size := ⟨_, rfl⟩
        have hlU : w.heap.size ≤ gU := by rw [hgU]; exact q4.size
        rw [← hgU] at hU
        try rw [← hgU]
        clear hgU q0 q1 q2 q3 q4
        generalize wn.alloc (.cells #[.int .u32 0, .int .u32 0, .int .u32 0, .int .u32 0, .int .u32 0, .int .u32 0, .int .u32 0, .int .u32 0] 73) = wx7 at *
        refine Ur [5, 6] ?_
        refine Uc 0 rfl (fun K hK => ?_) ?_
        ·try clear hb
         go_simp
         (go_at_call 94; refine (HEE.out _).mono ?_; rintro e wn ⟨rfl, hb⟩; (try (replace hT := keepBlk hb hT)); (try (replace hU := keepBlk hb hU)))
         refine hK.out _ _ ?hsr2_19 (fun hH2 => ?hrr2_19)
         case hsr2_19 => exact S2i0 (by have hG := hH; replace hG := S2o0 hG; (try dsimp only at hG); have q0 := hG.1; have q1 := hG.2.1; have q2 := hG.2.2.1; have q3 := hG.2.2.2.1; have q4 := hG.2.2.2.2; exact ⟨keepCell hb q0, keepCell hb q1, keepCell hb q2, keepCell hb q3, keepBelow hb q4⟩)
         clear hK K hH
         have hH := hH2
         clear hH2
         try simp only [Act.put, sA, sB, sC]
         refine U1 6 0 rfl (fun K hK => ?_)
         try clear hb
         have hG := hH
         replace hG := S2o0 hG; (try dsimp only at hG); have q0 := hG.1; have q1 := hG.2.1; have q2 := hG.2.2.1; have q3 := hG.2.2.2.1; have q4 := hG.2.2.2.2
         have hZU := Blk8.lt hU
         go_simp
         refine hK.out _ _ ?hsr2_20 (fun hH2 => ?hrr2_20)
         case hsr2_20 => exact S2i0 (by have hG := hH; replace hG := S2o0 hG; (try dsimp only at hG); have q0 := hG.1; have q1 := hG.2.1; have q2 := hG.2.2.1; have q3 := hG.2.2.2.1; have q4 := hG.2.2.2.2; exact ⟨keepCell ((Below.refl _ _).alloc (Nat.le_refl _) _) q0, keepCell ((Below.refl _ _).alloc (Nat.le_refl _) _) q1, keepCell ((Below.refl _ _).alloc (Nat.le_refl _) _) q2, keepCell ((Below.refl _ _).alloc (Nat.le_refl _) _) q3, q4.alloc q4.size _⟩)
         clear hK K hH
         have hH := hH2
         clear hH2
         try simp only [Act.put, sA, sB, sC]
         have hT : Blk8 (wn.alloc (.cells #[.int .u32 0, .int .u32 0, .int .u32 0, .int .u32 0, .int .u32 0, .int .u32 0, .int .u32 0, .int .u32 0] 73)) wn.heap.size (fun _ => 0) := Blk8.here _ _ (fun _ => 0)
         replace hU := keepBlk ((Below.refl _ _).alloc (Nat.le_refl _) (.cells #[.int .u32 0, .int .u32 0, .int .u32 0, .int .u32 0, .int .u32 0, .int .u32 0, .int .u32 0, .int .u32 0] 73)) hU
         obtain ⟨gT, hgT⟩ : ∃ g, g = wn.heap.size := ⟨_, rfl⟩
         have hlT : w.heap.size ≤ gT ∧ gU < gT := by rw [hgT]; exact ⟨q4.size, hZU⟩
         rw [← hgT] at hT
         try rw [← hgT]
         clear hgT q0 q1 q2 q3 q4
         generalize wn.alloc (.cells #[.int .u32 0, .int .u32 0, .int .u32 0, .int .u32 0, .int .u32 0, .int .u32 0, .int .u32 0, .int .u32 0] 73) = wx6 at *
         refine wpAnyU_lst (l' := #[true, true, true, true, true, true, true, true, false, false]) (by kernel_rfl) ?_
         have hl2 : w.heap.size ≤ gT ∧ w.heap.size ≤ gU ∧ gT ≠ gU := by omega
         clear hlT hlU
         try clear hZT
         try clear hZU
         try clear hb
         revert hH
         revert hU; revert hT
         revert hl2
         revert gU; revert gT
         revert wx6
         exact hNr2.out
        refine Uc 0 rfl (fun K hK => ?_) ?_
        ·try clear hb
         have hG := hH
         replace hG := S2o0 hG; (try dsimp only at hG); have q0 := hG.1; have q1 := hG.2.1; have q2 := hG.2.2.1; have q3 := hG.2.2.2.1; have q4 := hG.2.2.2.2
         have hZU := Blk8.lt hU
         go_simp
         refine hK.out _ _ ?hsr2_21 (fun hH2 => ?hrr2_21)
         case hsr2_21 => exact S2i0 (by have hG := hH; replace hG := S2o0 hG; (try dsimp only at hG); have q0 := hG.1; have q1 := hG.2.1; have q2 := hG.2.2.1; have q3 := hG.2.2.2.1; have q4 := hG.2.2.2.2; exact ⟨keepCell ((Below.refl _ _).alloc (Nat.le_refl _) _) q0, keepCell ((Below.refl _ _).alloc (Nat.le_refl _) _) q1, keepCell ((Below.refl _ _).alloc (Nat.le_refl _) _) q2, keepCell ((Below.refl _ _).alloc (Nat.le_refl _) _) q3, q4.alloc q4.size _⟩)
         clear hK K hH
         have hH := hH2
         clear hH2
         try simp only [Act.put, sA, sB, sC]
         have hT : Blk8 (wx7.alloc (.cells #[.int .u32 0, .int .u32 0, .int .u32 0, .int .u32 0, .int .u32 0, .int .u32 0, .int .u32 0, .int .u32 0] 73)) wx7.heap.size (fun _ => 0) := Blk8.here _ _ (fun _ => 0)
         replace hU := keepBlk ((Below.refl _ _).alloc (Nat.le_refl _) (.cells #[.int .u32 0, .int .u32 0, .int .u32 0, .int .u32 0, .int .u32 0, .int .u32 0, .int .u32 0, .int .u32 0] 73)) hU
         obtain ⟨gT, hgT⟩ : ∃ g, g = wx7.heap.size := ⟨_, rfl⟩
         have hlT : w.heap.size ≤ gT ∧ gU < gT := by rw [hgT]; exact ⟨q4.size, hZU⟩
         rw [← hgT] at hT
         try rw [← hgT]
         clear hgT q0 q1 q2 q3 q4
         generalize wx7.alloc (.cells #[.int .u32 0, .int .u32 0, .int .u32 0, .int .u32 0, .int .u32 0, .int .u32 0, .int .u32 0, .int .u32 0] 73) = wx6 at *
         refine U1 5 0 rfl (fun K hK => ?_)
         try clear hb
         go_simp
         (go_at_call 94; refine (HEE.out _).mono ?_; rintro e wn ⟨rfl, hb⟩; (try (replace hT := keepBlk hb hT)); (try (replace hU := keepBlk hb hU)))
         refine hK.out _ _ ?hsr2_22 (fun hH2 => ?hrr2_22)
         case hsr2_22 => exact S2i0 (by have hG := hH; replace hG := S2o0 hG; (try dsimp only at hG); have q0 := hG.1; have q1 := hG.2.1; have q2 := hG.2.2.1; have q3 := hG.2.2.2.1; have q4 := hG.2.2.2.2; exact ⟨keepCell hb q0, keepCell hb q1, keepCell hb q2, keepCell hb q3, keepBelow hb q4⟩)
         clear hK K hH
         have hH := hH2
         clear hH2
         try simp only [Act.put, sA, sB, sC]
         refine wpAnyU_lst (l' := #[true, true, true, true, true, true, true, true, false, false]) (by kernel_rfl) ?_
         have hl2 : w.heap.size ≤ gT ∧ w.heap.size ≤ gU ∧ gT ≠ gU := by omega
         clear hlT hlU
         try clear hZT
         try clear hZU
         try clear hb
         revert hH
         revert hU; revert hT
         revert hl2
         revert gU; revert gT
         revert wn
         exact hNr2.out
        exact AllReadyU.nil
       exact AllReadyU.nil
      refine Uc 0 rfl (fun K hK => ?_) ?_
      ·try clear hb
       have hG := hH
       replace hG := S2o0 hG; (try dsimp only at hG); have q0 := hG.1; have q1 := hG.2.1; have q2 := hG.2.2.1; have q3 := hG.2.2.2.1; have q4 := hG.2.2.2.2
       go_simp
       refine hK.out _ _ ?hsr2_23 (fun hH2 => ?hrr2_23)
       case hsr2_23 => exact S2i0 (by have hG := hH; replace hG := S2o0 hG; (try dsimp only at hG); have q0 := hG.1; have q1 := hG.2.1; have q2 := hG.2.2.1; have q3 := hG.2.2.2.1; have q4 := hG.2.2.2.2; exact ⟨keepCell ((Below.refl _ _).alloc (Nat.le_refl _) _) q0, keepCell ((Below.refl _ _).alloc (Nat.le_refl _) _) q1, keepCell ((Below.refl _ _).alloc (Nat.le_refl _) _) q2, keepCell ((Below.refl _ _).alloc (Nat.le_refl _) _) q3, q4.alloc q4.size _⟩)
       clear hK K hH
       have hH := hH2
       clear hH2
       try simp only [Act.put, sA, sB, sC]
       have hT : Blk8 ((w8.alloc (.cells #[.int .u32 0, .int .u32 0, .int .u32 0, .int .u32 0, .int .u32 0, .int .u32 0, .int .u32 0, .int .u32 0] 73)).drew) w8.heap.size (fun _ => 0) := Blk8.drew (Blk8.here _ _ (fun _ => 0))
       obtain ⟨gT, hgT⟩ : ∃ g, g = w8.heap.size := ⟨_, rfl⟩
       have hlT : w.heap.size ≤ gT := by rw [hgT]; exact q4.size
       rw [← hgT] at hT
       try rw [← hgT]
       clear hgT q0 q1 q2 q3 q4
       generalize (w8.alloc (.cells #[.int .u32 0, .int .u32 0, .int .u32 0, .int .u32 0, .int .u32 0, .int .u32 0, .int .u32 0, .int .u32 0] 73)).drew = wx6 at *
       refine Ur [2, 7] ?_
       refine Uc 0 rfl (fun K hK => ?_) ?_
       ·try clear hb
        go_simp
        (go_at_call 51; refine (HCR.out _).mono ?_; rintro e wn ⟨rfl, hb⟩; (try (replace hT := keepBlk hb hT)); (try (replace hU := keepBlk hb hU)))
        refine hK.out _ _ ?hsr2_24 (fun hH2 => ?hrr2_24)
        case hsr2_24 => exact S2i0 (by have hG := hH; replace hG := S2o0 hG; (try dsimp only at hG); have q0 := hG.1; have q1 := hG.2.1; have q2 := hG.2.2.1; have q3 := hG.2.2.2.1; have q4 := hG.2.2.2.2; exact ⟨keepCell hb q0, keepCell hb q1, keepCell hb q2, keepCell hb q3, keepBelow hb q4⟩)
        clear hK K hH
        have hH := hH2
        clear hH2
        try simp only [Act.put, sA, sB, sC]
        refine Ur [5, 7] ?_
        refine Uc 0 rfl (fun K hK => ?_) ?_
        ·try clear hb
         go_simp
         (go_at_call 94; refine (HEE.out _).mono ?_; rintro e wn ⟨rfl, hb⟩; (try (replace hT := keepBlk hb hT)); (try (replace hU := keepBlk hb hU)))
         refine hK.out _ _ ?hsr2_25 (fun hH2 => ?hrr2_25)
         case hsr2_25 => exact S2i0 (by have hG := hH; replace hG := S2o0 hG; (try dsimp only at hG); have q0 := hG.1; have q1 := hG.2.1; have q2 := hG.2.2.1; have q3 := hG.2.2.2.1; have q4 := hG.2.2.2.2; exact ⟨keepCell hb q0, keepCell hb q1, keepCell hb q2, keepCell hb q3, keepBelow hb q4⟩)
         clear hK K hH
         have hH := hH2
         clear hH2
         try simp only [Act.put, sA, sB, sC]
         refine U1 7 0 rfl (fun K hK => ?_)
         try clear hb
         have hG := hH
         replace hG := S2o0 hG; (try dsimp only at hG); have q0 := hG.1; have q1 := hG.2.1; have q2 := hG.2.2.1; have q3 := hG.2.2.2.1; have q4 := hG.2.2.2.2
         have hZT := Blk8.lt hT
         go_simp
         refine hK.out _ _ ?hsr2_26 (fun hH2 => ?hrr2_26)
         case hsr2_26 => exact S2i0 (by have hG := hH; replace hG := S2o0 hG; (try dsimp only at hG); have q0 := hG.1; have q1 := hG.2.1; have q2 := hG.2.2.1; have q3 := hG.2.2.2.1; have q4 := hG.2.2.2.2; exact ⟨keepCell ((Below.refl _ _).alloc (Nat.le_refl _) _) q0, keepCell ((Below.refl _ _).alloc (Nat.le_refl _) _) q1, keepCell ((Below.refl _ _).alloc (Nat.le_refl _) _) q2, keepCell ((Below.refl _ _).alloc (Nat.le_refl _) _) q3, q4.alloc q4.size _⟩)
         clear hK K hH
         have hH := hH2
         clear hH2
         try simp only [Act.put, sA, sB, sC]
         have hU : Blk8 (wn.alloc (.cells #[.int .u32 0, .int .u32 0, .int .u32 0, .int .u32 0, .int .u32 0, .int .u32 0, .int .u32 0, .int .u32 0] 73)) wn.heap.size (fun _ => 0) := Blk8.here _ _ (fun _ => 0)
         replace hT := keepBlk ((Below.refl _ _).alloc (Nat.le_refl _) (.cells #[.int .u32 0, .int .u32 0, .int .u32 0, .int .u32 0, .int .u32 0, .int .u32 0, .int .u32 0, .int .u32 0] 73)) hT
         obtain ⟨gU, hgU⟩ : ∃ g, g = wn.heap.size := ⟨_, rfl⟩
         have hlU : w.heap.size ≤ gU ∧ gT < gU := by rw [hgU]; exact ⟨q4.size, hZT⟩
         rw [← hgU] at hU
         try rw [← hgU]
         clear hgU q0 q1 q2 q3 q4
         generalize wn.alloc (.cells #[.int .u32 0, .int .u32 0, .int .u32 0, .int .u32 0, .int .u32 0, .int .u32 0, .int .u32 0, .int .u32 0] 73) = wx7 at *
         refine wpAnyU_lst (l' := #[true, true, true, true, true, true, true, true, false, false]) (by kernel_rfl) ?_
         have hl2 : w.heap.size ≤ gT ∧ w.heap.size ≤ gU ∧ gT ≠ gU := by omega
         clear hlT hlU
         try clear hZT
         try clear hZU
         try clear hb
         revert hH
         revert hU; revert hT
         revert hl2
         revert gU; revert gT
         revert wx7
         exact hNr2.out
        refine Uc 0 rfl (fun K hK => ?_) ?_
        ·try clear hb
         have hG := hH
         replace hG := S2o0 hG; (try dsimp only at hG); have q0 := hG.1; have q1 := hG.2.1; have q2 := hG.2.2.1; have q3 := hG.2.2.2.1; have q4 := hG.2.2.2.2
         have hZT := Blk8.lt hT
         go_simp
         refine hK.out _ _ ?hsr2_27 (fun hH2 => ?hrr2_27)
         case hsr2_27 => exact S2i0 (by have hG := hH; replace hG := S2o0 hG; (try dsimp only at hG); have q0 := hG.1; have q1 := hG.2.1; have q2 := hG.2.2.1; have q3 := hG.2.2.2.1; have q4 := hG.2.2.2.2; exact ⟨keepCell ((Below.refl _ _).alloc (Nat.le_refl _) _) q0, keepCell ((Below.refl _ _).alloc (Nat.le_refl _) _) q1, keepCell ((Below.refl _ _).alloc (Nat.le_refl _) _) q2, keepCell ((Below.refl _ _).alloc (Nat.le_refl _) _) q3, q4.alloc q4.size _⟩)
         clear hK K hH
         have hH := hH2
         clear hH2
         try simp only [Act.put, sA, sB, sC]
         have hU : Blk8 (wn.alloc (.cells #[.int .u32 0, .int .u32 0, .int .u32 0, .int .u32 0, .int .u32 0, .int .u32 0, .int .u32 0, .int .u32 0] 73)) wn.heap.size (fun _ => 0) := Blk8.here _ _ (fun _ => 0)
         replace hT := keepBlk ((Below.refl _ _).alloc (Nat.le_refl _) (.cells #[.int .u32 0, .int .u32 0, .int .u32 0, .int .u32 0, .int .u32 0, .int .u32 0, .int .u32 0, .int .u32 0] 73)) hT
         obtain ⟨gU, hgU⟩ : ∃ g, g = wn.heap.size := ⟨_, rfl⟩
         have hlU : w.heap.size ≤ gU ∧ gT < gU := by rw [hgU]; exact ⟨q4.size, hZT⟩
         rw [← hgU] at hU
         try rw [← hgU]
         clear hgU q0 q1 q2 q3 q4
         generalize wn.alloc (.cells #[.int .u32 0, .int .u32 0, .int .u32 0, .int .u32 0, .int .u32 0, .int .u32 0, .int .u32 0, .int .u32 0] 73) = wx7 at *
         refine U1 5 0 rfl (fun K hK => ?_)
         try clear hb
         go_simp
         (go_at_call 94; refine (HEE.out _).mono ?_; rintro e wn ⟨rfl, hb⟩; (try (replace hT := keepBlk hb hT)); (try (replace hU := keepBlk hb hU)))
         refine hK.out _ _ ?hsr2_28 (fun hH2 => ?hrr2_28)
         case hsr2_28 => exact S2i0 (by have hG := hH; replace hG := S2o0 hG; (try dsimp only at hG); have q0 := hG.1; have q1 := hG.2.1; have q2 := hG.2.2.1; have q3 := hG.2.2.2.1; have q4 := hG.2.2.2.2; exact ⟨keepCell hb q0, keepCell hb q1, keepCell hb q2, keepCell hb q3, keepBelow hb q4⟩)
         clear hK K hH
         have hH := hH2
         clear hH2
         try simp only [Act.put, sA, sB, sC]
         refine wpAnyU_lst (l' := #[true, true, true, true, true, true, true, true, false, false]) (by kernel_rfl) ?_
         have hl2 : w.heap.size ≤ gT ∧ w.heap.size ≤ gU ∧ gT ≠ gU := by omega
         clear hlT hlU
         try clear hZT
         try clear hZU
         try clear hb
         revert hH
         revert hU; revert hT
         revert hl2
         revert gU; revert gT
         revert wn
         exact hNr2.out
        exact AllReadyU.nil
       refine Uc 0 rfl (fun K hK => ?_) ?_
       ·try clear hb
        have hG := hH
        replace hG := S2o0 hG; (try dsimp only at hG); have q0 := hG.1; have q1 := hG.2.1; have q2 := hG.2.2.1; have q3 := hG.2.2.2.1; have q4 := hG.2.2.2.2
        have hZT := Blk8.lt hT
        go_simp
        refine hK.out _ _ ?hsr2_29 (fun hH2 => ?hrr2_29)
        case hsr2_29 => exact S2i0 (by have hG := hH; replace hG := S2o0 hG; (try dsimp only at hG); have q0 := hG.1; have q1 := hG.2.1; have q2 := hG.2.2.1; have q3 := hG.2.2.2.1; have q4 := hG.2.2.2.2; exact ⟨keepCell ((Below.refl _ _).alloc (Nat.le_refl _) _) q0, keepCell ((Below.refl _ _).alloc (Nat.le_refl _) _) q1, keepCell ((Below.refl _ _).alloc (Nat.le_refl _) _) q2, keepCell ((Below.refl _ _).alloc (Nat.le_refl _) _) q3, q4.alloc q4.size _⟩)
        clear hK K hH
        have hH := hH2
        clear hH2
        try simp only [Act.put, sA, sB, sC]
        have hU : Blk8 (wx6.alloc (.cells #[.int .u32 0, .int .u32 0, .int .u32 0, .int .u32 0, .int .u32 0, .int .u32 0, .int .u32 0, .int .u32 0] 73)) wx6.heap.size (fun _ => 0) := Blk8.here _ _ (fun _ => 0)
        replace hT := keepBlk ((Below.refl _ _).alloc (Nat.le_refl _) (.cells #[.int .u32 0, .int .u32 0, .int .u32 0, .int .u32 0, .int .u32 0, .int .u32 0, .int .u32 0, .int .u32 0] 73)) hT
        obtain ⟨gU, hgU⟩ : ∃ g, g = wx6.heap.size := ⟨_, rfl⟩
        have hlU : w.heap.size ≤ gU ∧ gT < gU := by rw [hgU]; exact ⟨q4.size, hZT⟩
        rw [← hgU] at hU
        try rw [← hgU]
        clear hgU q0 q1 q2 q3 q4
        generalize wx6.alloc (.cells #[.int .u32 0, .int .u32 0, .int .u32 0, .int .u32 0, .int .u32 0, .int .u32 0, .int .u32 0, .int .u32 0] 73) = wx7 at *
        refine U1 2 0 rfl (fun K hK => ?_)
        try clear hb
        go_simp
        (go_at_call 51; refine (HCR.out _).mono ?_; rintro e wn ⟨rfl, hb⟩; (try (replace hT := keepBlk hb hT)); (try (replace hU := keepBlk hb hU)))
        refine hK.out _ _ ?hsr2_30 (fun hH2 => ?hrr2_30)
        case hsr2_30 => exact S2i0 (by have hG := hH; replace hG := S2o0 hG; (try dsimp only at hG); have q0 := hG.1; have q1 := hG.2.1; have q2 := hG.2.2.1; have q3 := hG.2.2.2.1; have q4 := hG.2.2.2.2; exact ⟨keepCell hb q0, keepCell hb q1, keepCell hb q2, keepCell hb q3, keepBelow hb q4⟩)
        clear hK K hH
        have hH := hH2
        clear hH2
        try simp only [Act.put, sA, sB, sC]
        refine U1 5 0 rfl (fun K hK => ?_)
        try clear hb
        go_simp
        (go_at_call 94; refine (HEE.out _).mono ?_; rintro e wn ⟨rfl, hb⟩; (try (replace hT := keepBlk hb hT)); (try (replace hU := keepBlk hb hU)))
        refine hK.out _ _ ?hsr2_31 (fun hH2 => ?hrr2_31)
        case hsr2_31 => exact S2i0 (by have hG := hH; replace hG := S2o0 hG; (try dsimp only at hG); have q0 := hG.1; have q1 := hG.2.1; have q2 := hG.2.2.1; have q3 := hG.2.2.2.1; have q4 := hG.2.2.2.2; exact ⟨keepCell hb q0, keepCell hb q1, keepCell hb q2, keepCell hb q3, keepBelow hb q4⟩)
        clear hK K hH
        have hH := hH2
        clear hH2
        try simp only [Act.put, sA, sB, sC]
        refine wpAnyU_lst (l' := #[true, true, true, true, true, true, true, true, false, false]) (by kernel_rfl) ?_
        have hl2 : w.heap.size ≤ gT ∧ w.heap.size ≤ gU ∧ gT ≠ gU := by omega
        clear hlT hlU
        try clear hZT
        try clear hZU
        try clear hb
        revert hH
        revert hU; revert hT
        revert hl2
        revert gU; revert gT
        revert wn
        exact hNr2.out
       exact AllReadyU.nil
      refine Uc 0 rfl (fun K hK => ?_) ?_
      ·try clear hb
       have hG := hH
       replace hG := S2o0 hG; (try dsimp only at hG); have q0 := hG.1; have q1 := hG.2.1; have q2 := hG.2.2.1; have q3 := hG.2.2.2.1; have q4 := hG.2.2.2.2
       go_simp
       refine hK.out _ _ ?hsr2_32 (fun hH2 => ?hrr2_32)
       case hsr2_32 => exact S2i0 (by have hG := hH; replace hG := S2o0 hG; (try dsimp only at hG); have q0 := hG.1; have q1 := hG.2.1; have q2 := hG.2.2.1; have q3 := hG.2.2.2.1; have q4 := hG.2.2.2.2; exact ⟨keepCell ((Below.refl _ _).alloc (Nat.le_refl _) _) q0, keepCell ((Below.refl _ _).alloc (Nat.le_refl _) _) q1, keepCell ((Below.refl _ _).alloc (Nat.le_refl _) _) q2, keepCell ((Below.refl _ _).alloc (Nat.le_refl _) _) q3, q4.alloc q4.size _⟩)
       clear hK K hH
       have hH := hH2
       clear hH2
       try simp only [Act.put, sA, sB, sC]
       have hU : Blk8 ((w8.alloc (.cells #[.int .u32 0, .int .u32 0, .int .u32 0, .int .u32 0, .int .u32 0, .int .u32 0, .int .u32 0, .int .u32 0] 73)).drew) w8.heap.size (fun _ => 0) := Blk8.drew (Blk8.here _ _ (fun _ => 0))
       obtain ⟨gU, hgU⟩ : ∃ g, g = w8.heap.size := ⟨_, rfl⟩
       have hlU : w.heap.size ≤ gU := by rw [hgU]; exact q4.size
       rw [← hgU] at hU
       try rw [← hgU]
       clear hgU q0 q1 q2 q3 q4
       generalize (w8.alloc (.cells #[.int .u32 0, .int .u32 0, .int .u32 0, .int .u32 0, .int .u32 0, .int .u32 0, .int .u32 0, .int .u32 0] 73)).drew = wx7 at *
       refine Ur [2, 6] ?_
       refine Uc 0 rfl (fun K hK => ?_) ?_
       ·try clear hb
        go_simp
        (go_at_call 51; refine (HCR.out _).mono ?_; rintro e wn ⟨rfl, hb⟩; (try (replace hT := keepBlk hb hT)); (try (replace hU := keepBlk hb hU)))
        refine hK.out _ _ ?hsr2_33 (fun hH2 => ?hrr2_33)
        case hsr2_33 => exact S2i0 (by have hG := hH; replace hG := S2o0 hG; (try dsimp only at hG); have q0 := hG.1; have q1 := hG.2.1; have q2 := hG.2.2.1; have q3 := hG.2.2.2.1; have q4 := hG.2.2.2.2; exact ⟨keepCell hb q0, keepCell hb q1, keepCell hb q2, keepCell hb q3, keepBelow hb q4⟩)
        clear hK K hH
        have hH := hH2
        clear hH2
        try simp only [Act.put, sA, sB, sC]
        refine Ur [5, 6] ?_
        refine Uc 0 rfl (fun K hK => ?_) ?_
        ·try clear hb
         go_simp
         (go_at_call 94; refine (HEE.out _).mono ?_; rintro e wn ⟨rfl, hb⟩; (try (replace hT := keepBlk hb hT)); (try (replace hU := keepBlk hb hU)))
         refine hK.out _ _ ?hsr2_34 (fun hH2 => ?hrr2_34)
         case hsr2_34 => exact S2i0 (by have hG := hH; replace hG := S2o0 hG; (try dsimp only at hG); have q0 := hG.1; have q1 := hG.2.1; have q2 := hG.2.2.1; have q3 := hG.2.2.2.1; have q4 := hG.2.2.2.2; exact ⟨keepCell hb q0, keepCell hb q1, keepCell hb q2, keepCell hb q3, keepBelow hb q4⟩)
         clear hK K hH
         have hH := hH2
         clear hH2
         try simp only [Act.put, sA, sB, sC]
         refine U1 6 0 rfl (fun K hK => ?_)
         try clear hb
         have hG := hH
         replace hG := S2o0 hG; (try dsimp only at hG); have q0 := hG.1; have q1 := hG.2.1; have q2 := hG.2.2.1; have q3 := hG.2.2.2.1; have q4 := hG.2.2.2.2
         have hZU := Blk8.lt hU
         go_simp
         refine hK.out _ _ ?hsr2_35 (fun hH2 => ?hrr2_35)
         case hsr2_35 => exact S2i0 (by have hG := hH; replace hG := S2o0 hG; (try dsimp only at hG); have q0 := hG.1; have q1 := hG.2.1; have q2 := hG.2.2.1; have q3 := hG.2.2.2.1; have q4 := hG.2.2.2.2; exact ⟨keepCell ((Below.refl _ _).alloc (Nat.le_refl _) _) q0, keepCell ((Below.refl _ _).alloc (Nat.le_refl _) _) q1, keepCell ((Below.refl _ _).alloc (Nat.le_refl _) _) q2, keepCell ((Below.refl _ _).alloc (Nat.le_refl _) _) q3, q4.alloc q4.size _⟩)
         clear hK K hH
         have hH := hH2
         clear hH2
         try simp only [Act.put, sA, sB, sC]
         have hT : Blk8 (wn.alloc (.cells #[.int .u32 0, .int .u32 0, .int .u32 0, .int .u32 0, .int .u32 0, .int .u32 0, .int .u32 0, .int .u32 0] 73)) wn.heap.size (fun _ => 0) := Blk8.here _ _ (fun _ => 0)
         replace hU := keepBlk ((Below.refl _ _).alloc (Nat.le_refl _) (.cells #[.int .u32 0, .int .u32 0, .int .u32 0, .int .u32 0, .int .u32 0, .int .u32 0, .int .u32 0, .int .u32 0] 73)) hU
         obtain ⟨gT, hgT⟩ : ∃ g, g = wn.heap.size := ⟨_, rfl⟩
         have hlT : w.heap.size ≤ gT ∧ gU < gT := by rw [hgT]; exact ⟨q4.size, hZU⟩
         rw [← hgT] at hT
         try rw [← hgT]
         clear hgT q0 q1 q2 q3 q4
         generalize wn.alloc (.cells #[.int .u32 0, .int .u32 0, .int .u32 0, .int .u32 0, .int .u32 0, .int .u32 0, .int .u32 0, .int .u32 0] 73) = wx6 at *
         refine wpAnyU_lst (l' := #[true, true, true, true, true, true, true, true, false, false]) (by kernel_rfl) ?_
         have hl2 : w.heap.size ≤ gT ∧ w.heap.size ≤ gU ∧ gT ≠ gU := by omega
         clear hlT hlU
         try clear hZT
         try clear hZU
         try clear hb
         revert hH
         revert hU; revert hT
         revert hl2
         revert gU; revert gT
         revert wx6
         exact hNr2.out
        refine Uc 0 rfl (fun K hK => ?_) ?_
        ·try clear hb
         have hG := hH
         replace hG := S2o0 hG; (try dsimp only at hG); have q0 := hG.1; have q1 := hG.2.1; have q2 := hG.2.2.1; have q3 := hG.2.2.2.1; have q4 := hG.2.2.2.2
         have hZU := Blk8.lt hU
         go_simp
         refine hK.out _ _ ?hsr2_36 (fun hH2 => ?hrr2_36)
         case hsr2_36 => exact S2i0 (by have hG := hH; replace hG := S2o0 hG; (try dsimp only at hG); have q0 := hG.1; have q1 := hG.2.1; have q2 := hG.2.2.1; have q3 := hG.2.2.2.1; have q4 := hG.2.2.2.2; exact ⟨keepCell ((Below.refl _ _).alloc (Nat.le_refl _) _) q0, keepCell ((Below.refl _ _).alloc (Nat.le_refl _) _) q1, keepCell ((Below.refl _ _).alloc (Nat.le_refl _) _) q2, keepCell ((Below.refl _ _).alloc (Nat.le_refl _) _) q3, q4.alloc q4.size _⟩)
         clear hK K hH
         have hH := hH2
         clear hH2
         try simp only [Act.put, sA, sB, sC]
         have hT : Blk8 (wn.alloc (.cells #[.int .u32 0, .int .u32 0, .int .u32 0, .int .u32 0, .int .u32 0, .int .u32 0, .int .u32 0, .int .u32 0] 73)) wn.heap.size (fun _ => 0) := Blk8.here _ _ (fun _ => 0)
         replace hU := keepBlk ((Below.refl _ _).alloc (Nat.le_refl _) (.cells #[.int .u32 0, .int .u32 0, .int .u32 0, .int .u32 0, .int .u32 0, .int .u32 0, .int .u32 0, .int .u32 0] 73)) hU
         obtain ⟨gT, hgT⟩ : ∃ g, g = wn.heap.size := ⟨_, rfl⟩
         have hlT : w.heap.size ≤ gT ∧ gU < gT := by rw [hgT]; exact ⟨q4.size, hZU⟩
         rw [← hgT] at hT
         try rw [← hgT]
         clear hgT q0 q1 q2 q3 q4
         generalize wn.alloc (.cells #[.int .u32 0, .int .u32 0, .int .u32 0, .int .u32 0, .int .u32 0, .int .u32 0, .int .u32 0, .int .u32 0] 73) = wx6 at *
         refine U1 5 0 rfl (fun K hK => ?_)
         try clear hb
         go_simp
         (go_at_call 94; refine (HEE.out _).mono ?_; rintro e wn ⟨rfl, hb⟩; (try (replace hT := keepBlk hb hT)); (try (replace hU := keepBlk hb hU)))
         refine hK.out _ _ ?hsr2_37 (fun hH2 => ?hrr2_37)
         case hsr2_37 => exact S2i0 (by have hG := hH; replace hG := S2o0 hG; (try dsimp only at hG); have q0 := hG.1; have q1 := hG.2.1; have q2 := hG.2.2.1; have q3 := hG.2.2.2.1; have q4 := hG.2.2.2.2; exact ⟨keepCell hb q0, keepCell hb q1, keepCell hb q2, keepCell hb q3, keepBelow hb q4⟩)
         clear hK K hH
         have hH := hH2
         clear hH2
         try simp only [Act.put, sA, sB, sC]
         refine wpAnyU_lst (l' := #[true, true, true, true, true, true, true, true, false, false]) (by kernel_rfl) ?_
         have hl2 : w.heap.size ≤ gT ∧ w.heap.size ≤ gU ∧ gT ≠ gU := by omega
         clear hlT hlU
         try clear hZT
         try clear hZU
         try clear hb
         revert hH
         revert hU; revert hT
         revert hl2
         revert gU; revert gT
         revert wn
         exact hNr2.out
        exact AllReadyU.nil
       refine Uc 0 rfl (fun K hK => ?_) ?_
       ·try clear hb
        have hG := hH
        replace hG := S2o0 hG; (try dsimp only at hG); have q0 := hG.1; have q1 := hG.2.1; have q2 := hG.2.2.1; have q3 := hG.2.2.2.1; have q4 := hG.2.2.2.2
        have hZU := Blk8.lt hU
        go_simp
        refine hK.out _ _ ?hsr2_38 (fun hH2 => ?hrr2_38)
        case hsr2_38 => exact S2i0 (by have hG := hH; replace hG := S2o0 hG; (try dsimp only at hG); have q0 := hG.1; have q1 := hG.2.1; have q2 := hG.2.2.1; have q3 := hG.2.2.2.1; have q4 := hG.2.2.2.2; exact ⟨keepCell ((Below.refl _ _).alloc (Nat.le_refl _) _) q0, keepCell ((Below.refl _ _).alloc (Nat.le_refl _) _) q1, keepCell ((Below.refl _ _).alloc (Nat.le_refl _) _) q2, keepCell ((Below.refl _ _).alloc (Nat.le_refl _) _) q3, q4.alloc q4.size _⟩)
        clear hK K hH
        have hH := hH2
        clear hH2
        try simp only [Act.put, sA, sB, sC]
        have hT : Blk8 (wx7.alloc (.cells #[.int .u32 0, .int .u32 0, .int .u32 0, .int .u32 0, .int .u32 0, .int .u32 0, .int .u32 0, .int .u32 0] 73)) wx7.heap.size (fun _ => 0) := Blk8.here _ _ (fun _ => 0)
        replace hU := keepBlk ((Below.refl _ _).alloc (Nat.le_refl _) (.cells #[.int .u32 0, .int .u32 0, .int .u32 0, .int .u32 0, .int .u32 0, .int .u32 0, .int .u32 0, .int .u32 0] 73)) hU
        obtain ⟨gT, hgT⟩ : ∃ g, g = wx7.heap.size := ⟨_, rfl⟩
        have hlT : w.heap.size ≤ gT ∧ gU < gT := by rw [hgT]; exact ⟨q4.size, hZU⟩
        rw [← hgT] at hT
        try rw [← hgT]
        clear hgT q0 q1 q2 q3 q4
        generalize wx7.alloc (.cells #[.int .u32 0, .int .u32 0, .int .u32 0, .int .u32 0, .int .u32 0, .int .u32 0, .int .u32 0, .int .u32 0] 73) = wx6 at *
        refine U1 2 0 rfl (fun K hK => ?_)
        try clear hb
        go_simp
        (go_at_call 51; refine (HCR.out _).mono ?_; rintro e wn ⟨rfl, hb⟩; (try (replace hT := keepBlk hb hT)); (try (replace hU := keepBlk hb hU)))
        refine hK.out _ _ ?hsr2_39 (fun hH2 => ?hrr2_39)
        case hsr2_39 => exact S2i0 (by have hG := hH; replace hG := S2o0 hG; (try dsimp only at hG); have q0 := hG.1; have q1 := hG.2.1; have q2 := hG.2.2.1; have q3 := hG.2.2.2.1; have q4 := hG.2.2.2.2; exact ⟨keepCell hb q0, keepCell hb q1, keepCell hb q2, keepCell hb q3, keepBelow hb q4⟩)
        clear hK K hH
        have hH := hH2
        clear hH2
        try simp only [Act.put, sA, sB, sC]
        refine U1 5 0 rfl (fun K hK => ?_)
        try clear hb
        go_simp
        (go_at_call 94; refine (HEE.out _).mono ?_; rintro e wn ⟨rfl, hb⟩; (try (replace hT := keepBlk hb hT)); (try (replace hU := keepBlk hb hU)))
        refine hK.out _ _ ?hsr2_40 (fun hH2 => ?hrr2_40)
        case hsr2_40 => exact S2i0 (by have hG := hH; replace hG := S2o0 hG; (try dsimp only at hG); have q0 := hG.1; have q1 := hG.2.1; have q2 := hG.2.2.1; have q3 := hG.2.2.2.1; have q4 := hG.2.2.2.2; exact ⟨keepCell hb q0, keepCell hb q1, keepCell hb q2, keepCell hb q3, keepBelow hb q4⟩)
        clear hK K hH
        have hH := hH2
        clear hH2
        try simp only [Act.put, sA, sB, sC]
        refine wpAnyU_lst (l' := #[true, true, true, true, true, true, true, true, false, false]) (by kernel_rfl) ?_
        have hl2 : w.heap.size ≤ gT ∧ w.heap.size ≤ gU ∧ gT ≠ gU := by omega
        clear hlT hlU
        try clear hZT
        try clear hZU
        try clear hb
        revert hH
        revert hU; revert hT
        revert hl2
        revert gU; revert gT
        revert wn
        exact hNr2.out
       exact AllReadyU.nil
      exact AllReadyU.nil
     case prfr2 =>
      intro wX gT gU hl2 hT hU hH
      have hWr2 : Weaker (S2 (fun w' => w'.cell? ⟨gT, 0, none⟩ = some (.int .i64 ex) ∧ w'.cell? ⟨gT, 1, none⟩ = some (.int .i64 ey) ∧ w'.cell? ⟨gU, 0, none⟩ = some (.int .i64 dx) ∧ w'.cell? ⟨gU, 1, none⟩ = some (.int .i64 dy) ∧ Below w.heap.size w w')) := weaker2 _
      refine U1 8 1 rfl (fun K hK => ?_)
      have hG := hH
      replace hG := S2o0 hG; (try dsimp only at hG); have q0 := hG.1; have q1 := hG.2.1; have q2 := hG.2.2.1; have q3 := hG.2.2.2.1; have q4 := hG.2.2.2.2
      have HT := hid hT
      have HU := hid hU
      obtain ⟨t0, t1, t2, t3, t4, t5, t6, t7⟩ := hT.all
      obtain ⟨u0, u1, u2, u3, u4, u5, u6, u7⟩ := hU.all
      have tf := hT.free
      have uf := hU.free
      go_simp
      refine hK.out _ _ ?hsr2_9 (fun hH2 => ?hrr2_9)
      case hsr2_9 => exact S2i1
      clear hK K hH
      have hH := hH2
      clear hH2
      try simp only [Act.put, sA, sB, sC]
      refine U1 9 1 rfl (fun K hK => ?_)
      go_simp
      refine hK.out _ _ ?hsr2_10 (fun hH2 => ?hrr2_10)
      case hsr2_10 => exact S2i1
      clear hK K hH
      have hH := hH2
      clear hH2
      try simp only [Act.put, sA, sB, sC]
      refine wpAnyU_done (by kernel_rfl) ?_ _ _
      refine NoPanic.normal ?_
      go_wp2_with fail
      go_meet
      exact big_end (by omega) (by omega) (by omega) q4 HT.out HU.out
    case rest =>
     obtain ⟨gC, gS, rfl, rfl, hC, hS, hB9⟩ := hcut
     clear hB hB8 HCR HEE e0 e1 d0 d1
     obtain ⟨bn0, bn1⟩ := bN HS0.out
     obtain ⟨NQ, hNQ⟩ : ∃ z, z = C * C / S := ⟨_, rfl⟩
     rw [← hNQ] at bn0 bn1 HR
     have HNQ := hid hNQ
     have mS := mul_bd (x := C) (y := C) (M := 34359738368000000) (N := 34359738368000000) (by omega) (by omega) (by omega) (by omega)
     clear hNQ bN
     go_wp2
     go_loopw [12, 13] (fun a b wr => ∃ (k : Nat) (o : Int), k ≤ 30 ∧ a = .int .i64 o ∧ b = .int .i64 (2 ^ k / 2) ∧ 0 ≤ o ∧ o + 2 ^ k ≤ 1073741824 ∧ o * o ≤ NQ ∧ NQ < (o + 2 ^ k) * (o + 2 ^ k) ∧ Blk8 wr gC (digs C) ∧ Blk8 wr gS (digs S) ∧ Below w.heap.size w wr) (fun _ b _ => (intOf b).toNat)
     case atStart =>
      have e : (2 : Int) ^ 30 = 1073741824 := by decide
      exact ⟨30, 0, by omega, rfl, by rw [e]; rfl, by omega, by rw [e]; omega, by omega, by rw [e]; omega, hC, hS, hB9⟩
     case round =>
      clear hC hS hB9
      obtain ⟨k, o, hk, rfl, rfl, o0, o1, s1, s2, hC, hS, hB⟩ := hrel
      obtain ⟨wo, rfl⟩ : ∃ wo : World, wo = wr := ⟨_, rfl⟩
      cases k with
      | zero =>
       have e0 : (2 : Int) ^ 0 / 2 = 0 := by decide
       have e1 : (2 : Int) ^ 0 = 1 := by decide
       rw [e1] at s2
       have HR2 : Hid (Z = o) := by show _ = _; rw [HR.out]; exact rootZ_eq bn0 (by omega) o0 s1 s2
       rw [e0]
       clear s1 s2 o1 e0 e1 hC hS
       go_wp2
       go_returns
       exact ret_int HR2.out.symm hB
      | succ k =>
       have e2 : (2 : Int) ^ (k + 1) = 2 ^ k + 2 ^ k := by rw [Int.pow_succ]; omega
       have e3 : (2 : Int) ^ (k + 1) / 2 = 2 ^ k := by rw [e2]; omega
       have hp : (0 : Int) < 2 ^ k := Int.pow_pos (by omega)
       have hpk : (2 : Int) ^ k / 2 ≤ 2 ^ k - 1 := by omega
       rw [e3]
       rw [e2] at o1 s2
       obtain ⟨b, hb⟩ : ∃ b : Int, b = 2 ^ k := ⟨_, rfl⟩
       rw [← hb] at o1 s2 hp hpk ⊢
       have hbb := hid hb
       clear hb e2 e3
       have w1 : IntKind.i64.wrap (o + b) = o + b := IntWalk.i64_in _ (by omega)
       have w3 : b.tdiv 2 = b / 2 := Int.tdiv_eq_ediv_of_nonneg (by omega)
       have w4 : IntKind.i64.wrap (b / 2) = b / 2 := IntWalk.i64_in _ (by omega)
       have m1 := mul_bd (x := o + b) (y := o + b) (M := 1073741824) (N := 1073741824) (by omega) (by omega) (by omega) (by omega)
       have m2 := mul_bd (x := (o + b) * (o + b)) (y := S) (M := 1152921504606846976) (N := 34359738368000000) (by omega) (by omega) (by omega) (by omega)
       have HCM := hid (fun w => bcmp_calls ((o + b) * (o + b) * S) (C * C) (by omega) (by omega) (by omega) (by omega) w)
       have HLE : Hid (cmpZ ((o + b) * (o + b) * S) (C * C) ≤ 0 ↔ (o + b) * (o + b) ≤ NQ) := by
        show _ ↔ _
        rw [HNQ.out, Int.le_ediv_iff_mul_le HS0.out]
        have := cmpZ_pos (a := (o + b) * (o + b) * S) (b := C * C)
        omega
       have HSL := hid s1
       have HSU : Hid (NQ < (o + b + b) * (o + b + b)) := by show _ < _; rwa [show o + b + b = o + (b + b) by omega]
       generalize cmpZ ((o + b) * (o + b) * S) (C * C) = cm at *
       clear m1 m2 s1 s2
       replace hC := hC.drew
       replace hS := hS.drew
       replace hB := hB.drew
       go_upto_region 13 with fail
       refine wp_region_noPanic ?_
       refine wp_region_U (S := (S2 (fun w' => Blk8 w' (gC) (digs C) ∧ Blk8 w' (gS) (digs S) ∧ Below w.heap.size w w'))) (T := (fun _ => 0)) (by kernel_rfl) (S2i0 ⟨hC, hS, hB⟩) (fun hH => ?_)
       have hWr3 : Weaker (S2 (fun w' => Blk8 w' (gC) (digs C) ∧ Blk8 w' (gS) (digs S) ∧ Below w.heap.size w w')) := weaker2 _
       refine Ut 0 73 11 0 0 (v := ?vr3_1) rfl hWr3 hH ?hyr3_1 ?_
       case hyr3_1 => (intro w' hSw; clear hSw; go_simp; try (with_reducible rfl))
       simp only [sB, sC]
       refine Ut 2 75 10 0 0 (v := ?vr3_2) rfl hWr3 hH ?hyr3_2 ?_
       case hyr3_2 => (intro w' hSw; clear hSw; go_simp; try (with_reducible rfl))
       simp only [sB, sC]
       refine Ut 5 78 9 0 0 (v := ?vr3_3) rfl hWr3 hH ?hyr3_3 ?_
       case hyr3_3 => (intro w' hSw; replace hSw := S2o0 hSw; (try dsimp only at hSw); have q0 := hSw.1; have q1 := hSw.2.1; have q2 := hSw.2.2; obtain ⟨qa0_0, qa0_1, qa0_2, qa0_3, qa0_4, qa0_5, qa0_6, qa0_7⟩ := Blk8.all q0; obtain ⟨qa1_0, qa1_1, qa1_2, qa1_3, qa1_4, qa1_5, qa1_6, qa1_7⟩ := Blk8.all q1; go_simp; try (with_reducible rfl))
       simp only [sB, sC]
       refine Ut 7 80 8 0 0 (v := ?vr3_4) rfl hWr3 hH ?hyr3_4 ?_
       case hyr3_4 => (intro w' hSw; replace hSw := S2o0 hSw; (try dsimp only at hSw); have q0 := hSw.1; have q1 := hSw.2.1; have q2 := hSw.2.2; obtain ⟨qa0_0, qa0_1, qa0_2, qa0_3, qa0_4, qa0_5, qa0_6, qa0_7⟩ := Blk8.all q0; obtain ⟨qa1_0, qa1_1, qa1_2, qa1_3, qa1_4, qa1_5, qa1_6, qa1_7⟩ := Blk8.all q1; go_simp; try (with_reducible rfl))
       simp only [sB, sC]
       refine Ut 8 81 7 0 0 (v := ?vr3_5) rfl hWr3 hH ?hyr3_5 ?_
       case hyr3_5 => (intro w' hSw; replace hSw := S2o0 hSw; (try dsimp only at hSw); have q0 := hSw.1; have q1 := hSw.2.1; have q2 := hSw.2.2; obtain ⟨qa0_0, qa0_1, qa0_2, qa0_3, qa0_4, qa0_5, qa0_6, qa0_7⟩ := Blk8.all q0; obtain ⟨qa1_0, qa1_1, qa1_2, qa1_3, qa1_4, qa1_5, qa1_6, qa1_7⟩ := Blk8.all q1; go_simp; try (with_reducible rfl))
       simp only [sB, sC]
       refine U1 1 0 rfl (fun K hK => ?_)
       try clear hb
       go_simp
       (go_at_call 53; refine (of_calls (o + b) (by omega) (by omega) _).mono ?_; rintro e wn ⟨rfl, hb⟩; (try (replace hT := keepVZ hb hT)); (try (replace hU := keepVZ hb hU)))
       refine hK.out _ _ ?hsr3_6 (fun hH2 => ?hrr3_6)
       case hsr3_6 => exact S2i0 (by have hG := hH; replace hG := S2o0 hG; (try dsimp only at hG); have q0 := hG.1; have q1 := hG.2.1; have q2 := hG.2.2; exact ⟨keepBlk hb q0, keepBlk hb q1, keepBelow hb q2⟩)
       clear hK K hH
       have hH := hH2
       clear hH2
       try simp only [Act.put, sA, sB, sC]
       refine U1 3 0 rfl (fun K hK => ?_)
       try clear hb
       go_simp
       (go_at_call 53; refine (of_calls (o + b) (by omega) (by omega) _).mono ?_; rintro e wn ⟨rfl, hb⟩; (try (replace hT := keepVZ hb hT)); (try (replace hU := keepVZ hb hU)))
       refine hK.out _ _ ?hsr3_7 (fun hH2 => ?hrr3_7)
       case hsr3_7 => exact S2i0 (by have hG := hH; replace hG := S2o0 hG; (try dsimp only at hG); have q0 := hG.1; have q1 := hG.2.1; have q2 := hG.2.2; exact ⟨keepBlk hb q0, keepBlk hb q1, keepBelow hb q2⟩)
       clear hK K hH
       have hH := hH2
       clear hH2
       try simp only [Act.put, sA, sB, sC]
       refine U1 4 0 rfl (fun K hK => ?_)
       try clear hb
       go_simp
       (go_at_call 90; refine (mul_calls _ _ _).mono ?_; rintro e wn ⟨rfl, hb⟩; (try (replace hT := keepVZ hb hT)); (try (replace hU := keepVZ hb hU)))
       refine hK.out _ _ ?hsr3_8 (fun hH2 => ?hrr3_8)
       case hsr3_8 => exact S2i0 (by have hG := hH; replace hG := S2o0 hG; (try dsimp only at hG); have q0 := hG.1; have q1 := hG.2.1; have q2 := hG.2.2; exact ⟨keepBlk hb q0, keepBlk hb q1, keepBelow hb q2⟩)
       clear hK K hH
       have hH := hH2
       clear hH2
       try simp only [Act.put, sA, sB, sC]
       refine U1 6 0 rfl (fun K hK => ?_)
       try clear hb
       go_simp
       (go_at_call 90; refine (mul_calls _ _ _).mono ?_; rintro e wn ⟨rfl, hb⟩; (try (replace hT := keepVZ hb hT)); (try (replace hU := keepVZ hb hU)))
       refine hK.out _ _ ?hsr3_9 (fun hH2 => ?hrr3_9)
       case hsr3_9 => exact S2i0 (by have hG := hH; replace hG := S2o0 hG; (try dsimp only at hG); have q0 := hG.1; have q1 := hG.2.1; have q2 := hG.2.2; exact ⟨keepBlk hb q0, keepBlk hb q1, keepBelow hb q2⟩)
       clear hK K hH
       have hH := hH2
       clear hH2
       try simp only [Act.put, sA, sB, sC]
       refine U1 9 0 rfl (fun K hK => ?_)
       try clear hb
       go_simp
       (go_at_call 90; refine (mul_calls _ _ _).mono ?_; rintro e wn ⟨rfl, hb⟩; (try (replace hT := keepVZ hb hT)); (try (replace hU := keepVZ hb hU)))
       refine hK.out _ _ ?hsr3_10 (fun hH2 => ?hrr3_10)
       case hsr3_10 => exact S2i0 (by have hG := hH; replace hG := S2o0 hG; (try dsimp only at hG); have q0 := hG.1; have q1 := hG.2.1; have q2 := hG.2.2; exact ⟨keepBlk hb q0, keepBlk hb q1, keepBelow hb q2⟩)
       clear hK K hH
       have hH := hH2
       clear hH2
       try simp only [Act.put, sA, sB, sC]
       refine U1 10 0 rfl (fun K hK => ?_)
       try clear hb
       go_simp
       (go_at_call 52; refine (HCM.out _).mono ?_; rintro e wn ⟨rfl, hb⟩; (try (replace hT := keepVZ hb hT)); (try (replace hU := keepVZ hb hU)))
       refine hK.out _ _ ?hsr3_11 (fun hH2 => ?hrr3_11)
       case hsr3_11 => exact S2i0 (by have hG := hH; replace hG := S2o0 hG; (try dsimp only at hG); have q0 := hG.1; have q1 := hG.2.1; have q2 := hG.2.2; exact ⟨keepBlk hb q0, keepBlk hb q1, keepBelow hb q2⟩)
       clear hK K hH
       have hH := hH2
       clear hH2
       try simp only [Act.put, sA, sB, sC]
       refine Ut 11 84 0 0 0 (v := ?vr3_12) rfl hWr3 hH ?hyr3_12 ?_
       case hyr3_12 => (intro w' hSw; clear hSw; go_simp; try (with_reducible rfl))
       simp only [sB, sC]
       refine wpAnyU_done (by kernel_rfl) ?_ _ _
       refine NoPanic.normal ?_
       clear hWr3
       replace hH := S2o0 hH
       (try dsimp only at hH)
       have q0 := hH.1
       have q1 := hH.2.1
       have q2 := hH.2.2
       clear hH hb
       clear hC hS hB HCM
       by_cases hle : cm ≤ 0
       ·have HG := hid (HLE.out.1 hle)
        clear HLE HSL
        go_wp2
        go_roundw
        case rel => exact ⟨k, o + b, by omega, rfl, by rw [← hbb.out], by omega, by rw [← hbb.out]; omega, HG.out, by rw [← hbb.out]; exact HSU.out, q0, q1, q2⟩
        case measure => simp [intOf]; omega
       ·have HG := hid (show NQ < (o + b) * (o + b) from Int.lt_of_not_ge fun h => hle (HLE.out.2 h))
        clear HLE HSU
        go_wp2
        go_roundw
        case rel => exact ⟨k, o, by omega, rfl, by rw [← hbb.out], o0, by rw [← hbb.out]; omega, HSL.out, by rw [← hbb.out]; exact HG.out, q0, q1, q2⟩
        case measure => simp [intOf]; omega
end
end Go.Proofs.YtilncglnojjlaaaGreat
