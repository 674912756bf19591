/- Parts of a proof: contracts and laws. -/
import Derived.Test.YtiaoandbdgdecaaPT48
namespace Go.Proofs.Ytiaoandbdgdecaa
section
set_option linter.unusedVariables false
set_option linter.unusedSimpArgs false
open Go.RowKit
theorem run_eqBP (x y u v : Int) (w : World) : (Op.equalIn 10000 32 (.agg #[.int .i64 x, .int .i64 y, .int .i64 u, .int .i64 v]) (.agg #[.int .i64 x, .int .i64 y, .int .i64 u, .int .i64 v])).run Try.prog w = .ok true w := by
  have hS : Try.prog.underlying 32 = some (.struct (Try.prog.fieldsOf 32)) := by kernel_rfl
  have hp : Try.prog.stoodInHeld 32 = false := by kernel_rfl
  have hS2 : Try.prog.underlying 30 = some (.struct (Try.prog.fieldsOf 30)) := by kernel_rfl
  have hp2 : Try.prog.stoodInHeld 30 = false := by kernel_rfl
  have inner : ∀ a b : Int, ∀ w, (Op.equalIn 9999 30 (.agg #[.int .i64 a, .int .i64 b]) (.agg #[.int .i64 a, .int .i64 b])).run Try.prog w = .ok true w := fun a b w => by
    rw [show (9999 : Nat) = 9998 + 1 from rfl, run_equalIn_agg w 9998 30 _ _ hS2 hp2]
    simp only [Program.fieldsOf, Try.underlying30]
    go_simp
  rw [show (10000 : Nat) = 9999 + 1 from rfl, run_equalIn_agg w 9999 32 _ _ hS hp]
  simp only [Program.fieldsOf, Try.underlying32]
  go_simp

structure PlS (w0 : World) (g gh gx : Nat) (F : Nat → Option Bx) (H : Nat → Bool) (X : Nat → Bx) (wr : World) : Prop where
  tr : ∃ D, TrA wr g D F ∧ ∀ k, D k → k = g ∨ gx < k
  has : ∀ i, i < 256 → wr.cell? ⟨gh, i, none⟩ = some (.bool (H i))
  hf : ∀ j, wr.frozen? ⟨gh, j, none⟩ = false
  bx : CellsE layBox wr gx 0 (bxL X)
  xf : ∀ j, wr.frozen? ⟨gx, j, none⟩ = false
  bel : Below w0.heap.size w0 wr
  ord : w0.heap.size ≤ g ∧ g < gh ∧ gh < gx
theorem PlS.keep {w0 : World} {g gh gx : Nat} {F : Nat → Option Bx} {H : Nat → Bool} {X : Nat → Bx} {wr w' : World} (hb : Below wr.heap.size wr w') (h : PlS w0 g gh gx F H X wr) : PlS w0 g gh gx F H X w' := by
  obtain ⟨⟨D, h1, h2⟩, hs, hf, hx, xf, hB, ho⟩ := h
  have l1 := hx.lt
  exact ⟨⟨D, TrA.below hb h1, h2⟩, fun i hi => keepCell hb (hs i hi), fun j => (World.frozen?_of_block (hb.block _ (by show gh < _; omega))).trans (hf j), CellsE.below hb hx, fun j => (World.frozen?_of_block (hb.block _ l1)).trans (xf j), keepBelow hb hB, ho⟩
theorem PlS.retT {w0 : World} {g gh gx : Nat} {F F' : Nat → Option Bx} {H : Nat → Bool} {X : Nat → Bx} {wr w' : World} (h : PlS w0 g gh gx F H X wr) {D : Nat → Prop} (hD : ∀ k, D k → k = g ∨ gx < k) {z : Int} {e : Ending} (hr : RetTr g D F' z wr e w') : e = .returned (.int .i64 z) ∧ PlS w0 g gh gx F' H X w' := by
  obtain ⟨-, hs, hf, hx, xf, hB, ho⟩ := h
  obtain ⟨rfl, D', h1, o, h2⟩ := hr
  have l1 := hx.lt
  have nh : ¬ D gh := fun q => by have := hD gh q; omega
  have nx : ¬ D gx := fun q => by have := hD gx q; omega
  refine ⟨rfl, ⟨D', h1, fun k hk => ?_⟩, fun i hi => o.cell (hs i hi) nh, fun j => (World.frozen?_of_block (o.block gh (by omega) nh)).trans (hf j), ⟨Nat.lt_of_lt_of_le l1 o.size, fun j hj i u hu => o.cell (hx.at_ j hj i u hu) nx⟩, fun j => (World.frozen?_of_block (o.block gx l1 nx)).trans (xf j), hB.trans (below_out o (fun k q => ?_) hB.size), ho⟩
  · rcases h2 k hk with q | q
    · exact hD k q
    · exact .inr (by omega)
  · have := hD k q
    omega
theorem PlS.put {w0 : World} {g gh gx : Nat} {F : Nat → Option Bx} {H : Nat → Bool} {X : Nat → Bx} {wr : World} (h : PlS w0 g gh gx F H X wr) {i : Nat} (hi : i < 256) (b1 b2 b3 b4 : Int) (hv : vldB ((b1, b2), (b3, b4)) = true) :
    Calls Try.prog 10 #[.pointer (some ⟨g, 0, none⟩), .int .i64 (i : Nat), bxV ((b1, b2), (b3, b4))] wr (fun e w' => e = .returned (.int .i64 0) ∧ PlS w0 g gh gx (upF F i (some ((b1, b2), (b3, b4)))) H X w') := by
  obtain ⟨D, h1, h2⟩ := h.tr
  exact (tput_calls h1 hi b1 b2 b3 b4 hv).mono fun e w' hr => h.retT h2 hr
theorem PlS.drop {w0 : World} {g gh gx : Nat} {F : Nat → Option Bx} {H : Nat → Bool} {X : Nat → Bx} {wr : World} (h : PlS w0 g gh gx F H X wr) {i : Nat} (hi : i < 256) {b : Bx} (hF : F i = some b) :
    Calls Try.prog 13 #[.pointer (some ⟨g, 0, none⟩), .int .i64 (i : Nat)] wr (fun e w' => e = .returned (.int .i64 0) ∧ PlS w0 g gh gx (upF F i none) H X w') := by
  obtain ⟨D, h1, h2⟩ := h.tr
  exact (tdrop_calls h1 hi hF).mono fun e w' hr => h.retT h2 hr
theorem PlS.dropn {w0 : World} {g gh gx : Nat} {F : Nat → Option Bx} {H : Nat → Bool} {X : Nat → Bx} {wr : World} (h : PlS w0 g gh gx F H X wr) {i : Nat} (hi : i < 256) (hF : F i = none) :
    Calls Try.prog 13 #[.pointer (some ⟨g, 0, none⟩), .int .i64 (i : Nat)] wr (Ret (.int .i64 4) wr) := by
  obtain ⟨D, h1, h2⟩ := h.tr
  exact tdropnone_calls h1 hi hF
theorem PlS.len {w0 : World} {g gh gx : Nat} {F : Nat → Option Bx} {H : Nat → Bool} {X : Nat → Bx} {wr : World} (h : PlS w0 g gh gx F H X wr) : Calls Try.prog 11 #[.pointer (some ⟨g, 0, none⟩)] wr (Ret (.int .i64 (cntF F : Nat)) wr) := by
  obtain ⟨D, h1, h2⟩ := h.tr
  exact tlen_calls h1
theorem PlS.height {w0 : World} {g gh gx : Nat} {F : Nat → Option Bx} {H : Nat → Bool} {X : Nat → Bx} {wr : World} (h : PlS w0 g gh gx F H X wr) : Calls Try.prog 12 #[.pointer (some ⟨g, 0, none⟩)] wr (fun e w' => ∃ z : Nat, e = .returned (.int .i64 (z : Nat)) ∧ HtOk z (cntF F) ∧ Below wr.heap.size wr w') := by
  obtain ⟨D, h1, h2⟩ := h.tr
  exact theight_calls h1
theorem PlS.get {w0 : World} {g gh gx : Nat} {F : Nat → Option Bx} {H : Nat → Bool} {X : Nat → Bx} {wr : World} (h : PlS w0 g gh gx F H X wr) (i : Int) {b : Bx} {z : Int} (hb : b = if i < 0 ∨ 256 ≤ i then ((0, 0), (0, 0)) else (F i.toNat).getD ((0, 0), (0, 0))) (hz : z = if i < 0 ∨ 256 ≤ i then 1 else match F i.toNat with | some _ => 0 | none => 4) :
    Calls Try.prog 17 #[.pointer (some ⟨g, 0, none⟩), .int .i64 i] wr (RetGet b z wr) := by
  obtain ⟨D, h1, h2⟩ := h.tr
  rw [hb, hz]
  exact tget_calls h1 i
theorem PlS.found {w0 : World} {g gh gx : Nat} {H : Nat → Bool} {X : Nat → Bx} {wr : World} (h : PlS w0 g gh gx (FofH H X) H X wr) (dO id b1 b2 b3 b4 : Int) :
    Calls Try.prog 18 #[.pointer (some ⟨g, 0, none⟩), .agg #[.int .i64 dO, .int .i64 id, .int .i64 b1, .int .i64 b2, .int .i64 b3, .int .i64 b4], .agg (hasV H), .agg (bxsV X)] wr (Ret (.bool true) wr) := by
  obtain ⟨D, h1, h2⟩ := h.tr
  exact found_calls h1 dO id b1 b2 b3 b4
def setH (H : Nat → Bool) (i : Nat) (z : Bool) : Nat → Bool := fun j => if j = i then z else H j
def setX (X : Nat → Bx) (i : Nat) (b : Bx) : Nat → Bx := fun j => if j = i then b else X j
theorem fof_put {H : Nat → Bool} {X : Nat → Bx} {i : Nat} (hi : i < 256) (b : Bx) : upF (FofH H X) i (some b) = FofH (setH H i true) (setX X i b) := by
  funext j
  unfold upF FofH setH setX
  by_cases e : j = i
  · subst e; simp [hi]
  · simp [e]
theorem fof_drop {H : Nat → Bool} {X : Nat → Bx} {i : Nat} : upF (FofH H X) i none = FofH (setH H i false) X := by
  funext j
  unfold upF FofH setH
  by_cases e : j = i
  · subst e; simp
  · simp [e]
theorem fof_at {H : Nat → Bool} {X : Nat → Bx} {i : Nat} (hi : i < 256) (h : H i = true) : FofH H X i = some (X i) := by unfold FofH; rw [if_pos ⟨hi, h⟩]
theorem fof_no {H : Nat → Bool} {X : Nat → Bx} {i : Nat} (h : H i = false) : FofH H X i = none := by unfold FofH; rw [if_neg (by rw [h]; simp)]
theorem cnt_le (F : Nat → Option Bx) : cntF F ≤ 256 := by unfold cntF; exact Nat.le_trans (List.length_filter_le _ _) (by simp)
theorem cnt_new {H : Nat → Bool} {X : Nat → Bx} {i : Nat} (hi : i < 256) (b : Bx) (h : H i = false) : cntF (FofH (setH H i true) (setX X i b)) = cntF (FofH H X) + 1 := by
  have := cnt_up (F := FofH H X) hi (some b)
  rw [fof_put hi, fof_no h] at this
  simpa using this
theorem cnt_again {H : Nat → Bool} {X : Nat → Bx} {i : Nat} (hi : i < 256) (b : Bx) (h : H i = true) : cntF (FofH (setH H i true) (setX X i b)) = cntF (FofH H X) := by
  have := cnt_up (F := FofH H X) hi (some b)
  rw [fof_put hi, fof_at hi h] at this
  simpa using this
theorem cnt_gone {H : Nat → Bool} {X : Nat → Bx} {i : Nat} (hi : i < 256) (h : H i = true) : cntF (FofH (setH H i false) X) + 1 = cntF (FofH H X) := by
  have := cnt_up (F := FofH H X) hi none
  rw [fof_drop, fof_at hi h] at this
  simpa using this
theorem PlS.setHas {w0 : World} {g gh gx : Nat} {F : Nat → Option Bx} {H : Nat → Bool} {X : Nat → Bx} {wr : World} (h : PlS w0 g gh gx F H X wr) {i : Nat} (hi : i < 256) (z : Bool) : PlS w0 g gh gx F (setH H i z) X (wr.setCell ⟨gh, i, none⟩ (.bool z)) := by
  obtain ⟨⟨D, h1, h2⟩, hs, hf, hx, xf, hB, ho⟩ := h
  have l1 := hx.lt
  have o : Out (fun k => k = gh) wr (wr.setCell ⟨gh, i, none⟩ (.bool z)) := (Out.refl (fun k => k = gh) wr).setCell (p := ⟨gh, i, none⟩) (.inr rfl) _
  refine ⟨⟨D, h1.out o (fun k q1 q2 => ?_), h2⟩, fun j hj => ?_, frz_set hf _ _, ⟨by rw [World.size_setCell]; exact l1, fun j hj m u hu => far1 (by omega) (hx.at_ j hj m u hu)⟩, fun j => by rw [World.frozen?_setCell]; exact xf j, hB.setCell (p := ⟨gh, i, none⟩) (by show w0.heap.size ≤ gh; omega) _, ho⟩
  · have := h2 k q1
    have q2 : k = gh := q2
    omega
  · unfold setH
    by_cases e : j = i
    · subst e
      rw [if_pos rfl]
      exact cell_eqB (hs j hj)
    · rw [if_neg e]
      exact cell_neB (hs j hj) (fun q => e q.symm)
set_option maxHeartbeats 2000000 in
theorem PlS.setBx {w0 : World} {g gh gx : Nat} {F : Nat → Option Bx} {H : Nat → Bool} {X : Nat → Bx} {wr : World} (h : PlS w0 g gh gx F H X wr) {i : Nat} (hi : i < 256) (b1 b2 b3 b4 : Int) :
    PlS w0 g gh gx F H (setX X i ((b1, b2), (b3, b4))) ((((wr.setCell ⟨gx, i * 4, none⟩ (.int .i64 b1)).setCell ⟨gx, i * 4 + 1, none⟩ (.int .i64 b2)).setCell ⟨gx, i * 4 + 2, none⟩ (.int .i64 b3)).setCell ⟨gx, i * 4 + 3, none⟩ (.int .i64 b4)) := by
  obtain ⟨⟨D, h1, h2⟩, hs, hf, hx, xf, hB, ho⟩ := h
  have l1 := hx.lt
  have o : Out (fun k => k = gx) wr ((((wr.setCell ⟨gx, i * 4, none⟩ (.int .i64 b1)).setCell ⟨gx, i * 4 + 1, none⟩ (.int .i64 b2)).setCell ⟨gx, i * 4 + 2, none⟩ (.int .i64 b3)).setCell ⟨gx, i * 4 + 3, none⟩ (.int .i64 b4)) := ((((Out.refl (fun k => k = gx) wr).setCell (p := ⟨gx, i * 4, none⟩) (.inr rfl) _).setCell (p := ⟨gx, i * 4 + 1, none⟩) (.inr rfl) _).setCell (p := ⟨gx, i * 4 + 2, none⟩) (.inr rfl) _).setCell (p := ⟨gx, i * 4 + 3, none⟩) (.inr rfl) _
  have hg : w0.heap.size ≤ gx := by omega
  refine ⟨⟨D, h1.out o (fun k q1 q2 => ?_), h2⟩, fun j hj => o.cell (hs j hj) (fun q => by have q : gh = gx := q; omega), fun j => (World.frozen?_of_block (o.block gh (by omega) (fun q => by have q : gh = gx := q; omega))).trans (hf j), ⟨Nat.lt_of_lt_of_le l1 o.size, fun j hj m u hu => ?_⟩, frz_set (frz_set (frz_set (frz_set xf _ _) _ _) _ _) _ _, (((hB.setCell (p := ⟨gx, i * 4, none⟩) hg _).setCell (p := ⟨gx, i * 4 + 1, none⟩) hg _).setCell (p := ⟨gx, i * 4 + 2, none⟩) hg _).setCell (p := ⟨gx, i * 4 + 3, none⟩) hg _, ho⟩
  · have := h2 k q1
    have q2 : k = gx := q2
    omega
  · have hj256 : j < 256 := by rw [bxL_len] at hj; exact hj
    simp only [bxL, List.getElem_map, List.getElem_range] at hu
    have hold : ∀ m u, (layBox.enc (X j))[m]? = some u → wr.cell? ⟨gx, 0 + j * 4 + m, none⟩ = some u := fun m u q => hx.at_ j (by rw [bxL_len]; exact hj256) m u (by simp only [bxL, List.getElem_map, List.getElem_range]; exact q)
    show World.cell? _ ⟨gx, 0 + j * 4 + m, none⟩ = some u
    rw [Nat.zero_add]
    by_cases e : j = i
    · subst e
      have c0 := hold 0 _ rfl
      have c1 := hold 1 _ rfl
      have c2 := hold 2 _ rfl
      have c3 := hold 3 _ rfl
      rw [Nat.zero_add] at c0 c1 c2 c3
      unfold setX at hu
      rw [if_pos rfl] at hu
      match m, hu with
      | 0, hu => have q : some (Value.int .i64 b1) = some u := hu; cases q; exact cell_neB (cell_neB (cell_neB (cell_eqB c0) (by omega)) (by omega)) (by omega)
      | 1, hu => have q : some (Value.int .i64 b2) = some u := hu; cases q; exact cell_neB (cell_neB (cell_eqB (cell_neB c1 (by omega))) (by omega)) (by omega)
      | 2, hu => have q : some (Value.int .i64 b3) = some u := hu; cases q; exact cell_neB (cell_eqB (cell_neB (cell_neB c2 (by omega)) (by omega))) (by omega)
      | 3, hu => have q : some (Value.int .i64 b4) = some u := hu; cases q; exact cell_eqB (cell_neB (cell_neB (cell_neB c3 (by omega)) (by omega)) (by omega))
      | m + 4, hu => simp [layBox] at hu
    · unfold setX at hu
      rw [if_neg e] at hu
      have hm : m < 4 := by
        rcases Nat.lt_or_ge m 4 with q | q
        · exact q
        · rw [List.getElem?_eq_none (by show 4 ≤ m; exact q)] at hu; cases hu
      have c := hold m u hu
      rw [Nat.zero_add] at c
      exact cell_neB (cell_neB (cell_neB (cell_neB c (by omega)) (by omega)) (by omega)) (by omega)
end
end Go.Proofs.Ytiaoandbdgdecaa
