/- Parts of a proof: contracts and laws. -/
import Derived.Test.YtilncglnojjlaaaS43
import Derived.Test.YtilncglnojjlaaaS44
import Derived.Test.YtilncglnojjlaaaS40
namespace Go.Proofs.Ytilncglnojjlaaa
section
set_option linter.unusedVariables false
set_option linter.unusedSimpArgs false
open Go.RowKit

abbrev Rb := (Int × Int) × Rw
def encRb (x : Rb) : List Value := [.int .i64 x.1.1, .int .i64 x.1.2, .int .i64 x.2.t1, .int .i64 x.2.t2, .int .i64 x.2.ease, .int .i64 x.2.slip, .int .i64 x.2.lift, .int .i64 x.2.bound]
def layRb : Lay Rb := ⟨encRb, 8, fun _ => rfl, fun x v hv => by simp only [encRb, List.mem_cons, List.mem_nil_iff, or_false] at hv; rcases hv with rfl | rfl | rfl | rfl | rfl | rfl | rfl | rfl <;> rfl, by omega⟩
theorem info_rb : (Try.prog.info? 89).map (fun i => (i.zero, i.size, i.bytes)) = some (some (.agg #[.int .i64 0, .int .i64 0, .int .i64 0, .int .i64 0, .int .i64 0, .int .i64 0, .int .i64 0, .int .i64 0]), 8, 64) := by kernel_rfl
theorem tyRb : TyE layRb 87 89 64 := ⟨Try.underlying87, by obtain ⟨i0, hi, hz0, hz1, hz2⟩ := info_parts info_rb; exact ⟨i0, _, hi, hz0, hz1, hz2, rfl⟩⟩
theorem cells_rb_one {w : World} {g : Nat} {x : Rb} (h0 : w.cell? ⟨g, 0, none⟩ = some (.int .i64 x.1.1)) (h1 : w.cell? ⟨g, 1, none⟩ = some (.int .i64 x.1.2)) (h2 : w.cell? ⟨g, 2, none⟩ = some (.int .i64 x.2.t1)) (h3 : w.cell? ⟨g, 3, none⟩ = some (.int .i64 x.2.t2)) (h4 : w.cell? ⟨g, 4, none⟩ = some (.int .i64 x.2.ease)) (h5 : w.cell? ⟨g, 5, none⟩ = some (.int .i64 x.2.slip)) (h6 : w.cell? ⟨g, 6, none⟩ = some (.int .i64 x.2.lift)) (h7 : w.cell? ⟨g, 7, none⟩ = some (.int .i64 x.2.bound)) : CellsE layRb w g 0 [x] := by
  refine ⟨lt_of_cell h0, fun j hj i v hv => ?_⟩
  have hj0 : j = 0 := by simpa using hj
  subst hj0
  rw [Nat.zero_mul, Nat.zero_add]
  try rw [Nat.zero_add]
  have hv : (encRb x)[i]? = some v := hv
  unfold encRb at hv
  match i, hv with
  | 0, hv => have e : some _ = some v := hv; cases e; exact h0
  | 1, hv => have e : some _ = some v := hv; cases e; exact h1
  | 2, hv => have e : some _ = some v := hv; cases e; exact h2
  | 3, hv => have e : some _ = some v := hv; cases e; exact h3
  | 4, hv => have e : some _ = some v := hv; cases e; exact h4
  | 5, hv => have e : some _ = some v := hv; cases e; exact h5
  | 6, hv => have e : some _ = some v := hv; cases e; exact h6
  | 7, hv => have e : some _ = some v := hv; cases e; exact h7
  | i + 8, hv => simp at hv
structure R8 (w : World) (g : Nat) (a0 a1 a2 a3 a4 a5 a6 a7 : Int) : Prop where
  c0 : w.cell? ⟨g, 0, none⟩ = some (.int .i64 a0)
  c1 : w.cell? ⟨g, 1, none⟩ = some (.int .i64 a1)
  c2 : w.cell? ⟨g, 2, none⟩ = some (.int .i64 a2)
  c3 : w.cell? ⟨g, 3, none⟩ = some (.int .i64 a3)
  c4 : w.cell? ⟨g, 4, none⟩ = some (.int .i64 a4)
  c5 : w.cell? ⟨g, 5, none⟩ = some (.int .i64 a5)
  c6 : w.cell? ⟨g, 6, none⟩ = some (.int .i64 a6)
  c7 : w.cell? ⟨g, 7, none⟩ = some (.int .i64 a7)
  f : ∀ j, w.frozen? ⟨g, j, none⟩ = false
section
variable {w w' : World} {g : Nat} {a0 a1 a2 a3 a4 a5 a6 a7 : Int}
theorem keepR8 (hb : Below w.heap.size w w') (h : R8 w g a0 a1 a2 a3 a4 a5 a6 a7) : R8 w' g a0 a1 a2 a3 a4 a5 a6 a7 := ⟨keepCell hb h.c0, keepCell hb h.c1, keepCell hb h.c2, keepCell hb h.c3, keepCell hb h.c4, keepCell hb h.c5, keepCell hb h.c6, keepCell hb h.c7, fun j => ((bcell hb).2 _ _ (lt_of_cell h.c0)).trans (h.f j)⟩
theorem R8.drew (h : R8 w g a0 a1 a2 a3 a4 a5 a6 a7) : R8 w.drew g a0 a1 a2 a3 a4 a5 a6 a7 := keepR8 (Below.refl _ _).drew h
theorem R8.s4 (h : R8 w g a0 a1 a2 a3 a4 a5 a6 a7) (v : Int) : R8 (w.setCell ⟨g, 4, none⟩ (.int .i64 v)) g a0 a1 a2 a3 v a5 a6 a7 := by
  obtain ⟨h0, h1, h2, h3, h4, h5, h6, h7, hf⟩ := h
  exact ⟨by go_simp, by go_simp, by go_simp, by go_simp, by go_simp, by go_simp, by go_simp, by go_simp, fun j => by rw [World.frozen?_setCell]; exact hf j⟩
theorem R8.s5 (h : R8 w g a0 a1 a2 a3 a4 a5 a6 a7) (v : Int) : R8 (w.setCell ⟨g, 5, none⟩ (.int .i64 v)) g a0 a1 a2 a3 a4 v a6 a7 := by
  obtain ⟨h0, h1, h2, h3, h4, h5, h6, h7, hf⟩ := h
  exact ⟨by go_simp, by go_simp, by go_simp, by go_simp, by go_simp, by go_simp, by go_simp, by go_simp, fun j => by rw [World.frozen?_setCell]; exact hf j⟩
theorem R8.s6 (h : R8 w g a0 a1 a2 a3 a4 a5 a6 a7) (v : Int) : R8 (w.setCell ⟨g, 6, none⟩ (.int .i64 v)) g a0 a1 a2 a3 a4 a5 v a7 := by
  obtain ⟨h0, h1, h2, h3, h4, h5, h6, h7, hf⟩ := h
  exact ⟨by go_simp, by go_simp, by go_simp, by go_simp, by go_simp, by go_simp, by go_simp, by go_simp, fun j => by rw [World.frozen?_setCell]; exact hf j⟩
theorem R8.s7 (h : R8 w g a0 a1 a2 a3 a4 a5 a6 a7) (v : Int) : R8 (w.setCell ⟨g, 7, none⟩ (.int .i64 v)) g a0 a1 a2 a3 a4 a5 a6 v := by
  obtain ⟨h0, h1, h2, h3, h4, h5, h6, h7, hf⟩ := h
  exact ⟨by go_simp, by go_simp, by go_simp, by go_simp, by go_simp, by go_simp, by go_simp, by go_simp, fun j => by rw [World.frozen?_setCell]; exact hf j⟩
end

structure Bw (wj w : World) : Prop where
  out : Below wj.heap.size wj w
def rowsB (Q : List QB) (C : List Ct) (st : Int) : List Rb := C.map fun x => ((x.nx, x.ny), rowQ Q st x)

structure S6 (w0 : World) (Bz g gc : Nat) (L : List BE) (C : List Ct) (w : World) : Prop where
  bl : BL w g L
  cl : CellsE layC w gc 0 C
  cf : ∀ j, w.frozen? ⟨gc, j, none⟩ = false
  bel : Below w0.heap.size w0 w
  lt : w0.heap.size ≤ g ∧ w0.heap.size ≤ gc ∧ g ≠ gc ∧ g < Bz ∧ gc < Bz ∧ Bz ≤ w.heap.size
  lo : ∀ y ∈ L, ∀ bx off, y.A = some ⟨bx, off, none⟩ → bx < Bz
theorem S6.grow {w0 w wa wb w7 : World} {Bz g gc : Nat} {L : List BE} {C : List Ct} {sr : Value} {R : List Rb} (h : S6 w0 Bz g gc L C w) (hb : Below w.heap.size w wa) (ho : OwnE layRb 89 wb Bz sr R) (hg : wa.grownBy w7 sr.ownBlock) : S6 w0 Bz g gc L C w7 := by
  obtain ⟨l1, l2, l3, l4, l5, l6⟩ := h.lt
  have hg7 : w.grownBy w7 sr.ownBlock := grown_trans (grown_of_below hb) hg
  have hno : ∀ k, k < Bz → some k ≠ sr.ownBlock := fun k hk e => by have := (ho.lt e.symm).1; omega
  have eg := hg7.block g (by omega) (hno g l4)
  have ec := hg7.block gc (by omega) (hno gc l5)
  have hbl : BL w7 g L := ⟨⟨Nat.lt_of_lt_of_le h.bl.cl.lt hg7.size, fun j hj i u hu => (World.cell?_of_block eg).trans (h.bl.cl.at_ j hj i u hu)⟩, fun j => (World.frozen?_of_block eg).trans (h.bl.free j), fun x hx => sl_grownR (h.bl.co x hx) hg7 (fun bx off e => hno bx (h.lo x hx bx off e)), h.bl.ne⟩
  have hcl : CellsE layC w7 gc 0 C := ⟨Nat.lt_of_lt_of_le h.cl.lt hg7.size, fun j hj i u hu => (World.cell?_of_block ec).trans (h.cl.at_ j hj i u hu)⟩
  exact ⟨hbl, hcl, fun j => (World.frozen?_of_block ec).trans (h.cf j), h.bel.grown hg7 h.bel.size (fun k hk => by have := (ho.lt hk).1; omega), ⟨l1, l2, l3, l4, l5, Nat.le_trans l6 hg7.size⟩, h.lo⟩
theorem keepS6 {w0 w w' : World} {Bz g gc : Nat} {L : List BE} {C : List Ct} (hb : Below w.heap.size w w') (h : S6 w0 Bz g gc L C w) : S6 w0 Bz g gc L C w' := by
  obtain ⟨l1, l2, l3, l4, l5, l6⟩ := h.lt
  exact ⟨keepBL hb h.bl, h.cl.below hb, fun j => ((bcell hb).2 _ _ h.cl.lt).trans (h.cf j), keepBelow hb h.bel, ⟨l1, l2, l3, l4, l5, Nat.le_trans l6 hb.size⟩, h.lo⟩

theorem step_callZ {w : World} {o : Oper} {ops : Array Oper} {a : Act} {K : Act → World → Prop} {Q : Exit → Act → World → Prop} {E : Prop} {f : Nat} {vals : Array Value} {v : Value} (hC : Calls Try.prog f vals w (Ret v w)) (xs : Array Operand) (ts : Array TypeId) (hgd : o.guard = none) (ho : o.op = .call { callee := .value (.func f), args := xs, argTypes := ts })
    (hv : xs.map a.eval = vals) (hcf : (callFunc f vals).run Try.prog w = .ok (.enter f vals) w)
    (h : ∀ wn, Below w.heap.size w wn → K (a.put o.dst v) wn) : if Region.wanted o (yielded ops a.tmps) = true then Oper.wp Try.prog o a w K Q else E := by
  have hw : Region.wanted o (yielded ops a.tmps) = true := by simp [Region.wanted, hgd]
  rw [if_pos hw]
  obtain ⟨dst, op, ty, pos, aft, gd⟩ := o
  dsimp only at ho hgd h ⊢
  subst ho hgd
  go_simp
  refine hC.mono ?_
  rintro e wn ⟨rfl, hb⟩
  exact h wn hb

structure Zn (n : Nat) (w : World) (g : Nat) : Prop where
  lt : g < w.heap.size
  c : ∀ j, j < n → ∃ v, w.cell? ⟨g, j, none⟩ = some v
  free : ∀ j, w.frozen? ⟨g, j, none⟩ = false
theorem keepZn {n : Nat} {w w' : World} {g : Nat} (hb : Below w.heap.size w w') (h : Zn n w g) : Zn n w' g :=
  ⟨Nat.lt_of_lt_of_le h.lt hb.size, fun j hj => by obtain ⟨v, hv⟩ := h.c j hj; exact ⟨v, keepCell hb hv⟩, fun j => ((bcell hb).2 _ _ h.lt).trans (h.free j)⟩
theorem Zn.drew {n : Nat} {w : World} {g : Nat} (h : Zn n w g) : Zn n w.drew g := ⟨h.lt, h.c, h.free⟩
theorem Zn.set {n : Nat} {w : World} {g : Nat} (h : Zn n w g) (a : Addr) (u : Value) : Zn n (w.setCell a u) g := ⟨by simp; exact h.lt, fun j hj => by
    obtain ⟨v, hv⟩ := h.c j hj
    by_cases e : a = ⟨g, j, none⟩
    · subst e; exact ⟨u, by go_simp⟩
    · exact ⟨v, by go_simp⟩, fun j => by rw [World.frozen?_setCell]; exact h.free j⟩
theorem Zn.here10 (w : World) (t : TypeId) : Zn 10 (w.alloc (.cells #[.int .i64 0, .int .i64 0, .int .i64 0, .int .i64 0, .int .i64 0, .int .i64 0, .int .i64 0, .int .i64 0, .int .i64 0, .int .i64 0] t)) w.heap.size := ⟨by simp, fun j hj => match j, hj with | 0, _ | 1, _ | 2, _ | 3, _ | 4, _ | 5, _ | 6, _ | 7, _ | 8, _ | 9, _ => ⟨.int .i64 0, by go_simp⟩, fun j => by go_simp⟩
theorem Zn.here8 (w : World) (t : TypeId) : Zn 8 (w.alloc (.cells #[.int .i64 0, .int .i64 0, .int .i64 0, .int .i64 0, .int .i64 0, .int .i64 0, .int .i64 0, .int .i64 0] t)) w.heap.size := ⟨by simp, fun j hj => match j, hj with | 0, _ | 1, _ | 2, _ | 3, _ | 4, _ | 5, _ | 6, _ | 7, _ => ⟨.int .i64 0, by go_simp⟩, fun j => by go_simp⟩
theorem Zn.all10 {w : World} {g : Nat} (h : Zn 10 w g) : ∃ z0 z1 z2 z3 z4 z5 z6 z7 z8 z9 : Value, w.cell? ⟨g, 0, none⟩ = some z0 ∧ w.cell? ⟨g, 1, none⟩ = some z1 ∧ w.cell? ⟨g, 2, none⟩ = some z2 ∧ w.cell? ⟨g, 3, none⟩ = some z3 ∧ w.cell? ⟨g, 4, none⟩ = some z4 ∧ w.cell? ⟨g, 5, none⟩ = some z5 ∧ w.cell? ⟨g, 6, none⟩ = some z6 ∧ w.cell? ⟨g, 7, none⟩ = some z7 ∧ w.cell? ⟨g, 8, none⟩ = some z8 ∧ w.cell? ⟨g, 9, none⟩ = some z9 := by
  obtain ⟨z0, h0⟩ := h.c 0 (by omega)
  obtain ⟨z1, h1⟩ := h.c 1 (by omega)
  obtain ⟨z2, h2⟩ := h.c 2 (by omega)
  obtain ⟨z3, h3⟩ := h.c 3 (by omega)
  obtain ⟨z4, h4⟩ := h.c 4 (by omega)
  obtain ⟨z5, h5⟩ := h.c 5 (by omega)
  obtain ⟨z6, h6⟩ := h.c 6 (by omega)
  obtain ⟨z7, h7⟩ := h.c 7 (by omega)
  obtain ⟨z8, h8⟩ := h.c 8 (by omega)
  obtain ⟨z9, h9⟩ := h.c 9 (by omega)
  exact ⟨z0, z1, z2, z3, z4, z5, z6, z7, z8, z9, h0, h1, h2, h3, h4, h5, h6, h7, h8, h9⟩
theorem Zn.all8 {w : World} {g : Nat} (h : Zn 8 w g) : ∃ z0 z1 z2 z3 z4 z5 z6 z7 : Value, w.cell? ⟨g, 0, none⟩ = some z0 ∧ w.cell? ⟨g, 1, none⟩ = some z1 ∧ w.cell? ⟨g, 2, none⟩ = some z2 ∧ w.cell? ⟨g, 3, none⟩ = some z3 ∧ w.cell? ⟨g, 4, none⟩ = some z4 ∧ w.cell? ⟨g, 5, none⟩ = some z5 ∧ w.cell? ⟨g, 6, none⟩ = some z6 ∧ w.cell? ⟨g, 7, none⟩ = some z7 := by
  obtain ⟨z0, h0⟩ := h.c 0 (by omega)
  obtain ⟨z1, h1⟩ := h.c 1 (by omega)
  obtain ⟨z2, h2⟩ := h.c 2 (by omega)
  obtain ⟨z3, h3⟩ := h.c 3 (by omega)
  obtain ⟨z4, h4⟩ := h.c 4 (by omega)
  obtain ⟨z5, h5⟩ := h.c 5 (by omega)
  obtain ⟨z6, h6⟩ := h.c 6 (by omega)
  obtain ⟨z7, h7⟩ := h.c 7 (by omega)
  exact ⟨z0, z1, z2, z3, z4, z5, z6, z7, h0, h1, h2, h3, h4, h5, h6, h7⟩

def setC (w : World) (g : Nat) (x : Ct) : World := ((((((((((w.setCell ⟨g, 0, none⟩ (.int .i64 x.a)).setCell ⟨g, 1, none⟩ (.int .i64 x.b)).setCell ⟨g, 2, none⟩ (.int .i64 x.id)).setCell ⟨g, 3, none⟩ (.int .i64 x.px)).setCell ⟨g, 4, none⟩ (.int .i64 x.py)).setCell ⟨g, 5, none⟩ (.int .i64 x.nx)).setCell ⟨g, 6, none⟩ (.int .i64 x.ny)).setCell ⟨g, 7, none⟩ (.int .i64 x.dep)).setCell ⟨g, 8, none⟩ (.int .i64 x.push)).setCell ⟨g, 9, none⟩ (.int .i64 x.sli))

def setR8 (w : World) (g : Nat) (a0 a1 a2 a3 a4 a5 a6 a7 : Int) : World := ((((((((w.setCell ⟨g, 0, none⟩ (.int .i64 a0)).setCell ⟨g, 1, none⟩ (.int .i64 a1)).setCell ⟨g, 2, none⟩ (.int .i64 a2)).setCell ⟨g, 3, none⟩ (.int .i64 a3)).setCell ⟨g, 4, none⟩ (.int .i64 a4)).setCell ⟨g, 5, none⟩ (.int .i64 a5)).setCell ⟨g, 6, none⟩ (.int .i64 a6)).setCell ⟨g, 7, none⟩ (.int .i64 a7))
theorem setC_at {w : World} {g : Nat} (h : Zn 10 w g) (x : Ct) : Cg (setC w g x) g x := by
  obtain ⟨z0, z1, z2, z3, z4, z5, z6, z7, z8, z9, h0, h1, h2, h3, h4, h5, h6, h7, h8, h9⟩ := h.all10
  unfold setC
  exact ⟨by go_simp, by go_simp, by go_simp, by go_simp, by go_simp, by go_simp, by go_simp, by go_simp, by go_simp, by go_simp⟩
theorem setR8_at {w : World} {g : Nat} (h : Zn 8 w g) (a0 a1 a2 a3 a4 a5 a6 a7 : Int) : R8 (setR8 w g a0 a1 a2 a3 a4 a5 a6 a7) g a0 a1 a2 a3 a4 a5 a6 a7 := by
  obtain ⟨z0, z1, z2, z3, z4, z5, z6, z7, h0, h1, h2, h3, h4, h5, h6, h7⟩ := h.all8
  have hf := h.free
  unfold setR8
  refine ⟨by go_simp, by go_simp, by go_simp, by go_simp, by go_simp, by go_simp, by go_simp, by go_simp, fun j => ?_⟩
  iterate 8 rw [World.frozen?_setCell]
  exact hf j
theorem Zn.setC {n : Nat} {w : World} {g k : Nat} (h : Zn n w k) (x : Ct) : Zn n (Go.Proofs.Ytilncglnojjlaaa.setC w g x) k := ((((((((((h.set _ _).set _ _).set _ _).set _ _).set _ _).set _ _).set _ _).set _ _).set _ _).set _ _)
theorem Cg.off {w : World} {g k o : Nat} {v : Value} {x : Ct} (h : Cg w g x) (hne : k ≠ g) : Cg (w.setCell ⟨k, o, none⟩ v) g x := ⟨far1 hne h.c0, far1 hne h.c1, far1 hne h.c2, far1 hne h.c3, far1 hne h.c4, far1 hne h.c5, far1 hne h.c6, far1 hne h.c7, far1 hne h.c8, far1 hne h.c9⟩
theorem R8.off {w : World} {g k o : Nat} {v : Value} {a0 a1 a2 a3 a4 a5 a6 a7 : Int} (h : R8 w g a0 a1 a2 a3 a4 a5 a6 a7) (hne : k ≠ g) : R8 (w.setCell ⟨k, o, none⟩ v) g a0 a1 a2 a3 a4 a5 a6 a7 := ⟨far1 hne h.c0, far1 hne h.c1, far1 hne h.c2, far1 hne h.c3, far1 hne h.c4, far1 hne h.c5, far1 hne h.c6, far1 hne h.c7, fun j => by rw [World.frozen?_setCell]; exact h.f j⟩
theorem Cg.setR8 {w : World} {g k : Nat} {x : Ct} (h : Cg w g x) (hne : k ≠ g) (a0 a1 a2 a3 a4 a5 a6 a7 : Int) : Cg (Go.Proofs.Ytilncglnojjlaaa.setR8 w k a0 a1 a2 a3 a4 a5 a6 a7) g x := ((((((((h.off hne).off hne).off hne).off hne).off hne).off hne).off hne).off hne)
theorem R8.next {w w' : World} {g k : Nat} {a0 a1 a2 a3 a4 a5 a6 a7 : Int} (h : R8 w g a0 a1 a2 a3 a4 a5 a6 a7) (hg : w.grownBy w' (some k)) (hne : g ≠ k) : R8 w' g a0 a1 a2 a3 a4 a5 a6 a7 :=
  have e := hg.block g (lt_of_cell h.c0) (by simpa using hne)
  ⟨(World.cell?_of_block e).trans h.c0, (World.cell?_of_block e).trans h.c1, (World.cell?_of_block e).trans h.c2, (World.cell?_of_block e).trans h.c3, (World.cell?_of_block e).trans h.c4, (World.cell?_of_block e).trans h.c5, (World.cell?_of_block e).trans h.c6, (World.cell?_of_block e).trans h.c7, fun j => (World.frozen?_of_block e).trans (h.f j)⟩

theorem cellsC_set {w : World} {gc i o : Nat} {C : List Ct} {v : Value} (h : CellsE layC w gc 0 C) (hi : i < C.length) (y : Ct) (ho : o < 10) (h1 : (encC y)[o]? = some v) (h2 : ∀ k, k ≠ o → (encC y)[k]? = (encC C[i])[k]?) : CellsE layC (w.setCell ⟨gc, i * 10 + o, none⟩ v) gc 0 (C.set i y) := by
  refine ⟨by simp; exact h.lt, fun j hj k u hu => ?_⟩
  have hlen : ∀ x : Ct, (encC x).length = 10 := fun _ => rfl
  have hj' : j < C.length := by simpa using hj
  have hk10 : k < 10 := by
    rcases Nat.lt_or_ge k 10 with q | q
    · exact q
    · have hu2 : (encC (C.set i y)[j])[k]? = some u := hu
      rw [List.getElem?_eq_none (by rw [hlen]; exact q)] at hu2; cases hu2
  by_cases e : j = i
  · subst e
    have hu : (encC y)[k]? = some u := by have hu2 : (encC (C.set j y)[j])[k]? = some u := hu; rwa [List.getElem_set_self] at hu2
    show (w.setCell ⟨gc, j * 10 + o, none⟩ v).cell? ⟨gc, 0 + j * 10 + k, none⟩ = some u
    rw [Nat.zero_add]
    obtain ⟨v0, hv0⟩ : ∃ v0, (encC C[j])[o]? = some v0 := ⟨(encC C[j])[o]'(Nat.lt_of_lt_of_eq ho (hlen C[j]).symm), List.getElem?_eq_getElem _⟩
    by_cases e2 : k = o
    · subst e2
      rw [h1] at hu
      cases hu
      have h3 := h.at_ j hj' k _ hv0
      rw [Nat.zero_add] at h3
      exact cell_set_eq h3
    · have h3 := h.at_ j hj' k u (by rw [← hu]; exact (h2 k e2).symm)
      rw [Nat.zero_add] at h3
      exact cell_set_ne h3 (by omega)
  · have hu : (encC C[j])[k]? = some u := by have hu2 : (encC (C.set i y)[j])[k]? = some u := hu; rwa [List.getElem_set_ne (by omega)] at hu2
    have h3 : w.cell? ⟨gc, 0 + j * 10 + k, none⟩ = some u := h.at_ j hj' k u hu
    show (w.setCell ⟨gc, i * 10 + o, none⟩ v).cell? ⟨gc, 0 + j * 10 + k, none⟩ = some u
    exact cell_set_ne h3 (by omega)
theorem cells_rb {w : World} {g i : Nat} {l : List Rb} {x : Rb} (h : CellsE layRb w g 0 l) (hk : i < l.length) (hx : x = l[i]) : w.cell? ⟨g, i * 8, none⟩ = some (.int .i64 x.1.1) ∧ w.cell? ⟨g, i * 8 + 1, none⟩ = some (.int .i64 x.1.2) ∧ w.cell? ⟨g, i * 8 + 2, none⟩ = some (.int .i64 x.2.t1) ∧ w.cell? ⟨g, i * 8 + 3, none⟩ = some (.int .i64 x.2.t2) ∧ w.cell? ⟨g, i * 8 + 4, none⟩ = some (.int .i64 x.2.ease) ∧ w.cell? ⟨g, i * 8 + 5, none⟩ = some (.int .i64 x.2.slip) ∧ w.cell? ⟨g, i * 8 + 6, none⟩ = some (.int .i64 x.2.lift) ∧ w.cell? ⟨g, i * 8 + 7, none⟩ = some (.int .i64 x.2.bound) := by
  subst hx
  have H : ∀ j v, (encRb l[i])[j]? = some v → w.cell? ⟨g, i * 8 + j, none⟩ = some v := fun j v hv => by have h2 : w.cell? ⟨g, 0 + i * 8 + j, none⟩ = some v := h.at_ i hk j v hv; rwa [Nat.zero_add] at h2
  exact ⟨H 0 _ rfl, H 1 _ rfl, H 2 _ rfl, H 3 _ rfl, H 4 _ rfl, H 5 _ rfl, H 6 _ rfl, H 7 _ rfl⟩

structure Sz (w0 : World) (g gc gq : Nat) (L : List BE) (C : List Ct) (R : List Rb) (w : World) : Prop where
  bl : BL w g L
  cl : CellsE layC w gc 0 C
  cf : ∀ j, w.frozen? ⟨gc, j, none⟩ = false
  rl : CellsE layRb w gq 0 R
  lo : ∀ y ∈ L, ∀ bx off, y.A = some ⟨bx, off, none⟩ → bx < w0.heap.size ∧ bx ≠ gc
  gr : Gr2 w0 w g gc
  lt : g < w0.heap.size ∧ gc < w0.heap.size ∧ gq < w0.heap.size
  ne : g ≠ gc ∧ g ≠ gq ∧ gc ≠ gq
section
variable {w0 w w' : World} {g gc gq : Nat} {L L2 : List BE} {C : List Ct} {R : List Rb}
theorem keepSz (hb : Below w.heap.size w w') (h : Sz w0 g gc gq L C R w) : Sz w0 g gc gq L C R w' :=
  ⟨keepBL hb h.bl, h.cl.below hb, fun j => ((bcell hb).2 _ _ h.cl.lt).trans (h.cf j), h.rl.below hb, h.lo, h.gr.below hb, h.lt, h.ne⟩
theorem Sz.drew (h : Sz w0 g gc gq L C R w) : Sz w0 g gc gq L C R w.drew := keepSz (Below.refl _ _).drew h
theorem Sz.alloc (h : Sz w0 g gc gq L C R w) (o : Obj) : Sz w0 g gc gq L C R (w.alloc o) := keepSz ((Below.refl _ _).alloc (Nat.le_refl _) _) h
theorem Sz.off {k o : Nat} {v : Value} (h : Sz w0 g gc gq L C R w) (hk : w0.heap.size ≤ k) : Sz w0 g gc gq L C R (w.setCell ⟨k, o, none⟩ v) := by
  obtain ⟨l1, l2, l3⟩ := h.lt
  exact ⟨h.bl.off (by omega) (fun y hy bx off e => by have := (h.lo y hy bx off e).1; omega), ⟨by simp; exact h.cl.lt, fun j hj i u hu => far1 (by omega) (h.cl.at_ j hj i u hu)⟩, fun j => by rw [World.frozen?_setCell]; exact h.cf j, ⟨by simp; exact h.rl.lt, fun j hj i u hu => far1 (by omega) (h.rl.at_ j hj i u hu)⟩, h.lo, h.gr.off _ _ hk, h.lt, h.ne⟩
theorem Sz.push (h : Sz w0 g gc gq L C R w) (hbl : BL w' g L2) (hg : w.grownBy w' (some g)) (hn : ∀ y ∈ L2, ∃ z ∈ L, y.A = z.A) : Sz w0 g gc gq L2 C R w' := by
  obtain ⟨l1, l2, l3⟩ := h.lt
  obtain ⟨n1, n2, n3⟩ := h.ne
  have hs := h.gr.size
  have e : ∀ k, k < w0.heap.size → k ≠ g → w'.heap[k]? = w.heap[k]? := fun k hk hne => hg.block k (by omega) (by simpa using hne)
  have ec := e gc l2 (by omega)
  have eq := e gq l3 (by omega)
  exact ⟨hbl, ⟨Nat.lt_of_lt_of_le h.cl.lt hg.size, fun j hj i u hu => (World.cell?_of_block ec).trans (h.cl.at_ j hj i u hu)⟩, fun j => (World.frozen?_of_block ec).trans (h.cf j), ⟨Nat.lt_of_lt_of_le h.rl.lt hg.size, fun j hj i u hu => (World.cell?_of_block eq).trans (h.rl.at_ j hj i u hu)⟩, fun y hy bx off e2 => by
    obtain ⟨z, hz, ez⟩ := hn y hy
    exact h.lo z hz bx off (ez ▸ e2), h.gr.step hg (.inl rfl), h.lt, h.ne⟩
theorem Sz.setc {i o : Nat} {v : Value} (h : Sz w0 g gc gq L C R w) (hi : i < C.length) (y : Ct) (ho : o < 10) (h1 : (encC y)[o]? = some v) (h2 : ∀ k, k ≠ o → (encC y)[k]? = (encC C[i])[k]?) : Sz w0 g gc gq L (C.set i y) R (w.setCell ⟨gc, i * 10 + o, none⟩ v) := by
  obtain ⟨n1, n2, n3⟩ := h.ne
  exact ⟨h.bl.off (by omega) (fun y hy bx off e => (h.lo y hy bx off e).2), cellsC_set h.cl hi y ho h1 h2, fun j => by rw [World.frozen?_setCell]; exact h.cf j, ⟨by simp; exact h.rl.lt, fun j hj k u hu => far1 (by omega) (h.rl.at_ j hj k u hu)⟩, h.lo, h.gr.setc _ _, h.lt, h.ne⟩
theorem Sz.setsli {i : Nat} {x : Ct} (h : Sz w0 g gc gq L C R w) (hi : i < C.length) (hx : C[i]? = some x) (v : Int) : Sz w0 g gc gq L (C.set i { x with sli := v }) R (w.setCell ⟨gc, i * 10 + 9, none⟩ (.int .i64 v)) := by
  have hxi : C[i] = x := by rw [List.getElem?_eq_getElem hi] at hx; exact Option.some.inj hx
  refine h.setc hi _ (by omega) rfl (fun k hk => ?_)
  rw [hxi]
  match k, hk with
  | 0, _ | 1, _ | 2, _ | 3, _ | 4, _ | 5, _ | 6, _ | 7, _ | 8, _ => rfl
  | 9, hk => exact (hk rfl).elim
  | k + 10, _ => rfl
theorem Sz.setpush {i : Nat} {x : Ct} (h : Sz w0 g gc gq L C R w) (hi : i < C.length) (hx : C[i]? = some x) (v : Int) : Sz w0 g gc gq L (C.set i { x with push := v }) R (w.setCell ⟨gc, i * 10 + 8, none⟩ (.int .i64 v)) := by
  have hxi : C[i] = x := by rw [List.getElem?_eq_getElem hi] at hx; exact Option.some.inj hx
  refine h.setc hi _ (by omega) rfl (fun k hk => ?_)
  rw [hxi]
  match k, hk with
  | 0, _ | 1, _ | 2, _ | 3, _ | 4, _ | 5, _ | 6, _ | 7, _ | 9, _ => rfl
  | 8, hk => exact (hk rfl).elim
  | k + 10, _ => rfl
end

theorem S6.done {w0 w : World} {g gc gq : Nat} {L : List BE} {C : List Ct} {R : List Rb} {Bz cq : Nat} (h : S6 w0 Bz g gc L C w) (ho : OwnE layRb 89 w Bz (.slice (some ⟨gq, 0, none⟩) R.length cq) R) (hR : R ≠ []) (hne : ∀ y ∈ L, ∀ bx off, y.A = some ⟨bx, off, none⟩ → bx ≠ gc) : Sz w g gc gq L C R w := by
  obtain ⟨l1, l2, l3, l4, l5, l6⟩ := h.lt
  rcases ho.form with ⟨h1, h2⟩ | ⟨g', cap', hv, h3, h4, -, -, -, h6⟩
  · exact absurd h2 hR
  · cases hv
    have := h6.lt
    exact ⟨h.bl, h.cl, h.cf, h6, fun y hy bx off e => ⟨by have := h.lo y hy bx off e; omega, hne y hy bx off e⟩, .refl _ _ _, ⟨by omega, by omega, by omega⟩, by omega, by omega, by omega⟩
theorem Sz.setC {w0 w : World} {g gc gq k : Nat} {L : List BE} {C : List Ct} {R : List Rb} (h : Sz w0 g gc gq L C R w) (hk : w0.heap.size ≤ k) (x : Ct) : Sz w0 g gc gq L C R (Go.Proofs.Ytilncglnojjlaaa.setC w k x) := ((((((((((h.off hk).off hk).off hk).off hk).off hk).off hk).off hk).off hk).off hk).off hk)
theorem Sz.setR8 {w0 w : World} {g gc gq k : Nat} {L : List BE} {C : List Ct} {R : List Rb} (h : Sz w0 g gc gq L C R w) (hk : w0.heap.size ≤ k) (a0 a1 a2 a3 a4 a5 a6 a7 : Int) : Sz w0 g gc gq L C R (Go.Proofs.Ytilncglnojjlaaa.setR8 w k a0 a1 a2 a3 a4 a5 a6 a7) := ((((((((h.off hk).off hk).off hk).off hk).off hk).off hk).off hk).off hk)

def nrmC (x : Ct) : Int × Int := (x.nx, x.ny)
theorem set_same {α : Type} {l : List α} {i : Nat} {a : α} (h : l[i]? = some a) : l.set i a = l := by
  apply List.ext_getElem?
  intro j
  by_cases e : i = j
  · subst e
    rw [List.getElem?_set_self (List.getElem?_eq_some_iff.1 h).1, h]
  · rw [List.getElem?_set_ne e]
theorem roundQ_nrm (Q : List QB) (x : Ct) (r : Rw) : nrmC (roundQ Q x r).2 = nrmC x := by
  unfold roundQ easeQ slipQ
  split <;> split <;> rfl
theorem stepQ_nrm (S : List QB × List Ct) (R : List Rw) (i : Nat) : (stepQ S R i).2.map nrmC = S.2.map nrmC := by
  rcases hc : S.2[i]? with _ | x
  · have : stepQ S R i = S := by unfold stepQ; rw [hc]
    rw [this]
  · rcases hr : R[i]? with _ | r
    · have : stepQ S R i = S := by unfold stepQ; rw [hc, hr]
      rw [this]
    · rw [stepQ_eq hc hr]
      show (S.2.set i _).map nrmC = _
      rw [List.map_set, roundQ_nrm]
      exact set_same (by rw [List.getElem?_map, hc]; rfl)
theorem iterQ_nrm (S : List QB × List Ct) (R : List Rw) (n : Nat) : ∀ k, (iterQ S R n k).2.map nrmC = S.2.map nrmC
  | 0 => rfl
  | k + 1 => (stepQ_nrm _ R _).trans (iterQ_nrm S R n k)
end
end Go.Proofs.Ytilncglnojjlaaa
