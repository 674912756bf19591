/- Parts of a proof: contracts and laws. -/
import Derived.Test.YtkiiehobphkmgaaPZ31
import Derived.Test.YtkiiehobphkmgaaPZ32
namespace Go.Proofs.Ytkiiehobphkmgaa
section
set_option linter.unusedVariables false
set_option linter.unusedSimpArgs false
open Go.RowKit
set_option maxRecDepth 100000 in
theorem run_eqVJ (x y u v : Int) (w : World) : (Op.equalIn 10000 24 (.agg #[.int .i64 x, .int .i64 y]) (.agg #[.int .i64 u, .int .i64 v])).run Try.prog w = .ok (x == u && y == v) w := by
  have hS : Try.prog.underlying 24 = some (.struct (Try.prog.fieldsOf 24)) := by kernel_rfl
  have hp : Try.prog.stoodInHeld 24 = false := by kernel_rfl
  rw [show (10000 : Nat) = 9999 + 1 from rfl, run_equalIn_agg w 9999 24 _ _ hS hp]
  simp only [Program.fieldsOf, Try.underlying24]
  go_simp
  by_cases h1 : x = u <;> by_cases h2 : y = v <;> simp [h1, h2]

structure Vg (w : World) (g : Nat) (x y : Int) : Prop where
  a : w.cell? ⟨g, 0, none⟩ = some (.int .i64 x)
  b : w.cell? ⟨g, 1, none⟩ = some (.int .i64 y)
theorem keepVg {w w' : World} {g : Nat} {x y : Int} (hb : Below w.heap.size w w') (h : Vg w g x y) : Vg w' g x y := ⟨keepCell hb h.a, keepCell hb h.b⟩
theorem Vg.drew {w : World} {g : Nat} {x y : Int} (h : Vg w g x y) : Vg w.drew g x y := ⟨h.a, h.b⟩
theorem Vg.next {w w' : World} {g k : Nat} {x y : Int} (h : Vg w g x y) (hg : w.grownBy w' (some k)) (hne : g ≠ k) : Vg w' g x y :=
  ⟨(World.cell?_of_block (hg.block g (lt_of_cell h.a) (by simpa using hne))).trans h.a, (World.cell?_of_block (hg.block g (lt_of_cell h.a) (by simpa using hne))).trans h.b⟩
structure Jg (w : World) (g : Nat) (x : Jt) : Prop where
  c0 : w.cell? ⟨g, 0, none⟩ = some (.int .i64 x.a)
  c1 : w.cell? ⟨g, 1, none⟩ = some (.int .i64 x.b)
  c2 : w.cell? ⟨g, 2, none⟩ = some (.int .i64 x.p1)
  c3 : w.cell? ⟨g, 3, none⟩ = some (.int .i64 x.p2)
  c4 : w.cell? ⟨g, 4, none⟩ = some (.int .i64 x.q1)
  c5 : w.cell? ⟨g, 5, none⟩ = some (.int .i64 x.q2)
  c6 : w.cell? ⟨g, 6, none⟩ = some (.int .i64 x.len)
theorem keepJg {w w' : World} {g : Nat} {x : Jt} (hb : Below w.heap.size w w') (h : Jg w g x) : Jg w' g x :=
  ⟨keepCell hb h.c0, keepCell hb h.c1, keepCell hb h.c2, keepCell hb h.c3, keepCell hb h.c4, keepCell hb h.c5, keepCell hb h.c6⟩
theorem Jg.alloc {w : World} {g : Nat} {x : Jt} (h : Jg w g x) (o : Obj) : Jg (w.alloc o) g x := keepJg ((Below.refl _ _).alloc (Nat.le_refl _) _) h
theorem Vg.alloc {w : World} {g : Nat} {x y : Int} (h : Vg w g x y) (o : Obj) : Vg (w.alloc o) g x y := keepVg ((Below.refl _ _).alloc (Nat.le_refl _) _) h
theorem Jg.drew {w : World} {g : Nat} {x : Jt} (h : Jg w g x) : Jg w.drew g x := keepJg (Below.refl _ _).drew h
theorem Jg.next {w w' : World} {g k : Nat} {x : Jt} (h : Jg w g x) (hg : w.grownBy w' (some k)) (hne : g ≠ k) : Jg w' g x :=
  have e := hg.block g (lt_of_cell h.c0) (by simpa using hne)
  ⟨(World.cell?_of_block e).trans h.c0, (World.cell?_of_block e).trans h.c1, (World.cell?_of_block e).trans h.c2, (World.cell?_of_block e).trans h.c3, (World.cell?_of_block e).trans h.c4, (World.cell?_of_block e).trans h.c5, (World.cell?_of_block e).trans h.c6⟩

structure RJ (w0 : World) (s : Value) (L' : List BE) (w : World) : Prop where
  own : OwnE layB 27 w w0.heap.size s L'
  co : ∀ x ∈ L', Sl w x.A x.n x.c x.l ∧ x.l ≠ [] ∧ ∀ bx off, x.A = some ⟨bx, off, none⟩ → w0.heap.size ≤ bx ∧ some bx ≠ s.ownBlock
  bel : Below w0.heap.size w0 w
theorem sl_grownR {w w' : World} {A : Option Addr} {n c : Nat} {l : List V} {row : Option Nat} (h : Sl w A n c l) (hg : w.grownBy w' row) (hne : ∀ b off, A = some ⟨b, off, none⟩ → some b ≠ row) : Sl w' A n c l := by
  cases row with
  | none => exact h.below ⟨hg.os, hg.tape, hg.output, hg.size, fun k hk => hg.block k hk (by simp)⟩
  | some g => exact h.grown hg (fun b off e => fun e2 => hne b off e (by rw [e2]))
theorem sl_lt {w : World} {A : Option Addr} {n c : Nat} {l : List V} (h : Sl w A n c l) (hl : l ≠ []) : ∀ bx off, A = some ⟨bx, off, none⟩ → bx < w.heap.size := fun bx off e => by
  obtain ⟨b', off', e', hc⟩ := h.at_ hl
  rw [e] at e'; cases e'; exact hc.lt
theorem RJ.set {w0 wb : World} {s : Value} {L' : List BE} {w : World} (hb : RJ w0 s L' wb) (h : RJ w0 s L' w) {k o : Nat} {v : Value} (hk : wb.heap.size ≤ k) : RJ w0 s L' (w.setCell ⟨k, o, none⟩ v) := by
  have hs := hb.bel.size
  refine ⟨h.own.off (fun j hj => by have := (hb.own.lt hj).2; omega) o v, fun x hx => ?_, h.bel.setCell (p := ⟨k, o, none⟩) (by show w0.heap.size ≤ k; omega) _⟩
  obtain ⟨h1, h2, h3⟩ := h.co x hx
  exact ⟨h1.setAt (fun bx off e => by have := sl_lt (hb.co x hx).1 h2 bx off e; omega), h2, h3⟩
theorem RJ.push {w0 wb : World} {s s' : Value} {L' : List BE} {w w7 : World} {o : Obj} {y : BE} (hb : RJ w0 s L' wb) (h : RJ w0 s L' w) (hS : Sl w y.A y.n y.c y.l) (hl : y.l ≠ []) (hf : ∀ bx off, y.A = some ⟨bx, off, none⟩ → wb.heap.size ≤ bx)
    (ho : OwnE layB 27 w7 w0.heap.size s' (L' ++ [y])) (hg : (w.alloc o).grownBy w7 s.ownBlock) (hat : s'.ownBlock = s.ownBlock ∨ s'.ownBlock = some (w.alloc o).heap.size) : RJ w0 s' (L' ++ [y]) w7 := by
  have hsb := hb.bel.size
  have hsw := h.bel.size
  have hsa : (w.alloc o).heap.size = w.heap.size + 1 := by simp
  have hga : w.grownBy (w.alloc o) s.ownBlock := World.grownBy_alloc _ _ _
  have hg7 : w.grownBy w7 s.ownBlock := grown_trans hga hg
  have nblk : ∀ {z : BE}, Sl w z.A z.n z.c z.l → z.l ≠ [] → (∀ bx off, z.A = some ⟨bx, off, none⟩ → some bx ≠ s.ownBlock) → ∀ bx off, z.A = some ⟨bx, off, none⟩ → some bx ≠ s'.ownBlock := fun {z} hs hne hno bx off e e2 => by
    have := sl_lt hs hne bx off e
    rcases hat with q | q
    · exact hno bx off e (e2.trans q)
    · rw [q, hsa] at e2; cases e2; omega
  have hnw : ∀ bx off, y.A = some ⟨bx, off, none⟩ → some bx ≠ s.ownBlock := fun bx off e e2 => by have := hf bx off e; have := (hb.own.lt e2.symm).2; omega
  refine ⟨ho, fun x hx => ?_, h.bel.grown hg7 (by omega) (fun k hk => (hb.own.lt hk).1)⟩
  rcases List.mem_append.1 hx with hx | hx
  · obtain ⟨h1, h2, h3⟩ := h.co x hx
    exact ⟨sl_grownR h1 hg7 (fun bx off e => (h3 bx off e).2), h2, fun bx off e => ⟨(h3 bx off e).1, nblk h1 h2 (fun bx off e => (h3 bx off e).2) bx off e⟩⟩
  · rw [List.mem_singleton.1 hx]
    exact ⟨sl_grownR hS hg7 hnw, hl, fun bx off e => ⟨by have := hf bx off e; omega, nblk hS hl hnw bx off e⟩⟩


structure Rj (w0 : World) (B g : Nat) (L : List BE) (w : World) : Prop where
  bl : BL w g L
  bel : Below w0.heap.size w0 w
  ge : w0.heap.size ≤ g
  gB : g < B
  hi : ∀ y ∈ L, ∀ bx off, y.A = some ⟨bx, off, none⟩ → bx < B
  Bw : B ≤ w.heap.size
theorem keepRj {w0 : World} {B g : Nat} {L : List BE} {w w' : World} (hb : Below w.heap.size w w') (h : Rj w0 B g L w) : Rj w0 B g L w' :=
  ⟨keepBL hb h.bl, keepBelow hb h.bel, h.ge, h.gB, h.hi, Nat.le_trans h.Bw hb.size⟩
theorem Rj.drew {w0 : World} {B g : Nat} {L : List BE} {w : World} (h : Rj w0 B g L w) : Rj w0 B g L w.drew := keepRj (Below.refl _ _).drew h
theorem Rj.alloc {w0 : World} {B g : Nat} {L : List BE} {w : World} (h : Rj w0 B g L w) (o : Obj) : Rj w0 B g L (w.alloc o) := keepRj ((Below.refl _ _).alloc (Nat.le_refl _) _) h
theorem Rj.set {w0 : World} {B g : Nat} {L : List BE} {w : World} (h : Rj w0 B g L w) {k o : Nat} {v : Value} (hk : B ≤ k) : Rj w0 B g L (w.setCell ⟨k, o, none⟩ v) :=
  ⟨h.bl.off (by have := h.gB; omega) (fun y hy bx off e => by have := h.hi y hy bx off e; omega), h.bel.setCell (p := ⟨k, o, none⟩) (by show w0.heap.size ≤ k; have := h.gB; have := h.ge; omega) _, h.ge, h.gB, h.hi, by simp; exact h.Bw⟩
theorem Rj.of {w0 : World} {g : Nat} {L : List BE} {w : World} (h : BL w g L) (hB : Below w0.heap.size w0 w) (hg : w0.heap.size ≤ g) (hv : ∀ x ∈ L, bodyE x.b x.l = 0) : Rj w0 w.heap.size g L w :=
  ⟨h, hB, hg, h.cl.lt, fun y hy => sl_lt (h.co y hy) (fun e => by have := hv y hy; rw [e] at this; exact absurd (bodyE_zero this).1 (by decide)), Nat.le_refl _⟩
theorem Rj.next {w0 : World} {B g : Nat} {L : List BE} {w w' : World} (h : Rj w0 B g L w) (hg : w.grownBy w' (some g)) : Below w0.heap.size w0 w' := h.bel.trans (below_of_grown hg h.bel.size h.ge)
end
end Go.Proofs.Ytkiiehobphkmgaa
