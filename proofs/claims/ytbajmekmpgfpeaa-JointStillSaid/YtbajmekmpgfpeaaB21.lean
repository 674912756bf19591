/- Parts of a proof: contracts and laws. -/
import Derived.Test.YtbajmekmpgfpeaaB11
import Derived.Maps.AppendAt
import Derived.Test.YtbajmekmpgfpeaaB19
namespace Go.Proofs.Ytbajmekmpgfpeaa
section
set_option linter.unusedVariables false
set_option linter.unusedSimpArgs false
open Go.RowKit

def OwnI (w : World) (B : Nat) (v : Value) (r : List Int) : Prop := w.ownsRow B 3 1 v r.length (r.map fun x => .int .i64 x)
theorem OwnI.nil (w : World) (B : Nat) : OwnI w B (.slice none 0 0) [] := World.ownsRow_nil _ _ _ _
theorem OwnI.kept {w w' : World} {B : Nat} {v : Value} {r : List Int} {row : Option Nat} (h : OwnI w B v r) (hg : w.grownBy w' row) (hr : v.ownBlock = none ∨ v.ownBlock ≠ row) : OwnI w' B v r := World.ownsRow.kept h hg hr
theorem OwnI.below {w w' : World} {B : Nat} {v : Value} {r : List Int} (h : OwnI w B v r) (hb : Below w.heap.size w w') : OwnI w' B v r :=
  h.kept (grown_of_below (row := none) hb) (by cases hv : v.ownBlock with | none => exact .inl rfl | some k => exact .inr (by simp))
theorem OwnI.alloc {w : World} {B : Nat} {v : Value} {r : List Int} (h : OwnI w B v r) (o : Obj) : OwnI (w.alloc o) B v r := World.ownsRow.alloc h o
theorem OwnI.drew {w : World} {B : Nat} {v : Value} {r : List Int} (h : OwnI w B v r) : OwnI w.drew B v r := h
theorem OwnI.grown {w w' : World} {B : Nat} {v : Value} {r : List Int} (h : OwnI w B v r) (hg : w.grownBy w' v.ownBlock) (hB : B ≤ w.heap.size) : Below B w w' :=
  (Below.refl B w).grown hg hB (fun k hk => (World.ownsRow.lt h k hk).1)
theorem OwnI.sl {w : World} {B : Nat} {v : Value} {r : List Int} (h : OwnI w B v r) : ∃ A n c, v = .slice A n c ∧ SlI w A n c r := by
  have hc := fun g hg => World.ownsRow.cells h (g := g) hg
  obtain ⟨h1, h2 | ⟨g, cap, cur, rfl, hb, hg, hn, hm, hs, ht⟩⟩ := h
  · obtain ⟨rfl, h0⟩ := h2
    refine ⟨none, 0, 0, rfl, ⟨h0.symm, by omega, by omega, fun hl => ?_⟩⟩
    exact absurd (List.length_eq_zero_iff.1 h0) hl
  · refine ⟨_, _, _, rfl, ⟨rfl, hn, by unfold maxLen at hm; omega, fun _ => ⟨g, 0, rfl, (Array.getElem?_eq_some_iff.1 hg).1, fun j hj => ?_⟩⟩⟩
    have := hc g rfl j (.int .i64 (r.getD j 0)) (by simp [hj])
    have hadd : (⟨g, 0, none⟩ : Addr).add j = ⟨g, 0 + j, none⟩ := by unfold Addr.add; split <;> simp_all
    rwa [hadd] at this


structure Hold1 (w : World) (g : Nat) (z : Int) : Prop where
  c : w.cell? ⟨g, 0, none⟩ = some (.int .i64 z)
  lt : g < w.heap.size
theorem Hold1.here (w : World) (z : Int) (t : TypeId) : Hold1 (w.alloc (.cells #[.int .i64 z] t)) w.heap.size z := ⟨by go_simp, by simp⟩
theorem Hold1.drew {w : World} {g : Nat} {z : Int} (h : Hold1 w g z) : Hold1 w.drew g z := ⟨h.c, h.lt⟩

structure B4 (w : World) (g : Nat) : Prop where
  c : ∃ x y z u : Value, w.cell? ⟨g, 0, none⟩ = some x ∧ w.cell? ⟨g, 1, none⟩ = some y ∧ w.cell? ⟨g, 2, none⟩ = some z ∧ w.cell? ⟨g, 3, none⟩ = some u
  free : ∀ j, w.frozen? ⟨g, j, none⟩ = false
theorem B4.lt {w : World} {g : Nat} (h : B4 w g) : g < w.heap.size := by obtain ⟨⟨_, _, _, _, h0, _⟩, _⟩ := h; exact lt_of_cell h0
theorem keepB4B {w w' : World} {B g : Nat} (hb : Below B w w') (hg : g < B) (h : B4 w g) : B4 w' g := by
  obtain ⟨⟨x, y, z, u, h0, h1, h2, h3⟩, hf⟩ := h
  exact ⟨⟨x, y, z, u, ((bcell hb).1 _ _ hg).trans h0, ((bcell hb).1 _ _ hg).trans h1, ((bcell hb).1 _ _ hg).trans h2, ((bcell hb).1 _ _ hg).trans h3⟩, fun j => ((bcell hb).2 _ _ hg).trans (hf j)⟩
theorem keepB4 {w w' : World} {g : Nat} (hb : Below w.heap.size w w') (h : B4 w g) : B4 w' g := keepB4B hb h.lt h
theorem B4.alloc {w : World} {g : Nat} (h : B4 w g) (o : Obj) : B4 (w.alloc o) g := keepB4 ((Below.refl _ _).alloc (Nat.le_refl _) _) h
theorem B4.drew {w : World} {g : Nat} (h : B4 w g) : B4 w.drew g := ⟨h.c, h.free⟩
theorem B4.here (w : World) (a b c d : Int) (t : TypeId) : B4 (w.alloc (.cells #[.int .i64 a, .int .i64 b, .int .i64 c, .int .i64 d] t)) w.heap.size :=
  ⟨⟨.int .i64 a, .int .i64 b, .int .i64 c, .int .i64 d, by go_simp, by go_simp, by go_simp, by go_simp⟩, fun j => by go_simp⟩
end
end Go.Proofs.Ytbajmekmpgfpeaa
namespace Go.Proofs.Ytbajmekmpgfpeaa
section
set_option linter.unusedVariables false
set_option linter.unusedSimpArgs false
open Go.RowKit
theorem info_body : (Try.prog.info? 27).map (fun i => (i.zero, i.size, i.bytes)) = some (some (.agg #[.int .i64 0, .int .i64 0, .int .i64 0, .int .i64 0, .int .i64 0, .int .i64 0, .int .i64 0, .int .i64 0, .int .i64 0, .int .i64 0, .slice none 0 0, .bool false, .int .i64 0]), 13, 120) := by kernel_rfl
theorem tyBody : TyE layB 31 27 120 := ⟨Try.underlying31, by obtain ⟨i0, hi, hz0, hz1, hz2⟩ := info_parts info_body; exact ⟨i0, _, hi, hz0, hz1, hz2, rfl⟩⟩
theorem cells_bd_one {w : World} {g : Nat} {x : BE} (hb : BdAt w g x.b x.A x.n x.c) : CellsE layB w g 0 [x] := by
  refine ⟨hb.lt, fun j hj i v hv => ?_⟩
  have hj0 : j = 0 := by simpa using hj
  subst hj0
  rw [Nat.zero_mul, Nat.zero_add]
  try rw [Nat.zero_add]
  have hv : (encB x)[i]? = some v := hv
  unfold encB at hv
  match i, hv with
  | 0, hv => have e : some _ = some v := hv; cases e; exact hb.c0
  | 1, hv => have e : some _ = some v := hv; cases e; exact hb.c1
  | 2, hv => have e : some _ = some v := hv; cases e; exact hb.c2
  | 3, hv => have e : some _ = some v := hv; cases e; exact hb.c3
  | 4, hv => have e : some _ = some v := hv; cases e; exact hb.c4
  | 5, hv => have e : some _ = some v := hv; cases e; exact hb.c5
  | 6, hv => have e : some _ = some v := hv; cases e; exact hb.c6
  | 7, hv => have e : some _ = some v := hv; cases e; exact hb.c7
  | 8, hv => have e : some _ = some v := hv; cases e; exact hb.c8
  | 9, hv => have e : some _ = some v := hv; cases e; exact hb.c9
  | 10, hv => have e : some _ = some v := hv; cases e; exact hb.c10
  | 11, hv => have e : some _ = some v := hv; cases e; exact hb.c11
  | 12, hv => have e : some _ = some v := hv; cases e; exact hb.c12
  | i + 13, hv => simp at hv

structure Jt where
  a : Int
  b : Int
  p1 : Int
  p2 : Int
  q1 : Int
  q2 : Int
  len : Int
def encJ (x : Jt) : List Value := [.int .i64 x.a, .int .i64 x.b, .int .i64 x.p1, .int .i64 x.p2, .int .i64 x.q1, .int .i64 x.q2, .int .i64 x.len]
def layJ : Lay Jt := ⟨encJ, 7, fun _ => rfl, fun x v hv => by simp only [encJ, List.mem_cons, List.mem_nil_iff, or_false] at hv; rcases hv with rfl | rfl | rfl | rfl | rfl | rfl | rfl <;> rfl, by omega⟩
abbrev jtV (x : Jt) : Value := .agg #[.int .i64 x.a, .int .i64 x.b, .int .i64 x.p1, .int .i64 x.p2, .int .i64 x.q1, .int .i64 x.q2, .int .i64 x.len]
theorem info_joint : (Try.prog.info? 49).map (fun i => (i.zero, i.size, i.bytes)) = some (some (.agg #[.int .i64 0, .int .i64 0, .int .i64 0, .int .i64 0, .int .i64 0, .int .i64 0, .int .i64 0]), 7, 56) := by kernel_rfl
theorem tyJoint : TyE layJ 47 49 56 := ⟨Try.underlying47, by obtain ⟨i0, hi, hz0, hz1, hz2⟩ := info_parts info_joint; exact ⟨i0, _, hi, hz0, hz1, hz2, rfl⟩⟩
theorem cells_jt {w : World} {b off k : Nat} {l : List Jt} {x : Jt} (h : CellsE layJ w b off l) (hk : k < l.length) (hx : x = l[k]) :
    w.cell? ⟨b, off + k * 7, none⟩ = some (.int .i64 x.a) ∧ w.cell? ⟨b, off + k * 7 + 1, none⟩ = some (.int .i64 x.b) ∧ w.cell? ⟨b, off + k * 7 + 2, none⟩ = some (.int .i64 x.p1) ∧ w.cell? ⟨b, off + k * 7 + 3, none⟩ = some (.int .i64 x.p2) ∧ w.cell? ⟨b, off + k * 7 + 4, none⟩ = some (.int .i64 x.q1) ∧ w.cell? ⟨b, off + k * 7 + 5, none⟩ = some (.int .i64 x.q2) ∧ w.cell? ⟨b, off + k * 7 + 6, none⟩ = some (.int .i64 x.len) := by
  subst hx
  exact ⟨h.at_ k hk 0 _ rfl, h.at_ k hk 1 _ rfl, h.at_ k hk 2 _ rfl, h.at_ k hk 3 _ rfl, h.at_ k hk 4 _ rfl, h.at_ k hk 5 _ rfl, h.at_ k hk 6 _ rfl⟩
theorem cells_jt_one {w : World} {g : Nat} {x : Jt} (h0 : w.cell? ⟨g, 0, none⟩ = some (.int .i64 x.a)) (h1 : w.cell? ⟨g, 1, none⟩ = some (.int .i64 x.b)) (h2 : w.cell? ⟨g, 2, none⟩ = some (.int .i64 x.p1)) (h3 : w.cell? ⟨g, 3, none⟩ = some (.int .i64 x.p2)) (h4 : w.cell? ⟨g, 4, none⟩ = some (.int .i64 x.q1)) (h5 : w.cell? ⟨g, 5, none⟩ = some (.int .i64 x.q2)) (h6 : w.cell? ⟨g, 6, none⟩ = some (.int .i64 x.len)) : CellsE layJ w g 0 [x] := by
  refine ⟨lt_of_cell h0, fun j hj i v hv => ?_⟩
  have hj0 : j = 0 := by simpa using hj
  subst hj0
  rw [Nat.zero_mul, Nat.zero_add]
  try rw [Nat.zero_add]
  have hv : (encJ x)[i]? = some v := hv
  unfold encJ at hv
  match i, hv with
  | 0, hv => have e : some _ = some v := hv; cases e; exact h0
  | 1, hv => have e : some _ = some v := hv; cases e; exact h1
  | 2, hv => have e : some _ = some v := hv; cases e; exact h2
  | 3, hv => have e : some _ = some v := hv; cases e; exact h3
  | 4, hv => have e : some _ = some v := hv; cases e; exact h4
  | 5, hv => have e : some _ = some v := hv; cases e; exact h5
  | 6, hv => have e : some _ = some v := hv; cases e; exact h6
  | i + 7, hv => simp at hv
end
end Go.Proofs.Ytbajmekmpgfpeaa
