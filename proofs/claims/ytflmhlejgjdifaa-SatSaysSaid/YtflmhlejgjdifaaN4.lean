/- Contracts of slices.Min and slices.Max at integers; of the reference's Around. -/
import Derived.Test.YtflmhlejgjdifaaN3
import Derived.Maps.AppendAt
namespace Go.Proofs.Ytflmhlejgjdifaa
set_option linter.unusedVariables false
set_option linter.unusedSimpArgs false
open Go.RowKit

def mnI (x y : Int) : Int := if y < x then y else x
def minTo (r : List Int) : Nat → Int
  | 0 => r.getD 0 0
  | k + 1 => mnI (minTo r k) (r.getD (k + 1) 0)
def minL (r : List Int) : Int := minTo r (r.length - 1)

def mxI (x y : Int) : Int := if y > x then y else x
def maxTo (r : List Int) : Nat → Int
  | 0 => r.getD 0 0
  | k + 1 => mxI (maxTo r k) (r.getD (k + 1) 0)
def maxL (r : List Int) : Int := maxTo r (r.length - 1)


/-- a slice of integers that the call has made for itself -/
def OwnI (w : World) (B : Nat) (v : Value) (r : List Int) : Prop := w.ownsRow B 3 1 v r.length (r.map fun x => .int .i64 x)
theorem OwnI.nil (w : World) (B : Nat) : OwnI w B (.slice none 0 0) [] := World.ownsRow_nil _ _ _ _
theorem OwnI.kept {w w' : World} {B : Nat} {v : Value} {r : List Int} {row : Option Nat} (h : OwnI w B v r) (hg : w.grownBy w' row) (hr : v.ownBlock = none ∨ v.ownBlock ≠ row) : OwnI w' B v r := World.ownsRow.kept h hg hr
theorem OwnI.below {w w' : World} {B : Nat} {v : Value} {r : List Int} (h : OwnI w B v r) (hb : Below w.heap.size w w') : OwnI w' B v r :=
  h.kept (grown_of_below (row := none) hb) (by cases hv : v.ownBlock with | none => exact .inl rfl | some k => exact .inr (by simp))
theorem keepOwnI {w w' : World} {B : Nat} {v : Value} {r : List Int} (hb : Below w.heap.size w w') (h : OwnI w B v r) : OwnI w' B v r := h.below hb
theorem OwnI.alloc {w : World} {B : Nat} {v : Value} {r : List Int} (h : OwnI w B v r) (o : Obj) : OwnI (w.alloc o) B v r := World.ownsRow.alloc h o
theorem OwnI.drew {w : World} {B : Nat} {v : Value} {r : List Int} (h : OwnI w B v r) : OwnI w.drew B v r := h
theorem OwnI.grown {w w' : World} {B : Nat} {v : Value} {r : List Int} (h : OwnI w B v r) (hg : w.grownBy w' v.ownBlock) (hB : B ≤ w.heap.size) : Below B w w' :=
  (Below.refl B w).grown hg hB (fun k hk => (World.ownsRow.lt h k hk).1)
theorem OwnI.sl {w : World} {B : Nat} {v : Value} {r : List Int} (h : OwnI w B v r) : ∃ A n c, v = .slice A n c ∧ SlI w A n c r := by
  have hc := fun g hg => World.ownsRow.cells h (g := g) hg
  obtain ⟨h1, h2 | ⟨g, cap, cur, rfl, hb, hg, hn, hm, hs, ht⟩⟩ := h
  · obtain ⟨rfl, h0⟩ := h2
    refine ⟨none, 0, 0, rfl, ⟨h0.symm, by omega, by omega, fun hl => ?_⟩⟩
    exact absurd (List.length_eq_zero_iff.1 h0) hl
  · refine ⟨_, _, _, rfl, ⟨rfl, hn, by unfold maxLen at hm; omega, fun _ => ⟨g, 0, rfl, (Array.getElem?_eq_some_iff.1 hg).1, fun j hj => ?_⟩⟩⟩
    have := hc g rfl j (.int .i64 (r.getD j 0)) (by simp [hj])
    have hadd : (⟨g, 0, none⟩ : Addr).add j = ⟨g, 0 + j, none⟩ := by unfold Addr.add; split <;> simp_all
    rwa [hadd] at this
theorem info_int : (Try.prog.info? 3).map (fun i => (i.zero, i.size, i.bytes)) = some (some (.int .i64 0), 1, 8) := by kernel_rfl
theorem grown_cell' {a b : World} {row : Option Nat} {k o : Nat} (h : a.grownBy b row) (hk : row ≠ some k) (hl : k < a.heap.size) : b.cell? ⟨k, o, none⟩ = a.cell? ⟨k, o, none⟩ := by
  exact World.cell?_of_block (h.block k hl (fun e => hk e.symm))
theorem ownI_dis {w : World} {B : Nat} {s s' t : Value} {r : List Int} (hdis : t.ownBlock = none ∨ t.ownBlock ≠ s.ownBlock) (hat : s'.ownBlock = s.ownBlock ∨ s'.ownBlock = some w.heap.size) (ht : OwnI w B t r) : t.ownBlock = none ∨ t.ownBlock ≠ s'.ownBlock := by
  rcases hdis with h | h
  · exact .inl h
  · rcases hat with e | e
    · rw [e]; exact .inr h
    · refine .inr fun e2 => ?_
      rw [e] at e2
      have := (World.ownsRow.lt ht _ e2).2
      omega
/-- append of one integer, at a step of a region that draws its order -/
theorem step_append_int {w : World} {ops : Array Oper} {o : Oper} {a : Act} {K : Act → World → Prop} {Q : Exit → Act → World → Prop} {E : Prop} (hgd : o.guard = none) (s x : Operand)
    (ho : o.op = .call { callee := .builtin .append, args := #[s, x], argTypes := #[50, 50] })
    (B : Nat) (v : Value) (r : List Int) (hs : a.eval s = v) (hown : OwnI w B v r) (b n c : Nat) (z : Int) (hx : a.eval x = .slice (some ⟨b, 0, none⟩) 1 1) (hc : w.cell? ⟨b, 0, none⟩ = some (.int .i64 z))
    (hl : r.length + 1 ≤ 8796093022208) (hB : B ≤ w.heap.size)
    (h : ∀ v' w', OwnI w' B v' (r ++ [z]) → w.grownBy w' v.ownBlock → (v'.ownBlock = v.ownBlock ∨ v'.ownBlock = some w.heap.size) → K (a.put o.dst v') w') : if Region.wanted o (yielded ops a.tmps) = true then Oper.wp Try.prog o a w K Q else E := by
  have hw : Region.wanted o (yielded ops a.tmps) = true := by simp [Region.wanted, hgd]
  rw [if_pos hw]
  obtain ⟨i0, hi, hz0, hz1, hz2⟩ := info_parts info_int
  obtain ⟨v', w', hr, h2, h3, h4, h5⟩ := run_append_own_at (P := Try.prog) w B 50 o.type 3 i0 (.int .i64 0) 1 8 Try.underlying50 hi hz0 hz1 hz2 rfl (by decide) v r.length (r.map fun x => .int .i64 x) hown ⟨b, 0, none⟩ 1 1 [.int .i64 z] rfl (fun j u hj => by
    cases j with
    | zero => simp at hj; subst hj; simpa [Addr.add] using hc
    | succ j => simp at hj) (by simp [Value.oneCell']) (by unfold maxLen; omega) (by omega) hB
  unfold Oper.wp execOp
  simp only [ho, resolve, invoke, builtin, Sem.run_bind, Sem.run_pure, Result.andThen_ok, List.map_toArray, List.map_cons, List.map_nil, hs, hx, hr]
  refine h v' w' ?_ h3 h5
  unfold OwnI
  simpa using h2
theorem dis_symm {s t : Value} (h : t.ownBlock = none ∨ t.ownBlock ≠ s.ownBlock) : s.ownBlock = none ∨ s.ownBlock ≠ t.ownBlock := by
  rcases h with h | h
  · rw [h]
    cases s.ownBlock with
    | none => exact .inl rfl
    | some k => exact .inr (by simp)
  · exact .inr (fun e => h e.symm)
/-- one integer in a block of its own -/
structure Hold1 (w : World) (g : Nat) (z : Int) : Prop where
  c : w.cell? ⟨g, 0, none⟩ = some (.int .i64 z)
  lt : g < w.heap.size
theorem Hold1.here (w : World) (z : Int) (t : TypeId) : Hold1 (w.alloc (.cells #[.int .i64 z] t)) w.heap.size z := ⟨by go_simp, by simp⟩
theorem Hold1.drew {w : World} {g : Nat} {z : Int} (h : Hold1 w g z) : Hold1 w.drew g z := ⟨h.c, h.lt⟩
theorem keepHold1 {w w' : World} {g : Nat} {z : Int} (hb : Below w.heap.size w w') (h : Hold1 w g z) : Hold1 w' g z := ⟨keepCell hb h.c, Nat.lt_of_lt_of_le h.lt hb.size⟩
/-- four cells that may be written -/
structure B4 (w : World) (g : Nat) : Prop where
  c : ∃ x y z u : Value, w.cell? ⟨g, 0, none⟩ = some x ∧ w.cell? ⟨g, 1, none⟩ = some y ∧ w.cell? ⟨g, 2, none⟩ = some z ∧ w.cell? ⟨g, 3, none⟩ = some u
  free : ∀ j, w.frozen? ⟨g, j, none⟩ = false
theorem B4.lt {w : World} {g : Nat} (h : B4 w g) : g < w.heap.size := by obtain ⟨⟨_, _, _, _, h0, _⟩, _⟩ := h; exact lt_of_cell h0
theorem keepB4B {w w' : World} {B g : Nat} (hb : Below B w w') (hg : g < B) (h : B4 w g) : B4 w' g := by
  obtain ⟨⟨x, y, z, u, h0, h1, h2, h3⟩, hf⟩ := h
  exact ⟨⟨x, y, z, u, ((bcell hb).1 _ _ hg).trans h0, ((bcell hb).1 _ _ hg).trans h1, ((bcell hb).1 _ _ hg).trans h2, ((bcell hb).1 _ _ hg).trans h3⟩, fun j => ((bcell hb).2 _ _ hg).trans (hf j)⟩
theorem keepB4 {w w' : World} {g : Nat} (hb : Below w.heap.size w w') (h : B4 w g) : B4 w' g := keepB4B hb h.lt h
theorem B4.alloc {w : World} {g : Nat} (h : B4 w g) (o : Obj) : B4 (w.alloc o) g := keepB4 ((Below.refl _ _).alloc (Nat.le_refl _) _) h
theorem B4.drew {w : World} {g : Nat} (h : B4 w g) : B4 w.drew g := ⟨h.c, h.free⟩
theorem B4.here (w : World) (a b c d : Int) (t : TypeId) : B4 (w.alloc (.cells #[.int .i64 a, .int .i64 b, .int .i64 c, .int .i64 d] t)) w.heap.size :=
  ⟨⟨.int .i64 a, .int .i64 b, .int .i64 c, .int .i64 d, by go_simp, by go_simp, by go_simp, by go_simp⟩, fun j => by go_simp⟩
def xsL (l : List V) : List Int := l.map fun p => p.1
def ysL (l : List V) : List Int := l.map fun p => p.2
theorem xsL_len (l : List V) : (xsL l).length = l.length := by simp [xsL]
theorem ysL_len (l : List V) : (ysL l).length = l.length := by simp [ysL]
theorem px_lt' {l : List V} {k : Nat} (h : k < l.length) : (l[k]).1 = px l k := by simp [px, h]
theorem py_lt' {l : List V} {k : Nat} (h : k < l.length) : (l[k]).2 = py l k := by simp [py, h]
abbrev boxV (x y u v : Int) : Value := .agg #[.int .i64 x, .int .i64 y, .int .i64 u, .int .i64 v]

end Go.Proofs.Ytflmhlejgjdifaa
