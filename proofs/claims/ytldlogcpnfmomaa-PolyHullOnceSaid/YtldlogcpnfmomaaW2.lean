/- The library's sort and DeleteFunc at own slices of numbers and of pairs. -/
import Derived.Test.YtldlogcpnfmomaaM25
namespace Go.Proofs.Ytldlogcpnfmomaa
set_option linter.unusedVariables false
set_option linter.unusedSimpArgs false
open Go.Shelf
end Go.Proofs.Ytldlogcpnfmomaa

namespace Go.Proofs.Ytldlogcpnfmomaa
set_option linter.unusedVariables false
set_option linter.unusedSimpArgs false
open Go.RowKit Go.Sort Go.Lib

/-- numbers -/
def layNat : Lay Nat := ⟨fun i => [.int .i64 i], 1, fun _ => rfl, fun x v hv => by simp at hv; subst hv; rfl, by omega⟩
abbrev Ix (n : Nat) := {i : Nat // i < n}
def layIx (n : Nat) : Lay (Ix n) := ⟨fun i => [.int .i64 (i.1 : Int)], 1, fun _ => rfl, fun x v hv => by simp at hv; subst hv; rfl, by omega⟩
def encIx (n : Nat) (i : Ix n) : Value := .int .i64 (i.1 : Int)
theorem encIx_one (n : Nat) : OneCell (encIx n) := fun _ => rfl
theorem flatE_ix {n : Nat} (o : List (Ix n)) : flatE (layIx n) o = flatE layNat (o.map (·.1)) := by
  induction o with
  | nil => rfl
  | cons i o ih => unfold flatE at *; rw [List.map_cons, List.flatMap_cons, List.flatMap_cons, ih]; rfl
theorem OwnE.ix {n : Nat} {e : TypeId} {w : World} {B : Nat} {v : Value} {o : List (Ix n)} : OwnE (layIx n) e w B v o ↔ OwnE layNat e w B v (o.map (·.1)) := by
  unfold OwnE
  rw [flatE_ix, List.length_map]
  rfl
theorem ix_of {n : Nat} : ∀ {o : List Nat}, (∀ k ∈ o, k < n) → ∃ o' : List (Ix n), o = o'.map (·.1)
  | [], _ => ⟨[], rfl⟩
  | k :: o, h => by
    obtain ⟨o', ho⟩ := ix_of (o := o) (fun j hj => h j (List.mem_cons_of_mem _ hj))
    exact ⟨⟨k, h k (List.mem_cons_self ..)⟩ :: o', by rw [List.map_cons, ← ho]⟩
theorem info_int' : (Try.prog.info? 3).map (fun i => (i.zero, i.size, i.bytes)) = some (some (.int .i64 0), 1, 8) := by kernel_rfl
theorem tyNat : TyE layNat 40 3 8 := ⟨Try.underlying40, by obtain ⟨i0, hi, hz0, hz1, hz2⟩ := info_parts info_int'; exact ⟨i0, .int .i64 0, hi, hz0, hz1, hz2, rfl⟩⟩
theorem OwnE.take {α : Type} {L : Lay α} {e : TypeId} {w : World} {B g n cap : Nat} {l : List α} (h : OwnE L e w B (.slice (some ⟨g, 0, none⟩) n cap) l) {m : Nat} (hm : m ≤ l.length) : OwnE L e w B (.slice (some ⟨g, 0, none⟩) m cap) (l.take m) := by
  obtain ⟨h1, ⟨h2, -⟩ | ⟨g', cap', cur, hv, hb, hg, hn, hmx, hsz, ht⟩⟩ := h
  · cases h2
  · cases hv
    have e1 : (l.take m).length = m := by rw [List.length_take]; omega
    refine ⟨flatE_len _, .inr ⟨g, cap, cur, by rw [e1], hb, hg, by rw [e1]; omega, hmx, hsz, ?_⟩⟩
    have e2 : flatE L l = flatE L (l.take m) ++ flatE L (l.drop m) := by rw [← flatE_append, List.take_append_drop]
    have e3 : m * L.k ≤ l.length * L.k := Nat.mul_le_mul_right _ hm
    have e4 : cur.toList.take (m * L.k) = (cur.toList.take (l.length * L.k)).take (m * L.k) := by rw [List.take_take, Nat.min_eq_left e3]
    rw [e1, e4, ht, e2, List.take_left' (by rw [flatE_len, e1])]
theorem permIn_list {α : Type} [Inhabited α] {d d' : Array α} (h : PermIn 0 d.size d d') : d'.toList.Perm d.toList ∧ d'.size = d.size := by
  obtain ⟨h1, -, h3⟩ := h
  refine ⟨?_, h1⟩
  have e1 : d.extract 0 d.size = d := by simp
  have e2 : d'.extract 0 d.size = d' := by rw [← h1]; simp
  rwa [e1, e2] at h3
theorem sortedIn_list {α : Type} [Inhabited α] {lt : α → α → Bool} {d : Array α} (h : SortedIn lt 0 d.size d) : d.toList.Pairwise fun a b => lt b a = false := by
  rw [List.pairwise_iff_getElem]
  intro i j hi hj hij
  have := h i j (Nat.zero_le _) hij (by simpa using hj)
  rw [getElem!_pos d j (by simpa using hj), getElem!_pos d i (by simpa using hi)] at this
  simpa using this
theorem compareInt_lt {x y : Int} : Lib.compareInt x y < 0 ↔ x < y := by unfold Lib.compareInt; (repeat' split) <;> omega
/-- an own slice lies not in a block before it -/
theorem OwnE.ne {α : Type} {L : Lay α} {e : TypeId} {w : World} {B : Nat} {v : Value} {l : List α} (h : OwnE L e w B v l) {g : Nat} (hg : g < B) : some g ≠ v.ownBlock := fun q => by
  have := (h.lt q.symm).1
  omega





end Go.Proofs.Ytldlogcpnfmomaa
