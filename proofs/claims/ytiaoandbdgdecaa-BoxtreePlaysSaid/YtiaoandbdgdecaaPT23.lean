/- Parts of a proof: contracts and laws. -/
import Derived.Test.YtiaoandbdgdecaaPT22
namespace Go.Proofs.Ytiaoandbdgdecaa
section
set_option linter.unusedVariables false
set_option linter.unusedSimpArgs false
open Go.RowKit
theorem blen_calls {w : World} {g : Nat} {s : TS} (h : Mem w g s) : Calls Try.prog 11 #[.pointer (pA g)] w (Ret (.int .i64 s.cnt) w) := by
  have c := h.cnt
  have gl := lt_of_cell c
  clear h
  go_enter Try.func11, Try.ntmps11
  go_wp2
  go_returns
  exact ⟨rfl, Below.refl _ _⟩
theorem height_nil {w : World} {g : Nat} {s : TS} (h : Mem w g s) (hr : s.root = none) : Calls Try.prog 12 #[.pointer (pA g)] w (Ret (.int .i64 0) w) := by
  have c := h.root
  rw [hr] at c
  have gl := lt_of_cell c
  clear h hr
  go_enter Try.func12, Try.ntmps12
  go_wp2
  go_returns
  exact ⟨rfl, Below.refl _ _⟩
theorem height_calls {w : World} {g : Nat} {s : TS} (h : Mem w g s) {t : TB} (hr : s.root = pA t.root) (ht : t.Rp s none) : Calls Try.prog 12 #[.pointer (pA g)] w (Ret (.int .i64 (htB t)) w) := by
  have c := h.root
  rw [hr] at c
  have gl := lt_of_cell c
  obtain ⟨r, h1, -, -, h2⟩ := ht.top
  have k := (h.nd _ _ h1).c5
  rw [h2] at k
  have kl := lt_of_cell k
  obtain ⟨z, hz⟩ : ∃ z, z = htB t := ⟨_, rfl⟩
  rw [← hz] at k ⊢
  clear h hr h1 h2 hz ht
  go_enter Try.func12, Try.ntmps12
  go_wp2
  go_returns
  exact ⟨rfl, Below.refl _ _⟩
def TS0 : TS := ⟨none, fun _ => none, fun _ => none, 0⟩
def RetNewT (w : World) (e : Ending) (w' : World) : Prop := ∃ g, e = .returned (.pointer (pA g)) ∧ w.heap.size ≤ g ∧ Mem w' g TS0 ∧ Below w.heap.size w w'
def zeroT : Array Value := (List.replicate 257 (Value.pointer none) ++ [Value.int .i64 0]).toArray
theorem new_mem (w : World) (t : TypeId) : Mem (w.alloc (.cells zeroT t)) w.heap.size TS0 := by
  have hh := heap_alloc_new w (.cells zeroT t)
  have hc : ∀ j (v : Value), zeroT[j]? = some v → (w.alloc (.cells zeroT t)).cell? ⟨w.heap.size, j, none⟩ = some v := fun j v hv => by
    unfold World.cell?
    rw [hh]
    exact hv
  refine ⟨hc 0 _ (by kernel_rfl), fun i hi => hc (1 + i) _ ?_, hc 257 _ (by kernel_rfl), fun j => ?_, fun b r hb => (by cases hb), rfl⟩
  · unfold zeroT
    rw [List.getElem?_toArray, List.getElem?_append_left (by rw [List.length_replicate]; omega), List.getElem?_replicate, if_pos (by omega)]
    rfl
  · unfold World.frozen?
    rw [hh]
    simp
theorem bnew_calls (w : World) : Calls Try.prog 7 #[] w (RetNewT w) := by
  have e : Try.zeroCells59 = zeroT := by kernel_rfl
  have hm := hid (new_mem w 59)
  have hb : Below w.heap.size w (w.alloc (.cells zeroT 59)) := by go_grown
  have HB := hid hb
  have HE := hid e
  clear e hb
  go_enter Try.func7, Try.ntmps7
  go_wp2
  rw [HE.out]
  go_returns
  exact ⟨w.heap.size, rfl, Nat.le_refl _, hm.out, HB.out⟩
end
end Go.Proofs.Ytiaoandbdgdecaa
