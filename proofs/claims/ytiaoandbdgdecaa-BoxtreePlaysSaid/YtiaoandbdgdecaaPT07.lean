/- Parts of a proof: contracts and laws. -/
import Derived.Test.YtiaoandbdgdecaaPT06
import Derived.Shelf.LaySoft
import Derived.Shelf.SlicesG.Cmp
import Derived.Shelf.SlSortCmp.InsertionK
import Derived.Shelf.SlSortCmp.Kit1
namespace Go.Proofs.Ytiaoandbdgdecaa
section
set_option linter.unusedVariables false
set_option linter.unusedSimpArgs false
open Go.Shelf
open Go.RowKit Go.Sort Go.Lib
def layCmpInt_ren : Go.Shelf.Ren := ⟨fun | 5 => 33 | 7 => 51 | n => n, fun | 22 => 3 | 3 => 3 | 4 => 4 | n => n, fun | n => n⟩
theorem layCmpInt : Go.Proofs.SlLaysC2.n5 Try.prog layCmpInt_ren := {
  mixed := by kernel_rfl
  f5 := ⟨Try.f33.name, by decide, Try.func33.trans (congrArg some (by kernel_rfl))⟩
  f7 := ⟨Try.f51.name, by decide, Try.func51.trans (congrArg some (by kernel_rfl))⟩
  t3 := Try.underlying3
  a3 := Try.isAgg3
  z3 := Try.sizeOf3
  v3 := Try.zeroValue3
  t4 := Try.underlying4
  a4 := Try.isAgg4
  z4 := Try.sizeOf4
  v4 := Try.zeroValue4
  t22 := Try.underlying3
  a22 := Try.isAgg3
  z22 := Try.sizeOf3
  v22 := Try.zeroValue3 }
theorem cmpInt_calls (x y : Int) (w : World) : Calls Try.prog 33 #[.int .i64 x, .int .i64 y] w fun e w' => e = .returned (.int .i64 (Lib.compareInt x y)) ∧ w' = w := AnyG.cmp_Compare_int layCmpInt x y w

abbrev Bx := (Int × Int) × (Int × Int)
def layBox : Lay Bx := ⟨fun b => [.int .i64 b.1.1, .int .i64 b.1.2, .int .i64 b.2.1, .int .i64 b.2.2], 4, fun _ => rfl, fun x v hv => by simp at hv; rcases hv with rfl | rfl | rfl | rfl <;> rfl, by omega⟩
def bxAt (l : List Bx) (i : Nat) : Bx := l.getD i ((0, 0), (0, 0))
theorem CellsE.box {w : World} {b off : Nat} {l : List Bx} (h : CellsE layBox w b off l) {i : Nat} (hi : i < l.length) :
    w.cell? ⟨b, off + i * 4, none⟩ = some (.int .i64 (bxAt l i).1.1) ∧ w.cell? ⟨b, off + i * 4 + 1, none⟩ = some (.int .i64 (bxAt l i).1.2) ∧ w.cell? ⟨b, off + i * 4 + 2, none⟩ = some (.int .i64 (bxAt l i).2.1) ∧ w.cell? ⟨b, off + i * 4 + 3, none⟩ = some (.int .i64 (bxAt l i).2.2) := by
  have e : bxAt l i = l[i] := by unfold bxAt; simp [hi]
  rw [e]
  exact ⟨h.at_ i hi 0 _ rfl, h.at_ i hi 1 _ rfl, h.at_ i hi 2 _ rfl, h.at_ i hi 3 _ rfl⟩
end
end Go.Proofs.Ytiaoandbdgdecaa
namespace Go.Proofs.Ytiaoandbdgdecaa
section
set_option linter.unusedVariables false
set_option linter.unusedSimpArgs false
open Go.RowKit Go.Sort
section
variable {α : Type} {L : Lay α} {e : TypeId}
theorem flatE_flatK [Inhabited α] (d : Array α) : (flatK L.enc L.k d).toList = flatE L d.toList := by
  apply List.ext_getElem?
  intro t
  rcases Nat.lt_or_ge t (d.size * L.k) with ht | ht
  · obtain ⟨j, i, hj, hi, e, h⟩ := flatE_get (L := L) d.toList t (by simpa using ht)
    rw [h]
    have hp := L.pos
    have hjd : j < d.size := by simpa using hj
    have e1 : t / L.k = j := by rw [e, Nat.mul_comm, Nat.mul_add_div hp, Nat.div_eq_of_lt hi, Nat.add_zero]
    have e2 : t % L.k = i := by rw [e, Nat.mul_comm, Nat.mul_add_mod, Nat.mod_eq_of_lt hi]
    have g := get_flatK L.enc L.k d t ht
    rw [e1, e2, getElem!_pos _ _ (by simpa using ht), getElem!_pos d j hjd, getElem!_pos _ i (by rw [L.hk]; exact hi)] at g
    rw [Array.getElem?_toList, Array.getElem?_eq_getElem (by simpa using ht), g, List.getElem?_eq_getElem (by rw [L.hk]; exact hi)]
    simp
  · rw [List.getElem?_eq_none (by simpa using ht), List.getElem?_eq_none (by rw [flatE_len]; simpa using ht)]

theorem OwnE.holds [Inhabited α] {w : World} {B g n cap : Nat} {l : List α} (h : OwnE L e w B (.slice (some ⟨g, 0, none⟩) n cap) l) : HoldsK L.enc L.k w g 0 l.toArray := by
  rcases h.form with ⟨h1, -⟩ | ⟨g', cap', hv, -, -, -, -, hf, hc⟩
  · cases h1
  · cases hv
    intro t ht
    rw [size_flatK] at ht
    simp only [List.size_toArray] at ht
    refine ⟨?_, hf _⟩
    obtain ⟨j, i, hj, hi, et, h2⟩ := flatE_get (L := L) l t ht
    have hp := L.pos
    have e1 : t / L.k = j := by rw [et, Nat.mul_comm, Nat.mul_add_div hp, Nat.div_eq_of_lt hi, Nat.add_zero]
    have e2 : t % L.k = i := by rw [et, Nat.mul_comm, Nat.mul_add_mod, Nat.mod_eq_of_lt hi]
    have g1 := get_flatK L.enc L.k l.toArray t (by simpa using ht)
    rw [e1, e2] at g1
    rw [g1]
    have hg : (L.enc l[j])[i]? = some ((L.enc l[j])[i]'(by rw [L.hk]; exact hi)) := List.getElem?_eq_getElem _
    have := hc.at_ j hj i _ hg
    rw [show (0 : Nat) + j * L.k + i = 0 + t by omega] at this
    rw [this]
    have hj2 : l.toArray[j]! = l[j] := by rw [getElem!_pos _ _ (by simpa using hj)]; simp
    rw [hj2, getElem!_pos _ i (by rw [L.hk]; exact hi)]
    rfl
theorem heap_sortedK [Inhabited α] {w : World} {g n : Nat} {os : Array Obj} {cur : Array Value} {fr : Nat × Nat} (d : Array α) (hb : w.heap[g]? = some (.cells cur e fr)) :
    (sortWorldK L.enc L.k w g 0 n d os).heap[g]? = some (.cells (putCells id 0 (flatK L.enc L.k d) cur) e fr) := by
  have hg : g < w.heap.size := (Array.getElem?_eq_some_iff.1 hb).1
  unfold sortWorldK putRowK
  rw [heap_grow_old _ _ (by simpa [putRow, mapBlock, Sort.ahead] using hg)]
  simp [putRow, mapBlock, Sort.ahead, Array.getElem?_modify, hb, onCells]
theorem grownBy_sortedK [Inhabited α] {w : World} {g n : Nat} {os : Array Obj} (d : Array α) : w.grownBy (sortWorldK L.enc L.k w g 0 n d os) (some g) := by
  unfold sortWorldK putRowK
  refine ⟨rfl, rfl, rfl, by simp [putRow, mapBlock, Sort.ahead], fun k hk hne => ?_⟩
  rw [heap_grow_old _ _ (by simpa [putRow, mapBlock, Sort.ahead] using hk)]
  have : g ≠ k := fun e => hne (by rw [e])
  simp [putRow, mapBlock, Sort.ahead, Array.getElem?_modify, this]
theorem take_putCellsK (cur : Array Value) (F : Array Value) (h : F.size ≤ cur.size) : (putCells id 0 F cur).toList.take F.size = F.toList := by
  apply List.ext_getElem?
  intro j
  by_cases hj : j < F.size
  · rw [List.getElem?_take_of_lt hj, Array.getElem?_toList]
    simp [putCells, hj, show j < cur.size by omega]
  · rw [List.getElem?_take_eq_none (by omega), List.getElem?_eq_none (by simp; omega)]

theorem OwnE.sorted [Inhabited α] {w : World} {B g n cap m : Nat} {os : Array Obj} {l : List α} (h : OwnE L e w B (.slice (some ⟨g, 0, none⟩) n cap) l) (d : Array α) (hs : d.size = l.length) :
    OwnE L e (sortWorldK L.enc L.k w g 0 m d os) B (.slice (some ⟨g, 0, none⟩) n cap) d.toList := by
  obtain ⟨h1, ⟨h2, -⟩ | ⟨g', cap', cur, hv, hb, hg, hn, hm, hsz, ht⟩⟩ := h
  · cases h2
  · cases hv
    refine ⟨by rw [flatE_len], .inr ⟨g, cap, _, by simp [hs], hb, heap_sortedK d hg, by rw [Array.length_toList, hs]; exact hn, hm, by simp [putCells, hsz], ?_⟩⟩
    have e1 : d.toList.length * L.k = (flatK L.enc L.k d).size := by simp
    rw [e1, take_putCellsK _ _ (by rw [size_flatK, hs, hsz]; exact Nat.mul_le_mul_right _ hn), flatE_flatK]
end

theorem sortWorld_one {α : Type} [Inhabited α] (enc : α → Value) (w : World) (g off m : Nat) (d : Array α) (os : Array Obj) : sortWorld enc w g off m d os = sortWorldK (fun x => [enc x]) 1 w g off m d os := by
  have e : flatK (fun x => [enc x]) 1 d = d.map enc := by
    apply Array.ext
    · simp
    · intro i h1 h2
      have g1 := get_flatK (fun x => [enc x]) 1 d i (by simpa using h1)
      rw [getElem!_pos (flatK (fun x => [enc x]) 1 d) i h1] at g1
      rw [g1]
      have hi : i < d.size := by simpa using h2
      simp [Nat.mod_one, hi]
  unfold sortWorld sortWorldK putRowK putRow
  rw [e]
  congr 2
  funext cur
  unfold putCells
  apply Array.ext
  · simp
  · intro i h1 h2
    rw [Array.getElem_mapIdx, Array.getElem_mapIdx]
    have es : (d.map enc).size = d.size := by simp
    by_cases hh : off ≤ i ∧ i < off + d.size
    · rw [if_pos hh, if_pos (by rw [es]; exact hh), getElem!_pos (d.map enc) (i - off) (by simp; omega), getElem!_pos d (i - off) (by omega)]
      simp
    · rw [if_neg hh, if_neg (by rw [es]; exact hh)]
theorem holds_one {α : Type} [Inhabited α] {enc : α → Value} {w : World} {g off : Nat} {d : Array α} (h : HoldsK (fun x => [enc x]) 1 w g off d) : Holds enc w g off d := by
  intro j hj
  have := h j (by rw [size_flatK]; omega)
  have g1 := get_flatK (fun x => [enc x]) 1 d j (by omega)
  rw [g1] at this
  simpa [Nat.mod_one] using this
end
end Go.Proofs.Ytiaoandbdgdecaa
