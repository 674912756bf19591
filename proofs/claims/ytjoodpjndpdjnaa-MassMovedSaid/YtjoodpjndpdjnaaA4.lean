/- Contracts of the reference's numbers of eight digits: Of, Add. -/
import Derived.Test.YtjoodpjndpdjnaaM1
import Derived.RegionTactic
import Derived.ChangeAlike
import Derived.Deep.QuietTactic
import Derived.BigQuiet
namespace Go.Proofs.Ytjoodpjndpdjnaa
set_option linter.unusedVariables false
set_option linter.unusedSimpArgs false
open Go.RowKit

/-- a number of the reference, as a value: its digits -/
abbrev bigV (z : Int) : Value := .agg #[.int .u32 (digs z 0), .int .u32 (digs z 1), .int .u32 (digs z 2), .int .u32 (digs z 3), .int .u32 (digs z 4), .int .u32 (digs z 5), .int .u32 (digs z 6), .int .u32 (digs z 7)]

/-- a block of eight digits -/
structure Blk8 (w : World) (g : Nat) (o : Nat → Int) : Prop where
  cell : ∀ j, j < 8 → w.cell? ⟨g, j, none⟩ = some (.int .u32 (o j))
  free : ∀ j, w.frozen? ⟨g, j, none⟩ = false

theorem Blk8.set {w : World} {g k : Nat} {o o' : Nat → Int} {v : Int} (h : Blk8 w g o) (hk : k < 8) (hv : o' k = v) (ho : ∀ j, j ≠ k → o' j = o j) : Blk8 (w.setCell ⟨g, k, none⟩ (.int .u32 v)) g o' := by
  refine ⟨fun j hj => ?_, fun j => by rw [World.frozen?_setCell]; exact h.free j⟩
  by_cases e : j = k
  · subst e
    rw [World.cell?_setCell_same _ _ _ (h.cell j hj), hv]
  · rw [World.cell?_setCell_other _ _ _ _ (by simp only [ne_eq, Addr.mk.injEq, true_and, and_true]; exact fun h => e h.symm), h.cell j hj, ho j e]
theorem Blk8.below {w w' : World} {B g : Nat} {o : Nat → Int} (h : Blk8 w g o) (hb : Below B w w') (hg : g < B) : Blk8 w' g o :=
  ⟨fun j hj => ((bcell hb).1 _ _ hg).trans (h.cell j hj), fun j => ((bcell hb).2 _ _ hg).trans (h.free j)⟩
theorem Blk8.far {w : World} {g : Nat} {o : Nat → Int} (h : Blk8 w g o) {p : Addr} (hp : p.block ≠ g) (u : Value) : Blk8 (w.setCell p u) g o :=
  ⟨fun j hj => by rw [World.cell?_setCell_other _ _ _ _ (by rintro rfl; exact hp rfl)]; exact h.cell j hj, fun j => by rw [World.frozen?_setCell]; exact h.free j⟩
theorem Blk8.drew {w : World} {g : Nat} {o : Nat → Int} (h : Blk8 w g o) : Blk8 w.drew g o := ⟨h.cell, h.free⟩
theorem Blk8.drewN {w : World} {g : Nat} {o : Nat → Int} (h : Blk8 w g o) (n : Nat) : Blk8 (w.drewN n) g o := ⟨h.cell, h.free⟩
theorem Blk8.congr {w : World} {g : Nat} {o o' : Nat → Int} (h : Blk8 w g o) (ho : ∀ j, j < 8 → o j = o' j) : Blk8 w g o' := ⟨fun j hj => by rw [h.cell j hj, ho j hj], h.free⟩

theorem lt_of_cell {w : World} {g i : Nat} {v : Value} (h : w.cell? ⟨g, i, none⟩ = some v) : g < w.heap.size := by
  rcases Nat.lt_or_ge g w.heap.size with h1 | h1
  · exact h1
  · have : w.heap[g]? = none := Array.getElem?_eq_none h1
    simp [World.cell?, this] at h
theorem Blk8.lt {w : World} {g : Nat} {o : Nat → Int} (h : Blk8 w g o) : g < w.heap.size := lt_of_cell (h.cell 0 (by omega))
theorem Blk8.all {w : World} {g : Nat} {o : Nat → Int} (h : Blk8 w g o) :
    w.cell? ⟨g, 0, none⟩ = some (.int .u32 (o 0)) ∧ w.cell? ⟨g, 1, none⟩ = some (.int .u32 (o 1)) ∧ w.cell? ⟨g, 2, none⟩ = some (.int .u32 (o 2)) ∧ w.cell? ⟨g, 3, none⟩ = some (.int .u32 (o 3)) ∧
    w.cell? ⟨g, 4, none⟩ = some (.int .u32 (o 4)) ∧ w.cell? ⟨g, 5, none⟩ = some (.int .u32 (o 5)) ∧ w.cell? ⟨g, 6, none⟩ = some (.int .u32 (o 6)) ∧ w.cell? ⟨g, 7, none⟩ = some (.int .u32 (o 7)) :=
  ⟨h.cell 0 (by omega), h.cell 1 (by omega), h.cell 2 (by omega), h.cell 3 (by omega), h.cell 4 (by omega), h.cell 5 (by omega), h.cell 6 (by omega), h.cell 7 (by omega)⟩
theorem Blk8.alloc {w : World} {g : Nat} {o : Nat → Int} (h : Blk8 w g o) (hg : g < w.heap.size) (x : Obj) : Blk8 (w.alloc x) g o :=
  h.below ((Below.refl _ _).alloc (Nat.le_refl _) x) hg
theorem Blk8.here (w : World) (t : TypeId) (o : Nat → Int) : Blk8 (w.alloc (.cells #[.int .u32 (o 0), .int .u32 (o 1), .int .u32 (o 2), .int .u32 (o 3), .int .u32 (o 4), .int .u32 (o 5), .int .u32 (o 6), .int .u32 (o 7)] t)) w.heap.size o := by
  refine ⟨fun j hj => ?_, fun j => by go_simp⟩
  match j, hj with
  | 0, _ | 1, _ | 2, _ | 3, _ | 4, _ | 5, _ | 6, _ | 7, _ => go_simp
theorem below_drewN' {B : Nat} {a w : World} (h : Below B a w) (n : Nat) : Below B a (w.drewN n) := ⟨h.os, h.tape, h.output, h.size, h.block⟩

/-- the first k values of f, then those of g -/
def part (f g : Nat → Int) (k j : Nat) : Int := if j < k then f j else g j
theorem part_at (f g : Nat → Int) (k : Nat) : part f g (k + 1) k = f k := by simp [part]
theorem part_ne (f g : Nat → Int) (k j : Nat) (h : j ≠ k) : part f g (k + 1) j = part f g k j := by
  unfold part
  by_cases e : j < k
  · rw [if_pos e, if_pos (by omega)]
  · rw [if_neg e, if_neg (by omega)]
theorem part_full (f g : Nat → Int) (k j : Nat) (h : j < k) : part f g k j = f j := by simp [part, h]
theorem part_zero (f g : Nat → Int) (j : Nat) : part f g 0 j = g j := by simp [part]

set_option maxRecDepth 100000 in
set_option maxHeartbeats 1000000 in
theorem of_calls (n : Int) (h1 : -9223372036854775808 ≤ n) (h2 : n ≤ 9223372036854775807) (w : World) :
    Calls Try.prog 36 #[.int .i64 n] w (Ret (bigV n) w) := by
  go_enter Try.func36, Try.ntmps36
  go_wp2
  go_loopw [8] (fun i wr => ∃ k : Nat, k ≤ 8 ∧ i = .int .i64 k ∧ Below w.heap.size w wr ∧ Blk8 wr w.heap.size (fun _ => 0) ∧ Blk8 wr (w.heap.size + 1) (part (digs n) (fun _ => 0) k)) (fun i _ => 8 - (intOf i).toNat)
  case atStart =>
    refine ⟨0, by omega, rfl, by go_grown, ⟨fun j hj => ?_, fun j => by go_simp⟩, ⟨fun j hj => ?_, fun j => by go_simp⟩⟩
    · match j, hj with
      | 0, _ | 1, _ | 2, _ | 3, _ | 4, _ | 5, _ | 6, _ | 7, _ => go_simp
    · rw [part_zero]
      match j, hj with
      | 0, _ | 1, _ | 2, _ | 3, _ | 4, _ | 5, _ | 6, _ | 7, _ => go_simp
  case round =>
    obtain ⟨k, hk, rfl, hB, hZ, hO⟩ := hrel
    by_cases hlt : k < 8
    · have hc := hO.cell k hlt
      have hf := hO.free k
      have HO := hid hO
      have HZ := hid hZ
      clear hO hZ
      go_wp2
      · exact ⟨⟨k + 1, hlt, by go_num, hB.setCell (by simp) _, HZ.out.far (by simp) _, HO.out.set hlt (by rw [part_at, of_low n k (by omega)]) (part_ne _ _ k)⟩, by simp [intOf]; omega⟩
      · exact ⟨⟨k + 1, hlt, by go_num, hB.setCell (by simp) _, HZ.out.far (by simp) _, HO.out.set hlt (by rw [part_at, of_high n k (by omega) hlt h1 h2, if_pos (by assumption)]) (part_ne _ _ k)⟩, by simp [intOf]; omega⟩
      · refine ⟨⟨k + 1, hlt, by go_num, hB, HZ.out, HO.out.congr fun j hj => ?_⟩, by simp [intOf]; omega⟩
        by_cases e : j = k
        · subst e
          rw [part_at, of_high n j (by omega) hlt h1 h2, if_neg (by omega)]
          simp [part]
        · rw [part_ne _ _ _ _ e]
    · obtain rfl : k = 8 := by omega
      have z0 := hZ.cell 0 (by omega); have z1 := hZ.cell 1 (by omega); have z2 := hZ.cell 2 (by omega); have z3 := hZ.cell 3 (by omega)
      have z4 := hZ.cell 4 (by omega); have z5 := hZ.cell 5 (by omega); have z6 := hZ.cell 6 (by omega); have z7 := hZ.cell 7 (by omega)
      have o0 := hO.cell 0 (by omega); have o1 := hO.cell 1 (by omega); have o2 := hO.cell 2 (by omega); have o3 := hO.cell 3 (by omega)
      have o4 := hO.cell 4 (by omega); have o5 := hO.cell 5 (by omega); have o6 := hO.cell 6 (by omega); have o7 := hO.cell 7 (by omega)
      have zf := hZ.free
      simp only [part_full _ _ 8 0 (by omega), part_full _ _ 8 1 (by omega), part_full _ _ 8 2 (by omega), part_full _ _ 8 3 (by omega), part_full _ _ 8 4 (by omega), part_full _ _ 8 5 (by omega), part_full _ _ 8 6 (by omega), part_full _ _ 8 7 (by omega)] at o0 o1 o2 o3 o4 o5 o6 o7
      clear hO hZ
      go_wp2
      refine bodyPost_ret (v := bigV n) (by simp [results, Try.results36, go_sem, z0, z1, z2, z3, z4, z5, z6, z7]) rfl ⟨rfl, ?_⟩
      go_grown

end Go.Proofs.Ytjoodpjndpdjnaa
