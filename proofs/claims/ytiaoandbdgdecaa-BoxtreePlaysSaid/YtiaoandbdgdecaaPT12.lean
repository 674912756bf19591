/- Parts of a proof: contracts and laws. -/
import Derived.Test.YtiaoandbdgdecaaPT10
import Derived.Test.YtiaoandbdgdecaaPT11
import Derived.LaidEqlPtr
namespace Go.Proofs.Ytiaoandbdgdecaa
section
set_option linter.unusedVariables false
set_option linter.unusedSimpArgs false
open Go.RowKit

structure NR where
  bx : Bx
  id : Int
  ht : Int
  up : Option Addr
  k0 : Option Addr
  k1 : Option Addr

structure NdC (w : World) (b : Nat) (r : NR) : Prop where
  c0 : w.cell? ⟨b, 0, none⟩ = some (.int .i64 r.bx.1.1)
  c1 : w.cell? ⟨b, 1, none⟩ = some (.int .i64 r.bx.1.2)
  c2 : w.cell? ⟨b, 2, none⟩ = some (.int .i64 r.bx.2.1)
  c3 : w.cell? ⟨b, 3, none⟩ = some (.int .i64 r.bx.2.2)
  c4 : w.cell? ⟨b, 4, none⟩ = some (.int .i64 r.id)
  c5 : w.cell? ⟨b, 5, none⟩ = some (.int .i64 r.ht)
  c6 : w.cell? ⟨b, 6, none⟩ = some (.pointer r.up)
  c7 : w.cell? ⟨b, 7, none⟩ = some (.pointer r.k0)
  c8 : w.cell? ⟨b, 8, none⟩ = some (.pointer r.k1)
  free : ∀ j, w.frozen? ⟨b, j, none⟩ = false
  obj : ∃ ca ta, w.heap[b]? = some (.cells ca ta (0, 0))
theorem NdC.cells {w : World} {b : Nat} {x y u v id ht : Int} {up k0 k1 : Option Addr} (h : NdC w b ⟨((x, y), (u, v)), id, ht, up, k0, k1⟩) : w.cell? ⟨b, 0, none⟩ = some (.int .i64 x) ∧ w.cell? ⟨b, 1, none⟩ = some (.int .i64 y) ∧ w.cell? ⟨b, 2, none⟩ = some (.int .i64 u) ∧ w.cell? ⟨b, 3, none⟩ = some (.int .i64 v) ∧ w.cell? ⟨b, 4, none⟩ = some (.int .i64 id) ∧ w.cell? ⟨b, 5, none⟩ = some (.int .i64 ht) ∧ w.cell? ⟨b, 6, none⟩ = some (.pointer up) ∧ w.cell? ⟨b, 7, none⟩ = some (.pointer k0) ∧ w.cell? ⟨b, 8, none⟩ = some (.pointer k1) := ⟨h.c0, h.c1, h.c2, h.c3, h.c4, h.c5, h.c6, h.c7, h.c8⟩
theorem cell_neB {w : World} {g o o' : Nat} {v u : Value} (h : w.cell? ⟨g, o', none⟩ = some u) (hne : o ≠ o') : (w.setCell ⟨g, o, none⟩ v).cell? ⟨g, o', none⟩ = some u := by
  have n1 : ¬ o = o' := hne
  have n2 : ¬ o' = o := fun e => hne e.symm
  go_simp
theorem cell_eqB {w : World} {g o : Nat} {v u : Value} (h : w.cell? ⟨g, o, none⟩ = some u) : (w.setCell ⟨g, o, none⟩ v).cell? ⟨g, o, none⟩ = some v := by go_simp
theorem NdC.lt {w : World} {b : Nat} {r : NR} (h : NdC w b r) : b < w.heap.size := lt_of_cell h.c0
theorem NdC.same {w w' : World} {b : Nat} {r : NR} (h : NdC w b r) (e : w'.heap[b]? = w.heap[b]?) : NdC w' b r :=
  ⟨(World.cell?_of_block e).trans h.c0, (World.cell?_of_block e).trans h.c1, (World.cell?_of_block e).trans h.c2, (World.cell?_of_block e).trans h.c3, (World.cell?_of_block e).trans h.c4, (World.cell?_of_block e).trans h.c5, (World.cell?_of_block e).trans h.c6, (World.cell?_of_block e).trans h.c7, (World.cell?_of_block e).trans h.c8, fun j => (World.frozen?_of_block e).trans (h.free j), by obtain ⟨ca, ta, q⟩ := h.obj; exact ⟨ca, ta, e.trans q⟩⟩
theorem keepNd {w w' : World} {b : Nat} {r : NR} (k : Below w.heap.size w w') (h : NdC w b r) : NdC w' b r := h.same (k.block b h.lt)

def setBx (w : World) (b : Nat) (x y u v : Int) : World := (((w.setCell ⟨b, 0, none⟩ (.int .i64 x)).setCell ⟨b, 1, none⟩ (.int .i64 y)).setCell ⟨b, 2, none⟩ (.int .i64 u)).setCell ⟨b, 3, none⟩ (.int .i64 v)
theorem frz_set {w : World} {b : Nat} (h : ∀ j, w.frozen? ⟨b, j, none⟩ = false) (p : Addr) (v : Value) : ∀ j, (w.setCell p v).frozen? ⟨b, j, none⟩ = false := fun j => by rw [World.frozen?_setCell]; exact h j
theorem obj_set {w : World} {b : Nat} (h : ∃ ca ta, w.heap[b]? = some (.cells ca ta (0, 0))) (p : Addr) (v : Value) : ∃ ca ta, (w.setCell p v).heap[b]? = some (.cells ca ta (0, 0)) := by
  obtain ⟨ca, ta, e⟩ := h
  by_cases q : b = p.block
  · subst q
    exact ⟨if p.spot.isSome then ca else ca.setIfInBounds p.off v, ta, by simp [World.setCell, Array.getElem?_modify, e]⟩
  · exact ⟨ca, ta, (Below.heap_setCell w p v b q).trans e⟩
theorem NdC.setBx {w : World} {b : Nat} {bx : Bx} {id ht : Int} {up k0 k1 : Option Addr} (h : NdC w b ⟨bx, id, ht, up, k0, k1⟩) (x y u v : Int) : NdC (setBx w b x y u v) b ⟨((x, y), (u, v)), id, ht, up, k0, k1⟩ := by
  obtain ⟨c0, c1, c2, c3, c4, c5, c6, c7, c8, hf, hob⟩ := h
  unfold Go.Proofs.Ytiaoandbdgdecaa.setBx
  refine ⟨?_, ?_, ?_, ?_, ?_, ?_, ?_, ?_, ?_, frz_set (frz_set (frz_set (frz_set hf _ _) _ _) _ _) _ _, obj_set (obj_set (obj_set (obj_set hob _ _) _ _) _ _) _ _⟩
  · exact cell_neB (cell_neB (cell_neB (cell_eqB c0) (by omega)) (by omega)) (by omega)
  · exact cell_neB (cell_neB (cell_eqB (cell_neB c1 (by omega))) (by omega)) (by omega)
  · exact cell_neB (cell_eqB (cell_neB (cell_neB c2 (by omega)) (by omega))) (by omega)
  · exact cell_eqB (cell_neB (cell_neB (cell_neB c3 (by omega)) (by omega)) (by omega))
  · exact cell_neB (cell_neB (cell_neB (cell_neB c4 (by omega)) (by omega)) (by omega)) (by omega)
  · exact cell_neB (cell_neB (cell_neB (cell_neB c5 (by omega)) (by omega)) (by omega)) (by omega)
  · exact cell_neB (cell_neB (cell_neB (cell_neB c6 (by omega)) (by omega)) (by omega)) (by omega)
  · exact cell_neB (cell_neB (cell_neB (cell_neB c7 (by omega)) (by omega)) (by omega)) (by omega)
  · exact cell_neB (cell_neB (cell_neB (cell_neB c8 (by omega)) (by omega)) (by omega)) (by omega)
theorem NdC.setHt {w : World} {b : Nat} {bx : Bx} {id ht : Int} {up k0 k1 : Option Addr} (h : NdC w b ⟨bx, id, ht, up, k0, k1⟩) (z : Int) : NdC (w.setCell ⟨b, 5, none⟩ (.int .i64 z)) b ⟨bx, id, z, up, k0, k1⟩ := by
  obtain ⟨c0, c1, c2, c3, c4, c5, c6, c7, c8, hf, hob⟩ := h
  exact ⟨cell_neB c0 (by omega), cell_neB c1 (by omega), cell_neB c2 (by omega), cell_neB c3 (by omega), cell_neB c4 (by omega), cell_eqB c5, cell_neB c6 (by omega), cell_neB c7 (by omega), cell_neB c8 (by omega), frz_set hf _ _, obj_set hob _ _⟩
theorem NdC.setUp {w : World} {b : Nat} {bx : Bx} {id ht : Int} {up k0 k1 : Option Addr} (h : NdC w b ⟨bx, id, ht, up, k0, k1⟩) (z : Option Addr) : NdC (w.setCell ⟨b, 6, none⟩ (.pointer z)) b ⟨bx, id, ht, z, k0, k1⟩ := by
  obtain ⟨c0, c1, c2, c3, c4, c5, c6, c7, c8, hf, hob⟩ := h
  exact ⟨cell_neB c0 (by omega), cell_neB c1 (by omega), cell_neB c2 (by omega), cell_neB c3 (by omega), cell_neB c4 (by omega), cell_neB c5 (by omega), cell_eqB c6, cell_neB c7 (by omega), cell_neB c8 (by omega), frz_set hf _ _, obj_set hob _ _⟩
theorem NdC.setK0 {w : World} {b : Nat} {bx : Bx} {id ht : Int} {up k0 k1 : Option Addr} (h : NdC w b ⟨bx, id, ht, up, k0, k1⟩) (z : Option Addr) : NdC (w.setCell ⟨b, 7, none⟩ (.pointer z)) b ⟨bx, id, ht, up, z, k1⟩ := by
  obtain ⟨c0, c1, c2, c3, c4, c5, c6, c7, c8, hf, hob⟩ := h
  exact ⟨cell_neB c0 (by omega), cell_neB c1 (by omega), cell_neB c2 (by omega), cell_neB c3 (by omega), cell_neB c4 (by omega), cell_neB c5 (by omega), cell_neB c6 (by omega), cell_eqB c7, cell_neB c8 (by omega), frz_set hf _ _, obj_set hob _ _⟩
theorem NdC.setK1 {w : World} {b : Nat} {bx : Bx} {id ht : Int} {up k0 k1 : Option Addr} (h : NdC w b ⟨bx, id, ht, up, k0, k1⟩) (z : Option Addr) : NdC (w.setCell ⟨b, 8, none⟩ (.pointer z)) b ⟨bx, id, ht, up, k0, z⟩ := by
  obtain ⟨c0, c1, c2, c3, c4, c5, c6, c7, c8, hf, hob⟩ := h
  exact ⟨cell_neB c0 (by omega), cell_neB c1 (by omega), cell_neB c2 (by omega), cell_neB c3 (by omega), cell_neB c4 (by omega), cell_neB c5 (by omega), cell_neB c6 (by omega), cell_neB c7 (by omega), cell_eqB c8, frz_set hf _ _, obj_set hob _ _⟩
theorem size_node : (Try.prog.info? 63).map (fun i => i.size) = some 9 := by kernel_rfl
theorem run_eqNd {w : World} {a b : Nat} {ra rb : NR} (ha : NdC w a ra) (hb : NdC w b rb) (h : a ≠ b) : (binOp .eql 56 (.pointer (some ⟨a, 0, none⟩)) (.pointer (some ⟨b, 0, none⟩))).run Try.prog w = .ok (.bool false) w := by
  obtain ⟨ca, ta, ea⟩ := ha.obj
  obtain ⟨cb, tb, eb⟩ := hb.obj
  obtain ⟨i0, hi, hz1⟩ := Option.map_eq_some_iff.1 size_node
  exact run_eql_ptr_other w Try.underlying56 hi (by rw [hz1]; decide) (fun e => h (by injection e)) ea eb
theorem run_eqNs (a : Nat) (w : World) : (binOp .eql 56 (.pointer (some ⟨a, 0, none⟩)) (.pointer (some ⟨a, 0, none⟩))).run Try.prog w = .ok (.bool true) w := by
  obtain ⟨i0, hi, hz1⟩ := Option.map_eq_some_iff.1 size_node
  exact run_eql_ptr_same w ⟨a, 0, none⟩ Try.underlying56 hi

structure TS where
  root : Option Addr
  nd : Nat → Option NR
  lv : Nat → Option Addr
  cnt : Int
def TS.set (s : TS) (b : Nat) (r : NR) : TS := { s with nd := fun k => if k = b then some r else s.nd k }
theorem TS.set_eq (s : TS) (b : Nat) (r : NR) : (s.set b r).nd b = some r := by simp [TS.set]
theorem TS.set_ne (s : TS) {b k : Nat} (r : NR) (h : k ≠ b) : (s.set b r).nd k = s.nd k := by simp [TS.set, h]

def TS.In (s : TS) (g k : Nat) : Prop := k = g ∨ s.nd k ≠ none

structure Out (D : Nat → Prop) (w w' : World) : Prop where
  os : w'.os = w.os
  tape : w'.tape = w.tape
  output : w'.output = w.output
  size : w.heap.size ≤ w'.heap.size
  block : ∀ k, k < w.heap.size → ¬ D k → w'.heap[k]? = w.heap[k]?
theorem Out.refl (D : Nat → Prop) (w : World) : Out D w w := ⟨rfl, rfl, rfl, Nat.le_refl _, fun _ _ _ => rfl⟩
theorem Out.trans {D D' : Nat → Prop} {a b c : World} (h : Out D a b) (k : Out D' b c) (hd : ∀ i, i < a.heap.size → D' i → D i) : Out D a c :=
  ⟨k.os.trans h.os, k.tape.trans h.tape, k.output.trans h.output, Nat.le_trans h.size k.size, fun i hi hn => (k.block i (Nat.lt_of_lt_of_le hi h.size) (fun q => hn (hd i hi q))).trans (h.block i hi hn)⟩
theorem Out.mono {D D' : Nat → Prop} {a b : World} (h : Out D a b) (hd : ∀ i, i < a.heap.size → D i → D' i) : Out D' a b := ⟨h.os, h.tape, h.output, h.size, fun i hi hn => h.block i hi (fun q => hn (hd i hi q))⟩
theorem Out.drew {D : Nat → Prop} {a b : World} (h : Out D a b) : Out D a b.drew := ⟨h.os, h.tape, h.output, h.size, h.block⟩
theorem Out.below {D : Nat → Prop} {a b : World} (h : Below a.heap.size a b) : Out D a b := ⟨h.os, h.tape, h.output, h.size, fun k hk _ => h.block k hk⟩
theorem Out.setCell {D : Nat → Prop} {a b : World} (h : Out D a b) {p : Addr} (hp : a.heap.size ≤ p.block ∨ D p.block) (u : Value) : Out D a (b.setCell p u) :=
  ⟨h.os, h.tape, h.output, by rw [World.size_setCell]; exact h.size, fun k hk hn => (Below.heap_setCell b p u k (fun e => hp.elim (fun q => by omega) (fun q => hn (e ▸ q)))).trans (h.block k hk hn)⟩
theorem Out.cell {D : Nat → Prop} {a b : World} (h : Out D a b) {g o : Nat} {v : Value} (hc : a.cell? ⟨g, o, none⟩ = some v) (hn : ¬ D g) : b.cell? ⟨g, o, none⟩ = some v := (World.cell?_of_block (h.block _ (lt_of_cell hc) hn)).trans hc

structure Mem (w : World) (g : Nat) (s : TS) : Prop where
  root : w.cell? ⟨g, 0, none⟩ = some (.pointer s.root)
  lv : ∀ i, i < 256 → w.cell? ⟨g, 1 + i, none⟩ = some (.pointer (s.lv i))
  cnt : w.cell? ⟨g, 257, none⟩ = some (.int .i64 s.cnt)
  free : ∀ j, w.frozen? ⟨g, j, none⟩ = false
  nd : ∀ b r, s.nd b = some r → NdC w b r
  ne : s.nd g = none
theorem Mem.lt {w : World} {g : Nat} {s : TS} (h : Mem w g s) : g < w.heap.size := lt_of_cell h.root
theorem Mem.out {w w' : World} {g : Nat} {s : TS} {D : Nat → Prop} (h : Mem w g s) (k : Out D w w') (hd : ∀ i, s.In g i → ¬ D i) : Mem w' g s := by
  have hg := hd g (.inl rfl)
  have e := k.block g h.lt hg
  exact ⟨(World.cell?_of_block e).trans h.root, fun i hi => (World.cell?_of_block e).trans (h.lv i hi), (World.cell?_of_block e).trans h.cnt, fun j => (World.frozen?_of_block e).trans (h.free j), fun b r hr => (h.nd b r hr).same (k.block b (h.nd b r hr).lt (hd b (.inr (by rw [hr]; simp)))), h.ne⟩
theorem Mem.below {w w' : World} {g : Nat} {s : TS} (h : Mem w g s) (k : Below w.heap.size w w') : Mem w' g s := h.out (Out.below (D := fun _ => False) k) (fun _ _ q => q)

theorem Mem.set {w w' : World} {g : Nat} {s : TS} (h : Mem w g s) {b : Nat} {r : NR} (hn : NdC w' b r) (hbg : b ≠ g) (k : Out (fun i => i = b) w w') : Mem w' g (s.set b r) := by
  have e := k.block g h.lt (fun q => hbg q.symm)
  refine ⟨(World.cell?_of_block e).trans h.root, fun i hi => (World.cell?_of_block e).trans (h.lv i hi), (World.cell?_of_block e).trans h.cnt, fun j => (World.frozen?_of_block e).trans (h.free j), fun c x hx => ?_, ?_⟩
  · by_cases q : c = b
    · subst q
      rw [TS.set_eq] at hx
      cases hx; exact hn
    · rw [TS.set_ne _ _ q] at hx
      exact (h.nd c x hx).same (k.block c (h.nd c x hx).lt q)
  · rw [TS.set_ne _ _ (fun q => hbg q.symm)]; exact h.ne

def RetM (g : Nat) (s s' : TS) (v : Value) (w : World) (e : Ending) (w' : World) : Prop := e = .returned v ∧ Mem w' g s' ∧ Out (s.In g) w w'
end
end Go.Proofs.Ytiaoandbdgdecaa
