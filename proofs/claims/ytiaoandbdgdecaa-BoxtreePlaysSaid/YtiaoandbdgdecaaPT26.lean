/- Parts of a proof: contracts and laws. -/
import Derived.Test.YtiaoandbdgdecaaPT25
namespace Go.Proofs.Ytiaoandbdgdecaa
section
set_option linter.unusedVariables false
set_option linter.unusedSimpArgs false
open Go.RowKit
abbrev ndCells (x y u v id ht : Int) (up k0 k1 : Option Addr) : Array Value := #[.int .i64 x, .int .i64 y, .int .i64 u, .int .i64 v, .int .i64 id, .int .i64 ht, .pointer up, .pointer k0, .pointer k1]
theorem Mem.alloc {w : World} {g : Nat} {s : TS} (h : Mem w g s) (x y u v id ht : Int) (up k0 k1 : Option Addr) (t : TypeId) :
    Mem (w.alloc (.cells (ndCells x y u v id ht up k0 k1) t)) g (s.set w.heap.size ⟨((x, y), (u, v)), id, ht, up, k0, k1⟩) := by
  have hh := heap_alloc_new w (.cells (ndCells x y u v id ht up k0 k1) t)
  have hb : Below w.heap.size w (w.alloc (.cells (ndCells x y u v id ht up k0 k1) t)) := by go_grown
  have hm := h.below hb
  have hg := h.lt
  have hn : NdC (w.alloc (.cells (ndCells x y u v id ht up k0 k1) t)) w.heap.size ⟨((x, y), (u, v)), id, ht, up, k0, k1⟩ := by
    refine ⟨by go_simp, by go_simp, by go_simp, by go_simp, by go_simp, by go_simp, by go_simp, by go_simp, by go_simp, fun j => ?_, ⟨_, _, hh⟩⟩
    unfold World.frozen?
    rw [hh]
    simp
  refine ⟨hm.root, hm.lv, hm.cnt, hm.free, fun b r hr => ?_, ?_⟩
  · by_cases q : b = w.heap.size
    · subst q
      rw [TS.set_eq] at hr
      cases hr; exact hn
    · rw [TS.set_ne _ _ q] at hr
      exact hm.nd b r hr
  · rw [TS.set_ne _ _ (by omega)]; exact h.ne
theorem Mem.setLv {w : World} {g : Nat} {s : TS} (h : Mem w g s) {i : Nat} (hi : i < 256) (a : Option Addr) : Mem (w.setCell ⟨g, 1 + i, none⟩ (.pointer a)) g { s with lv := fun k => if k = i then a else s.lv k } := by
  refine ⟨cell_neB h.root (by omega), fun k hk => ?_, cell_neB h.cnt (by omega), frz_set h.free _ _, fun b x hx => (h.nd b x hx).same (Below.heap_setCell w _ _ _ (h.neq hx)), h.ne⟩
  show _ = some (Value.pointer (if k = i then a else s.lv k))
  by_cases q : k = i
  · subst q
    rw [if_pos rfl]
    exact cell_eqB (h.lv k hk)
  · rw [if_neg q]
    exact cell_neB (h.lv k hk) (by omega)
theorem Mem.setCnt {w : World} {g : Nat} {s : TS} (h : Mem w g s) (z : Int) : Mem (w.setCell ⟨g, 257, none⟩ (.int .i64 z)) g { s with cnt := z } :=
  ⟨cell_neB h.root (by omega), fun i hi => cell_neB (h.lv i hi) (by omega), cell_eqB h.cnt, frz_set h.free _ _, fun b x hx => (h.nd b x hx).same (Below.heap_setCell w _ _ _ (h.neq hx)), h.ne⟩

def lvsO : Option TB → List (Nat × (Nat × Bx))
  | none => []
  | some t => t.lvs
structure WF (s : TS) (T : Option TB) : Prop where
  root : match T with | none => s.root = none | some t => s.root = pA t.root ∧ t.Rp s none ∧ t.blocks.Nodup ∧ t.tr.Avl
  ids : ((lvsO T).map (fun x => x.2.1)).Nodup
  lt : ∀ x ∈ lvsO T, x.2.1 < 256
  lv : ∀ x ∈ lvsO T, s.lv x.2.1 = pA x.1
  no : ∀ i, i < 256 → (∀ x ∈ lvsO T, x.2.1 ≠ i) → s.lv i = none
  cnt : s.cnt = ((lvsO T).length : Nat)
theorem wf0 : WF TS0 none := ⟨rfl, List.nodup_nil, fun x hx => (by cases hx), fun x hx => (by cases hx), fun i _ _ => rfl, rfl⟩

theorem nodup_le : ∀ (n : Nat) (l : List Nat), l.Nodup → (∀ x ∈ l, x < n) → l.length ≤ n
  | 0, l, _, h => by
    cases l with
    | nil => exact Nat.le_refl _
    | cons a r => exact absurd (h a (by simp)) (by omega)
  | n + 1, l, hd, h => by
    have h1 := nodup_le n (l.erase n) (hd.erase n) (fun x hx => by
      have h2 := h x (List.mem_of_mem_erase hx)
      have h3 : x ≠ n := fun e => by rw [e] at hx; exact (List.Nodup.not_mem_erase hd) hx
      omega)
    by_cases e : n ∈ l
    · rw [List.length_erase_of_mem e] at h1; omega
    · rw [List.erase_of_not_mem e] at h1; omega
theorem leaves_lvs : ∀ t : TB, t.tr.leaves = t.lvs.length
  | .lf _ _ _ => rfl
  | .nd _ l r => by
    show l.tr.leaves + r.tr.leaves = (l.lvs ++ r.lvs).length
    rw [List.length_append, leaves_lvs l, leaves_lvs r]
theorem WF.ht {s : TS} {t : TB} (h : WF s (some t)) : t.tr.ht ≤ 11 := by
  refine ht_low h.root.2.2.2 ?_
  rw [leaves_lvs]
  have := nodup_le 256 _ h.ids (fun x hx => by
    obtain ⟨y, hy, rfl⟩ := List.mem_map.1 hx
    exact h.lt y hy)
  rwa [List.length_map] at this
end
end Go.Proofs.Ytiaoandbdgdecaa
namespace Go.Proofs.Ytiaoandbdgdecaa
section
set_option linter.unusedVariables false
set_option linter.unusedSimpArgs false
open Go.RowKit
def RetPut (g : Nat) (s : TS) (T : Option TB) (i : Nat) (b : Bx) (w : World) (e : Ending) (w' : World) : Prop := ∃ s' T' gl, e = .returned (.int .i64 0) ∧ Mem w' g s' ∧ Out (s.In g) w w' ∧ WF s' (some T') ∧ T'.lvs.Perm ((gl, (i, b)) :: lvsO T) ∧ (∀ k, s'.In g k → s.In g k ∨ w.heap.size ≤ k)
set_option maxRecDepth 100000 in
set_option maxHeartbeats 4000000 in
end
end Go.Proofs.Ytiaoandbdgdecaa
namespace Go.Proofs.Ytiaoandbdgdecaa
section
set_option linter.unusedVariables false
set_option linter.unusedSimpArgs false
open Go.RowKit

def htOf (w : World) : Value → Nat
  | .pointer (some a) => (intOf ((w.cell? ⟨a.block, 5, none⟩).getD undef)).toNat
  | _ => 0

structure Dn (s : TS) (g : Nat) (t : TB) (C : List Fr) (x : TB) (w wr : World) : Prop where
  zip : zipT C x = t
  tree : x.Rp s (upC C)
  cx : CxR s C (upC C) x.root
  mem : Mem wr g s
  bel : Below w.heap.size w wr
theorem Dn.left {s : TS} {g p : Nat} {t l r : TB} {C : List Fr} {w wr wn : World} (h : Dn s g t C (TB.nd p l r) w wr) (hb : Below wr.heap.size wr wn) : Dn s g t (frL p l r :: C) l w wn :=
  ⟨h.zip, (cx_down h.tree h.cx).1.1, (cx_down h.tree h.cx).1.2, h.mem.below hb, keepBelow hb h.bel⟩
theorem Dn.right {s : TS} {g p : Nat} {t l r : TB} {C : List Fr} {w wr wn : World} (h : Dn s g t C (TB.nd p l r) w wr) (hb : Below wr.heap.size wr wn) : Dn s g t (frR p l r :: C) r w wn :=
  ⟨h.zip, (cx_down h.tree h.cx).2.1, (cx_down h.tree h.cx).2.2, h.mem.below hb, keepBelow hb h.bel⟩
end
end Go.Proofs.Ytiaoandbdgdecaa
