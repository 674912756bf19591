/- Parts of a proof: contracts and laws. -/
import Derived.Test.YtiaoandbdgdecaaPT08
namespace Go.Proofs.Ytiaoandbdgdecaa
section
set_option linter.unusedVariables false
set_option linter.unusedSimpArgs false
open Go.RowKit
def vldB (b : Bx) : Bool := decide (b.1.1 ≤ b.2.1 ∧ b.1.2 ≤ b.2.2)

def tchB (a b : Bx) : Bool := vldB a && (vldB b && (decide (a.1.1 ≤ b.2.1) && (decide (b.1.1 ≤ a.2.1) && (decide (a.1.2 ≤ b.2.2) && decide (b.1.2 ≤ a.2.2)))))
theorem tchB_iff {a b : Bx} : tchB a b = true ↔ (a.1.1 ≤ a.2.1 ∧ a.1.2 ≤ a.2.2) ∧ (b.1.1 ≤ b.2.1 ∧ b.1.2 ≤ b.2.2) ∧ a.1.1 ≤ b.2.1 ∧ b.1.1 ≤ a.2.1 ∧ a.1.2 ≤ b.2.2 ∧ b.1.2 ≤ a.2.2 := by
  unfold tchB vldB
  simp only [Bool.and_eq_true, decide_eq_true_iff]
def ltP (p q : Nat × Nat) : Prop := p.1 < q.1 ∨ (p.1 = q.1 ∧ p.2 < q.2)
instance (p q : Nat × Nat) : Decidable (ltP p q) := by unfold ltP; infer_instance
theorem ltP_irrefl {p : Nat × Nat} (h : ltP p p) : False := by unfold ltP at h; omega
theorem ltP_trans {p q r : Nat × Nat} (h : ltP p q) (k : ltP q r) : ltP p r := by unfold ltP at *; omega
theorem ltP_asymm {p q : Nat × Nat} (h : ltP p q) (k : ltP q p) : False := ltP_irrefl (ltP_trans h k)
theorem sorted_eq : ∀ {l m : List (Nat × Nat)}, l.Pairwise ltP → m.Pairwise ltP → (∀ p, p ∈ l ↔ p ∈ m) → l = m
  | [], [], _, _, _ => rfl
  | [], q :: m, _, _, h => by have := (h q).2 (List.mem_cons_self ..); cases this
  | p :: l, [], _, _, h => by have := (h p).1 (List.mem_cons_self ..); cases this
  | p :: l, q :: m, hl, hm, h => by
    rw [List.pairwise_cons] at hl hm
    have e : p = q := by
      rcases List.mem_cons.1 ((h p).1 (List.mem_cons_self ..)) with g | g
      · exact g
      · rcases List.mem_cons.1 ((h q).2 (List.mem_cons_self ..)) with k | k
        · exact k.symm
        · exact absurd (hm.1 p g) (fun a => ltP_asymm a (hl.1 q k))
    subst e
    have : l = m := sorted_eq hl.2 hm.2 fun r => by
      constructor
      · intro hr
        rcases List.mem_cons.1 ((h r).1 (List.mem_cons_of_mem _ hr)) with g | g
        · subst g; exact absurd (hl.1 r hr) ltP_irrefl
        · exact g
      · intro hr
        rcases List.mem_cons.1 ((h r).2 (List.mem_cons_of_mem _ hr)) with g | g
        · subst g; exact absurd (hm.1 r hr) ltP_irrefl
        · exact g
    rw [this]




theorem cmpPair_lt {p q : Nat × Nat} : cmpPair p q < 0 ↔ ltP p q := by
  unfold cmpPair Lib.compareInt ltP
  split <;> (repeat' split) <;> omega

end
end Go.Proofs.Ytiaoandbdgdecaa
namespace Go.Proofs.Ytiaoandbdgdecaa
section
set_option linter.unusedVariables false
set_option linter.unusedSimpArgs false
open Go.Shelf
open Go.RowKit Go.Sort Go.Lib

def layNat : Lay Nat := ⟨fun i => [.int .i64 i], 1, fun _ => rfl, fun x v hv => by simp at hv; subst hv; rfl, by omega⟩
theorem info_int' : (Try.prog.info? 3).map (fun i => (i.zero, i.size, i.bytes)) = some (some (.int .i64 0), 1, 8) := by kernel_rfl
theorem tyNat : TyE layNat 22 3 8 := ⟨Try.underlying22, by obtain ⟨i0, hi, hz0, hz1, hz2⟩ := info_parts info_int'; exact ⟨i0, .int .i64 0, hi, hz0, hz1, hz2, rfl⟩⟩
theorem info_pair : (Try.prog.info? 52).map (fun i => (i.zero, i.size, i.bytes)) = some (some (.agg #[.int .i64 0, .int .i64 0]), 2, 16) := by kernel_rfl
theorem tyPair : TyE layPair 37 52 16 := ⟨Try.underlying37, by obtain ⟨i0, hi, hz0, hz1, hz2⟩ := info_parts info_pair; exact ⟨i0, .agg #[.int .i64 0, .int .i64 0], hi, hz0, hz1, hz2, rfl⟩⟩
theorem OwnE.take {α : Type} {L : Lay α} {e : TypeId} {w : World} {B g n cap : Nat} {l : List α} (h : OwnE L e w B (.slice (some ⟨g, 0, none⟩) n cap) l) {m : Nat} (hm : m ≤ l.length) : OwnE L e w B (.slice (some ⟨g, 0, none⟩) m cap) (l.take m) := by
  obtain ⟨h1, ⟨h2, -⟩ | ⟨g', cap', cur, hv, hb, hg, hn, hmx, hsz, ht⟩⟩ := h
  · cases h2
  · cases hv
    have e1 : (l.take m).length = m := by rw [List.length_take]; omega
    refine ⟨flatE_len _, .inr ⟨g, cap, cur, by rw [e1], hb, hg, by rw [e1]; omega, hmx, hsz, ?_⟩⟩
    have e2 : flatE L l = flatE L (l.take m) ++ flatE L (l.drop m) := by rw [← flatE_append, List.take_append_drop]
    have e3 : m * L.k ≤ l.length * L.k := Nat.mul_le_mul_right _ hm
    have e4 : cur.toList.take (m * L.k) = (cur.toList.take (l.length * L.k)).take (m * L.k) := by rw [List.take_take, Nat.min_eq_left e3]
    rw [e1, e4, ht, e2, List.take_left' (by rw [flatE_len, e1])]
theorem permIn_list {α : Type} [Inhabited α] {d d' : Array α} (h : PermIn 0 d.size d d') : d'.toList.Perm d.toList ∧ d'.size = d.size := by
  obtain ⟨h1, -, h3⟩ := h
  refine ⟨?_, h1⟩
  have e1 : d.extract 0 d.size = d := by simp
  have e2 : d'.extract 0 d.size = d' := by rw [← h1]; simp
  rwa [e1, e2] at h3
theorem sortedIn_list {α : Type} [Inhabited α] {lt : α → α → Bool} {d : Array α} (h : SortedIn lt 0 d.size d) : d.toList.Pairwise fun a b => lt b a = false := by
  rw [List.pairwise_iff_getElem]
  intro i j hi hj hij
  have := h i j (Nat.zero_le _) hij (by simpa using hj)
  rw [getElem!_pos d j (by simpa using hj), getElem!_pos d i (by simpa using hi)] at this
  simpa using this

theorem OwnE.ne {α : Type} {L : Lay α} {e : TypeId} {w : World} {B : Nat} {v : Value} {l : List α} (h : OwnE L e w B v l) {g : Nat} (hg : g < B) : some g ≠ v.ownBlock := fun q => by
  have := (h.lt q.symm).1
  omega
set_option maxHeartbeats 1000000 in

set_option maxHeartbeats 1000000 in

set_option maxRecDepth 100000 in
set_option maxHeartbeats 2000000 in
set_option maxHeartbeats 1000000 in

end
end Go.Proofs.Ytiaoandbdgdecaa
namespace Go.Proofs.Ytiaoandbdgdecaa
section
set_option linter.unusedVariables false
set_option linter.unusedSimpArgs false
open Go.RowKit
abbrev bxV (b : Bx) : Value := .agg #[.int .i64 b.1.1, .int .i64 b.1.2, .int .i64 b.2.1, .int .i64 b.2.2]
set_option maxRecDepth 100000 in
theorem svalid_calls (x y u v : Int) (w : World) : Calls Try.prog 25 #[.agg #[.int .i64 x, .int .i64 y, .int .i64 u, .int .i64 v]] w (Ret (.bool (vldB ((x, y), (u, v)))) w) := by
  have HZ : Hid (vldB ((x, y), (u, v)) = decide (x ≤ u ∧ y ≤ v)) := rfl
  obtain ⟨z, hz⟩ : ∃ z, z = vldB ((x, y), (u, v)) := ⟨_, rfl⟩
  rw [← hz] at HZ ⊢
  clear hz
  by_cases h1 : x ≤ u
  · by_cases h2 : y ≤ v
    · have HR : Hid (z = true) := by show _ = _; rw [HZ.out]; exact decide_eq_true ⟨h1, h2⟩
      clear HZ
      go_enter Try.func25, Try.ntmps25
      go_wp2
      go_returns
      exact ret_bool (by rw [HR.out]; try simp [*]) (by go_grown)
    · have HR : Hid (z = false) := by show _ = _; rw [HZ.out]; exact decide_eq_false (fun h => h2 h.2)
      clear HZ
      go_enter Try.func25, Try.ntmps25
      go_wp2
      go_returns
      exact ret_bool (by rw [HR.out]; try simp [*]) (by go_grown)
  · have HR : Hid (z = false) := by show _ = _; rw [HZ.out]; exact decide_eq_false (fun h => h1 h.1)
    clear HZ
    go_enter Try.func25, Try.ntmps25
    go_wp2
    go_returns
    exact ret_bool (by rw [HR.out]; try simp [*]) (by go_grown)



structure PW (w0 : World) (gb : Nat) (hd : Value) (s : Value) (o : List Nat) (w : World) : Prop where
  cb : w.cell? ⟨gb, 0, none⟩ = some hd
  own : OwnE layNat 3 w (gb + 1) s o
  bel : Below w0.heap.size w0 w
  le : w0.heap.size ≤ gb
theorem PW.keep {w0 : World} {gb : Nat} {hd s : Value} {o : List Nat} {w w' : World} (hb : Below w.heap.size w w') (h : PW w0 gb hd s o w) : PW w0 gb hd s o w' := ⟨keepCell hb h.cb, h.own.below hb, keepBelow hb h.bel, h.le⟩
theorem PW.app {w0 : World} {gb : Nat} {hd s s' : Value} {o o' : List Nat} {w w' : World} (h : PW w0 gb hd s o w) (ho : OwnE layNat 3 w' (gb + 1) s' o') (hg : w.grownBy w' s.ownBlock) : PW w0 gb hd s' o' w' :=
  ⟨hg.cell h.cb (h.own.ne (Nat.lt_succ_self gb)), ho, h.bel.grown hg h.bel.size (fun k hk => by have := (h.own.lt hk).1; have := h.le; omega), h.le⟩

structure PX (w2 : World) (s : Value) (op : List Nat) (t : Value) (out : List (Nat × Nat)) (w : World) : Prop where
  o1 : OwnE layNat 3 w w2.heap.size s op
  o2 : OwnE layPair 52 w w2.heap.size t out
  dis : t.ownBlock = none ∨ t.ownBlock ≠ s.ownBlock
  bel : Below w2.heap.size w2 w
theorem PX.keep {w2 : World} {s t : Value} {op : List Nat} {out : List (Nat × Nat)} {w w' : World} (hb : Below w.heap.size w w') (h : PX w2 s op t out w) : PX w2 s op t out w' := ⟨h.o1.below hb, h.o2.below hb, h.dis, keepBelow hb h.bel⟩
theorem cells_pair {w : World} {b : Nat} {p : Nat × Nat} (h0 : w.cell? ⟨b, 0, none⟩ = some (.int .i64 p.1)) (h1 : w.cell? ⟨b, 1, none⟩ = some (.int .i64 p.2)) : CellsE layPair w b 0 [p] :=
  ⟨lt_of_cell h0, fun j hj m v hv => by
    obtain rfl : j = 0 := by simpa using hj
    match m, hv with
    | 0, hv => have e : some (Value.int .i64 (p.1 : Int)) = some v := hv; cases e; simpa [layPair] using h0
    | 1, hv => have e : some (Value.int .i64 (p.2 : Int)) = some v := hv; cases e; simpa [layPair] using h1
    | m + 2, hv => simp [layPair] at hv⟩

structure PY (w2 : World) (gi i : Nat) (s : Value) (op : List Nat) (t : Value) (out : List (Nat × Nat)) (w : World) : Prop where
  px : PX w2 s op t out w
  ci : w.cell? ⟨gi, 0, none⟩ = some (.int .i64 i)
  ns : ∀ k, s.ownBlock = some k → k ≠ gi
  nt : ∀ k, t.ownBlock = some k → k ≠ gi
theorem PY.keep {w2 : World} {gi i : Nat} {s t : Value} {op : List Nat} {out : List (Nat × Nat)} {w w' : World} (hb : Below w.heap.size w w') (h : PY w2 gi i s op t out w) : PY w2 gi i s op t out w' := ⟨h.px.keep hb, keepCell hb h.ci, h.ns, h.nt⟩
set_option maxRecDepth 100000 in
set_option maxHeartbeats 8000000 in
end
end Go.Proofs.Ytiaoandbdgdecaa
