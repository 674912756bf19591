/- Parts of a proof: contracts and laws. -/
import Derived.Test.YtiaoandbdgdecaaPT46
namespace Go.Proofs.Ytiaoandbdgdecaa
section
set_option linter.unusedVariables false
set_option linter.unusedSimpArgs false
open Go.RowKit

def hasL (H : Nat → Bool) : List Value := (List.range 256).map fun i => Value.bool (H i)
def bxL (X : Nat → Bx) : List Bx := (List.range 256).map X
def hasV (H : Nat → Bool) : Array Value := (hasL H).toArray
def bxsV (X : Nat → Bx) : Array Value := (flatE layBox (bxL X)).toArray
def FofH (H : Nat → Bool) (X : Nat → Bx) : Nat → Option Bx := fun i => if i < 256 ∧ H i = true then some (X i) else none
theorem has_at {H : Nat → Bool} {k : Nat} (hk : k < 256) : (hasL H)[k]? = some (.bool (H k)) := by
  unfold hasL
  rw [List.getElem?_map, List.getElem?_range hk]
  rfl
theorem bxL_len (X : Nat → Bx) : (bxL X).length = 256 := by simp [bxL]
theorem bxL_at {X : Nat → Bx} {k : Nat} (hk : k < 256) : bxAt (bxL X) k = X k := by
  unfold bxAt bxL
  rw [List.getD_eq_getElem?_getD, List.getElem?_map, List.getElem?_range hk]
  rfl
def hitH (H : Nat → Bool) (X : Nat → Bx) (b : Bx) (k : Nat) : List Nat := (List.range k).filter fun i => H i && tchB (X i) b
def rowH (H : Nat → Bool) (X : Nat → Bx) (i m : Nat) : List (Nat × Nat) := ((List.range m).filter fun k => decide (i < k) && (H i && (H k && tchB (X i) (X k)))).map fun k => (i, k)
def allH (H : Nat → Bool) (X : Nat → Bx) (n : Nat) : List (Nat × Nat) := (List.range n).flatMap fun i => rowH H X i 256
theorem hitH_succ (H : Nat → Bool) (X : Nat → Bx) (b : Bx) (k : Nat) : hitH H X b (k + 1) = hitH H X b k ++ (if (H k && tchB (X k) b) = true then [k] else []) := by
  unfold hitH
  rw [List.range_succ, List.filter_append]
  congr 1
  rw [List.filter_cons, List.filter_nil]
theorem rowH_succ (H : Nat → Bool) (X : Nat → Bx) (i m : Nat) (h : i < m) : rowH H X i (m + 1) = rowH H X i m ++ (if (H i && (H m && tchB (X i) (X m))) = true then [(i, m)] else []) := by
  unfold rowH
  rw [List.range_succ, List.filter_append, List.map_append]
  congr 1
  rw [List.filter_cons, List.filter_nil]
  have e : decide (i < m) = true := decide_eq_true h
  rw [e, Bool.true_and]
  split <;> rfl
theorem rowH_start (H : Nat → Bool) (X : Nat → Bx) (i : Nat) : rowH H X i (i + 1) = [] := by
  unfold rowH
  rw [List.map_eq_nil_iff, List.filter_eq_nil_iff]
  intro k hk
  rw [List.mem_range] at hk
  have e : decide (i < k) = false := decide_eq_false (by omega)
  rw [e]
  simp
theorem allH_succ (H : Nat → Bool) (X : Nat → Bx) (n : Nat) : allH H X (n + 1) = allH H X n ++ rowH H X n 256 := by
  unfold allH
  rw [List.range_succ, List.flatMap_append, List.flatMap_cons, List.flatMap_nil, List.append_nil]
theorem hitH_all (H : Nat → Bool) (X : Nat → Bx) (b : Bx) : hitH H X b 256 = hitF (FofH H X) (fun x => tchB x b) := by
  unfold hitH hitF
  refine List.filter_congr fun i hi => ?_
  rw [List.mem_range] at hi
  unfold FofH
  cases h : H i <;> simp [hi, h]
theorem rowH_all (H : Nat → Bool) (X : Nat → Bx) {i : Nat} (hi : i < 256) : rowH H X i 256 = rowF (FofH H X) tchB i := by
  unfold rowH rowF
  cases h : H i with
  | false =>
    have e : FofH H X i = none := by unfold FofH; rw [if_neg (by rw [h]; simp)]
    rw [e]
    simp
  | true =>
    have e : FofH H X i = some (X i) := by unfold FofH; rw [if_pos ⟨hi, h⟩]
    rw [e]
    show _ = ((hitF (FofH H X) (fun x => tchB x (X i))).filter fun k => decide (i < k)).map fun k => (i, k)
    unfold hitF
    rw [List.filter_filter]
    congr 1
    refine List.filter_congr fun k hk => ?_
    rw [List.mem_range] at hk
    unfold FofH
    cases h2 : H k with
    | false => simp [hk, h2]
    | true => simp [hk, h2]; rw [tchB_comm]
theorem allH_all (H : Nat → Bool) (X : Nat → Bx) : allH H X 256 = prsF (FofH H X) tchB 256 := by
  have : ∀ n, n ≤ 256 → allH H X n = prsF (FofH H X) tchB n := fun n hn => by
    induction n with
    | zero => rfl
    | succ n ih => rw [allH_succ, prs_succ, ih (by omega), rowH_all H X (by omega)]
  exact this 256 (Nat.le_refl _)
theorem hitH_len (H : Nat → Bool) (X : Nat → Bx) (b : Bx) (k : Nat) : (hitH H X b k).length ≤ k := by
  unfold hitH
  exact Nat.le_trans (List.length_filter_le _ _) (by simp)
theorem rowH_len (H : Nat → Bool) (X : Nat → Bx) (i m : Nat) : (rowH H X i m).length ≤ m := by
  unfold rowH
  rw [List.length_map]
  exact Nat.le_trans (List.length_filter_le _ _) (by simp)
theorem allH_len (H : Nat → Bool) (X : Nat → Bx) : ∀ n, (allH H X n).length ≤ n * 256
  | 0 => Nat.le_refl _
  | n + 1 => by
    have ih := allH_len H X n
    have h2 := rowH_len H X n 256
    rw [allH_succ, List.length_append]
    omega

structure FoS (wB : World) (l1 l2 : List Nat) (l3 : List (Nat × Nat)) (s1 s2 s3 : Value) (w : World) : Prop where
  o1 : OwnE layNat 3 w wB.heap.size s1 l1
  o2 : OwnE layNat 3 w wB.heap.size s2 l2
  o3 : OwnE layPair 52 w wB.heap.size s3 l3
  d12 : ∀ k, s1.ownBlock = some k → s2.ownBlock ≠ some k
  d13 : ∀ k, s1.ownBlock = some k → s3.ownBlock ≠ some k
  d23 : ∀ k, s2.ownBlock = some k → s3.ownBlock ≠ some k
  bel : Below wB.heap.size wB w
theorem FoS.keep {wB : World} {l1 l2 : List Nat} {l3 : List (Nat × Nat)} {s1 s2 s3 : Value} {w w' : World} (hb : Below w.heap.size w w') (h : FoS wB l1 l2 l3 s1 s2 s3 w) : FoS wB l1 l2 l3 s1 s2 s3 w' :=
  ⟨h.o1.below hb, h.o2.below hb, h.o3.below hb, h.d12, h.d13, h.d23, keepBelow hb h.bel⟩
theorem dis_row {s t : Value} (h : ∀ k, s.ownBlock = some k → t.ownBlock ≠ some k) : s.ownBlock = none ∨ s.ownBlock ≠ t.ownBlock := by
  cases e : s.ownBlock with
  | none => exact .inl rfl
  | some k => exact .inr fun q => h k e q.symm
theorem dis_new {α : Type} {L : Lay α} {ty : TypeId} {w : World} {B : Nat} {s s' t : Value} {l : List α} (ht : OwnE L ty w B t l) (hd : ∀ k, s.ownBlock = some k → t.ownBlock ≠ some k) (hat : s'.ownBlock = s.ownBlock ∨ s'.ownBlock = some w.heap.size) : ∀ k, s'.ownBlock = some k → t.ownBlock ≠ some k := fun k h1 h2 => by
  rcases hat with e | e
  · exact hd k (by rw [← e]; exact h1) h2
  · rw [e] at h1
    cases h1
    have := (ht.lt h2).2
    omega
theorem FoS.app1 {wB : World} {l1 l1' l2 : List Nat} {l3 : List (Nat × Nat)} {s1 s1' s2 s3 : Value} {w w' : World} (h : FoS wB l1 l2 l3 s1 s2 s3 w) (ho : OwnE layNat 3 w' wB.heap.size s1' l1') (hg : w.grownBy w' s1.ownBlock) (hat : s1'.ownBlock = s1.ownBlock ∨ s1'.ownBlock = some w.heap.size) : FoS wB l1' l2 l3 s1' s2 s3 w' :=
  ⟨ho, h.o2.kept hg (dis_row fun k q1 q2 => h.d12 k q2 q1), h.o3.kept hg (dis_row fun k q1 q2 => h.d13 k q2 q1), dis_new h.o2 h.d12 hat, dis_new h.o3 h.d13 hat, h.d23, h.bel.grown hg h.bel.size (fun k hk => (h.o1.lt hk).1)⟩
theorem FoS.app2 {wB : World} {l1 l2 l2' : List Nat} {l3 : List (Nat × Nat)} {s1 s2 s2' s3 : Value} {w w' : World} (h : FoS wB l1 l2 l3 s1 s2 s3 w) (ho : OwnE layNat 3 w' wB.heap.size s2' l2') (hg : w.grownBy w' s2.ownBlock) (hat : s2'.ownBlock = s2.ownBlock ∨ s2'.ownBlock = some w.heap.size) : FoS wB l1 l2' l3 s1 s2' s3 w' :=
  ⟨h.o1.kept hg (dis_row h.d12), ho, h.o3.kept hg (dis_row fun k q1 q2 => h.d23 k q2 q1), fun k q1 q2 => dis_new h.o1 (fun k a b => h.d12 k b a) hat k q2 q1, h.d13, dis_new h.o3 h.d23 hat, h.bel.grown hg h.bel.size (fun k hk => (h.o2.lt hk).1)⟩
theorem FoS.app3 {wB : World} {l1 l2 : List Nat} {l3 l3' : List (Nat × Nat)} {s1 s2 s3 s3' : Value} {w w' : World} (h : FoS wB l1 l2 l3 s1 s2 s3 w) (ho : OwnE layPair 52 w' wB.heap.size s3' l3') (hg : w.grownBy w' s3.ownBlock) (hat : s3'.ownBlock = s3.ownBlock ∨ s3'.ownBlock = some w.heap.size) : FoS wB l1 l2 l3' s1 s2 s3' w' :=
  ⟨h.o1.kept hg (dis_row h.d13), h.o2.kept hg (dis_row h.d23), ho, h.d12, fun k q1 q2 => dis_new h.o1 (fun k a b => h.d13 k b a) hat k q2 q1, fun k q1 q2 => dis_new h.o2 (fun k a b => h.d23 k b a) hat k q2 q1, h.bel.grown hg h.bel.size (fun k hk => (h.o3.lt hk).1)⟩
theorem cells_nat1 {w : World} {b i : Nat} (h : w.cell? ⟨b, 0, none⟩ = some (.int .i64 (i : Nat))) : CellsE layNat w b 0 [i] :=
  ⟨lt_of_cell h, fun j hj m v hv => by
    obtain rfl : j = 0 := by simpa using hj
    match m, hv with
    | 0, hv => have e : some (Value.int .i64 (i : Nat)) = some v := hv; cases e; simpa [layNat] using h
    | m + 1, hv => simp [layNat] at hv⟩
end
end Go.Proofs.Ytiaoandbdgdecaa
