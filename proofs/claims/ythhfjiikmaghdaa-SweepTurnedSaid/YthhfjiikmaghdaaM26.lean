/- Plain mathematics: the pairs between two lists of boxes, and the pairs of a list that is turned round. No program is in sight. -/
import Derived.Test.YthhfjiikmaghdaaM25
namespace Go.Proofs.Ythhfjiikmaghdaa
set_option linter.unusedVariables false
set_option linter.unusedSimpArgs false
open Go.RowKit

/-- a list of different pairs, sorted -/
theorem sorted_of {r : List (Nat × Nat)} (hn : r.Nodup) (hrs : r.Pairwise fun p q => ¬ cmpPair q p < 0) : r.Pairwise ltP := by
  refine (hrs.and hn).imp fun {p q} hh => ?_
  obtain ⟨g1, g2⟩ := hh
  rw [cmpPair_lt] at g1
  unfold ltP at *
  rcases Nat.lt_trichotomy p.1 q.1 with a | a | a
  · exact .inl a
  · rcases Nat.lt_trichotomy p.2 q.2 with c | c | c
    · exact .inr ⟨a, c⟩
    · exact absurd (by ext <;> assumption) g2
    · exact absurd (.inr ⟨a.symm, c⟩) g1
  · exact absurd (.inl a) g1
theorem pairs_nodup (l : List Bx) : (pairsL l).Nodup := (pairs_sorted l).imp fun {p q} h e => by subst e; exact ltP_irrefl h
/-- the pairs that have one box of each of two lists, as sweep finds them -/
def cutP (n : Nat) (r : List (Nat × Nat)) : List (Nat × Nat) := (r.filter fun p => decide (p.1 < n) && decide (n ≤ p.2)).map fun p => (p.1, p.2 - n)
def btw (l m : List Bx) : List (Nat × Nat) := cutP l.length (pairsL (l ++ m))
/-- the same pairs by two loops -/
def rowQ (l m : List Bx) (i k : Nat) : List (Nat × Nat) := ((List.range k).filter fun k => tchB (bxAt l i) (bxAt m k)).map fun k => (i, k)
def betTo (l m : List Bx) (i : Nat) : List (Nat × Nat) := (List.range i).flatMap fun i => rowQ l m i m.length
theorem mem_rowQ {l m : List Bx} {i k : Nat} {p : Nat × Nat} : p ∈ rowQ l m i k ↔ p.1 = i ∧ p.2 < k ∧ tchB (bxAt l i) (bxAt m p.2) = true := by
  unfold rowQ
  simp only [List.mem_map, List.mem_filter, List.mem_range]
  constructor
  · rintro ⟨k, ⟨h1, h3⟩, rfl⟩
    exact ⟨rfl, h1, h3⟩
  · rintro ⟨h1, h2, h3⟩
    exact ⟨p.2, ⟨h2, h3⟩, by rw [← h1]⟩
theorem mem_bet {l m : List Bx} {i : Nat} {p : Nat × Nat} : p ∈ betTo l m i ↔ p.1 < i ∧ p.2 < m.length ∧ tchB (bxAt l p.1) (bxAt m p.2) = true := by
  unfold betTo
  simp only [List.mem_flatMap, List.mem_range, mem_rowQ]
  constructor
  · rintro ⟨j, h, rfl, h1, h2⟩
    exact ⟨h, h1, h2⟩
  · rintro ⟨h1, h2, h3⟩
    exact ⟨p.1, h1, rfl, h2, h3⟩
theorem bet_sorted (l m : List Bx) (i : Nat) : (betTo l m i).Pairwise ltP := by
  unfold betTo
  rw [List.pairwise_flatMap]
  refine ⟨fun i _ => ?_, List.pairwise_lt_range.imp fun {i j} h => fun x hx y hy => ?_⟩
  · unfold rowQ
    rw [List.pairwise_map]
    exact (List.Pairwise.filter _ List.pairwise_lt_range).imp fun h => .inr ⟨rfl, h⟩
  · have h1 := (mem_rowQ.1 hx).1
    have h2 := (mem_rowQ.1 hy).1
    exact .inl (by omega)
theorem bxAt_left {l m : List Bx} {i : Nat} (h : i < l.length) : bxAt (l ++ m) i = bxAt l i := by
  unfold bxAt
  simp [List.getD_eq_getElem?_getD, List.getElem?_append_left h]
theorem bxAt_right {l m : List Bx} {i : Nat} (h : l.length ≤ i) : bxAt (l ++ m) i = bxAt m (i - l.length) := by
  unfold bxAt
  simp [List.getD_eq_getElem?_getD, List.getElem?_append_right h]
theorem mem_cut {n : Nat} {r : List (Nat × Nat)} {p : Nat × Nat} : p ∈ cutP n r ↔ p.1 < n ∧ (p.1, p.2 + n) ∈ r := by
  unfold cutP
  simp only [List.mem_map, List.mem_filter, Bool.and_eq_true, decide_eq_true_iff]
  constructor
  · rintro ⟨q, ⟨h1, h2, h3⟩, rfl⟩
    refine ⟨h2, ?_⟩
    dsimp only
    rw [Nat.sub_add_cancel h3]
    exact h1
  · rintro ⟨h1, h2⟩
    exact ⟨_, ⟨h2, h1, by dsimp only; omega⟩, by ext <;> dsimp only; omega⟩
theorem mem_btw {l m : List Bx} {p : Nat × Nat} : p ∈ btw l m ↔ p.1 < l.length ∧ p.2 < m.length ∧ tchB (bxAt l p.1) (bxAt m p.2) = true := by
  unfold btw
  rw [mem_cut, mem_pairs]
  dsimp only
  rw [List.length_append]
  constructor
  · rintro ⟨h1, h2, h3, h4⟩
    rw [bxAt_left h1, bxAt_right (by omega), Nat.add_sub_cancel] at h4
    exact ⟨h1, by omega, h4⟩
  · rintro ⟨h1, h2, h3⟩
    refine ⟨h1, by omega, by omega, ?_⟩
    rw [bxAt_left h1, bxAt_right (by omega), Nat.add_sub_cancel]
    exact h3
theorem cut_sorted {n : Nat} {r : List (Nat × Nat)} (h : r.Pairwise ltP) : (cutP n r).Pairwise ltP := by
  unfold cutP
  rw [List.pairwise_map, List.pairwise_filter]
  refine h.imp fun {p q} h hp hq => ?_
  rw [Bool.and_eq_true, decide_eq_true_iff, decide_eq_true_iff] at hp hq
  unfold ltP at *
  dsimp only
  omega
theorem btw_sorted (l m : List Bx) : (btw l m).Pairwise ltP := cut_sorted (pairs_sorted _)
/-- both ways find the same pairs -/
theorem btw_law (l m : List Bx) : btw l m = betTo l m l.length := sorted_eq (btw_sorted l m) (bet_sorted l m _) fun p => by rw [mem_btw, mem_bet]
theorem betTo_succ (l m : List Bx) (i : Nat) : betTo l m (i + 1) = betTo l m i ++ rowQ l m i m.length := by unfold betTo; rw [List.range_succ, List.flatMap_append]; simp
theorem rowQ_succ (l m : List Bx) (i k : Nat) : rowQ l m i (k + 1) = rowQ l m i k ++ (if tchB (bxAt l i) (bxAt m k) = true then [(i, k)] else []) := by
  unfold rowQ
  rw [List.range_succ, List.filter_append, List.map_append]
  congr 1
  by_cases h : tchB (bxAt l i) (bxAt m k) = true <;> simp [h]
theorem prsTo_succ (l : List Bx) (i : Nat) : prsTo l (i + 1) = prsTo l i ++ rowP l i l.length := by unfold prsTo; rw [List.range_succ, List.flatMap_append]; simp
theorem rowP_succ (l : List Bx) (i k : Nat) : rowP l i (k + 1) = rowP l i k ++ (if i < k ∧ tchB (bxAt l i) (bxAt l k) = true then [(i, k)] else []) := by
  unfold rowP
  rw [List.range_succ, List.filter_append, List.map_append]
  congr 1
  by_cases h : i < k <;> by_cases h' : tchB (bxAt l i) (bxAt l k) = true <;> simp [h, h']
theorem rowP_low (l : List Bx) {i k : Nat} (h : k ≤ i + 1) : rowP l i k = [] := by
  unfold rowP
  rw [List.map_eq_nil_iff, List.filter_eq_nil_iff]
  intro a ha
  rw [List.mem_range] at ha
  simp
  omega
theorem cutP_take {n : Nat} {r : List (Nat × Nat)} {k : Nat} (h : k < r.length) : cutP n (r.take (k + 1)) = cutP n (r.take k) ++ (if r[k].1 < n ∧ n ≤ r[k].2 then [(r[k].1, r[k].2 - n)] else []) := by
  unfold cutP
  rw [List.take_add_one, List.filter_append, List.map_append]
  congr 1
  simp only [List.getElem?_eq_getElem h, Option.toList]
  by_cases h1 : r[k].1 < n <;> by_cases h2 : n ≤ r[k].2 <;> simp [h1, h2]
/-- the pairs of the boxes in reverse order, in the old numbers -/
def turnP (n : Nat) (p : Nat × Nat) : Nat × Nat := (n - 1 - p.2, n - 1 - p.1)
theorem bxAt_rev {l : List Bx} {i : Nat} (h : i < l.length) : bxAt l.reverse i = bxAt l (l.length - 1 - i) := by
  unfold bxAt
  simp [List.getD_eq_getElem?_getD, List.getElem?_reverse h]
theorem turned_law {l : List Bx} {r : List (Nat × Nat)} (hp : r.Perm ((pairsL l.reverse).map (turnP l.length))) (hs : r.Pairwise fun p q => ¬ cmpPair q p < 0) : r = pairsL l := by
  have hm : ∀ p, p ∈ pairsL l.reverse ↔ p.1 < p.2 ∧ p.2 < l.length ∧ tchB (bxAt l (l.length - 1 - p.1)) (bxAt l (l.length - 1 - p.2)) = true := fun p => by
    rw [mem_pairs, List.length_reverse]
    constructor
    · rintro ⟨h1, h2, h3⟩
      rw [bxAt_rev (by omega), bxAt_rev (by omega)] at h3
      exact ⟨h1, h2, h3⟩
    · rintro ⟨h1, h2, h3⟩
      rw [bxAt_rev (by omega), bxAt_rev (by omega)]
      exact ⟨h1, h2, h3⟩
  have hn : r.Nodup := hp.nodup_iff.2 (by
    rw [List.nodup_iff_pairwise_ne, List.pairwise_map]
    refine List.Pairwise.imp_of_mem (fun {p q} hp hq h e => h ?_) (pairs_nodup l.reverse)
    rw [hm] at hp hq
    unfold turnP at e
    have e1 := congrArg Prod.fst e
    have e2 := congrArg Prod.snd e
    dsimp only at e1 e2
    ext <;> omega)
  refine sorted_eq (sorted_of hn hs) (pairs_sorted l) fun p => ?_
  rw [hp.mem_iff, List.mem_map, mem_pairs]
  constructor
  · rintro ⟨q, h, rfl⟩
    rw [hm] at h
    unfold turnP
    dsimp only
    rw [tchB_comm]
    exact ⟨by omega, by omega, h.2.2⟩
  · rintro ⟨h1, h2, h3⟩
    refine ⟨(l.length - 1 - p.2, l.length - 1 - p.1), (hm _).2 ⟨by dsimp only; omega, by dsimp only; omega, ?_⟩, ?_⟩
    · dsimp only
      rw [show l.length - 1 - (l.length - 1 - p.2) = p.2 by omega, show l.length - 1 - (l.length - 1 - p.1) = p.1 by omega, tchB_comm]
      exact h3
    · unfold turnP
      ext <;> dsimp only <;> omega
def swapP (p : Nat × Nat) : Nat × Nat := (p.2, p.1)
theorem swapped_law {l m : List Bx} {r : List (Nat × Nat)} (hp : r.Perm ((btw m l).map swapP)) (hs : r.Pairwise fun p q => ¬ cmpPair q p < 0) : r = btw l m := by
  have hb : (btw m l).Nodup := (btw_sorted m l).imp fun {p q} h e => by subst e; exact ltP_irrefl h
  have hn : r.Nodup := hp.nodup_iff.2 (by
    rw [List.nodup_iff_pairwise_ne, List.pairwise_map]
    refine hb.imp (fun {p q} h e => h ?_)
    unfold swapP at e
    have e1 := congrArg Prod.fst e
    have e2 := congrArg Prod.snd e
    dsimp only at e1 e2
    ext <;> assumption)
  refine sorted_eq (sorted_of hn hs) (btw_sorted l m) fun p => ?_
  rw [hp.mem_iff, List.mem_map, mem_btw]
  constructor
  · rintro ⟨q, h, rfl⟩
    rw [mem_btw] at h
    unfold swapP
    dsimp only
    rw [tchB_comm]
    exact ⟨h.2.1, h.1, h.2.2⟩
  · rintro ⟨h1, h2, h3⟩
    refine ⟨(p.2, p.1), mem_btw.2 ⟨h2, h1, ?_⟩, rfl⟩
    rw [tchB_comm]
    exact h3

end Go.Proofs.Ythhfjiikmaghdaa
