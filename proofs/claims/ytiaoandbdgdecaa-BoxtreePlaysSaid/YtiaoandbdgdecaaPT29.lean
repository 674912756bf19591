/- Parts of a proof: contracts and laws. -/
import Derived.Test.YtiaoandbdgdecaaPT28
namespace Go.Proofs.Ytiaoandbdgdecaa
section
set_option linter.unusedVariables false
set_option linter.unusedSimpArgs false
open Go.RowKit

def fxL (l : List (Nat × (Nat × Bx))) (i : Nat) : Option Bx := (l.find? (fun y => decide (y.2.1 = i))).map (fun y => y.2.2)
def bxO (T : Option TB) (i : Nat) : Option Bx := fxL (lvsO T) i
abbrev idsL (l : List (Nat × (Nat × Bx))) : List Nat := l.map (fun y => y.2.1)
theorem fx_some {l : List (Nat × (Nat × Bx))} (hd : (idsL l).Nodup) {i : Nat} {b : Bx} : fxL l i = some b ↔ ∃ g, (g, (i, b)) ∈ l := by
  induction l with
  | nil => constructor
           · intro h; cases h
           · rintro ⟨g, h⟩; cases h
  | cons y r ih =>
    obtain ⟨g, j, c⟩ := y
    obtain ⟨hn, hd⟩ := List.nodup_cons.1 hd
    have ih := ih hd
    by_cases e : j = i
    · subst e
      have e1 : fxL ((g, (j, c)) :: r) j = some c := by simp [fxL]
      rw [e1]
      constructor
      · intro h; cases h; exact ⟨g, by simp⟩
      · rintro ⟨g', h⟩
        rcases List.mem_cons.1 h with q | q
        · cases q; rfl
        · exact absurd (List.mem_map.2 ⟨_, q, rfl⟩) hn
    · have e1 : fxL ((g, (j, c)) :: r) i = fxL r i := by simp [fxL, e]
      rw [e1, ih]
      constructor
      · rintro ⟨g', h⟩; exact ⟨g', List.mem_cons_of_mem _ h⟩
      · rintro ⟨g', h⟩
        rcases List.mem_cons.1 h with q | q
        · cases q; exact absurd rfl e
        · exact ⟨g', q⟩
theorem fx_none {l : List (Nat × (Nat × Bx))} {i : Nat} : fxL l i = none ↔ ∀ y ∈ l, y.2.1 ≠ i := by
  unfold fxL
  rw [Option.map_eq_none_iff, List.find?_eq_none]
  constructor
  · intro h y hy e; exact h y hy (by simp [e])
  · intro h y hy e; exact h y hy (by simpa using e)
theorem fx_perm {l m : List (Nat × (Nat × Bx))} (hd : (idsL l).Nodup) (h : l.Perm m) (i : Nat) : fxL l i = fxL m i := by
  have hm : (idsL m).Nodup := (List.Perm.nodup_iff (h.map _)).1 hd
  refine Option.ext fun b => ?_
  rw [fx_some hd, fx_some hm]
  exact ⟨fun ⟨g, q⟩ => ⟨g, h.mem_iff.1 q⟩, fun ⟨g, q⟩ => ⟨g, h.mem_iff.2 q⟩⟩
theorem fx_cons (g i : Nat) (b : Bx) (l : List (Nat × (Nat × Bx))) (j : Nat) : fxL ((g, (i, b)) :: l) j = if j = i then some b else fxL l j := by
  by_cases e : j = i
  · subst e; simp [fxL]
  · have e' : ¬ i = j := fun q => e q.symm
    simp [fxL, e, e']

theorem bxO_put {T T' : Option TB} {s' : TS} (hW : WF s' T') {gl i : Nat} {b : Bx} (h : (lvsO T').Perm ((gl, (i, b)) :: lvsO T)) (j : Nat) : bxO T' j = if j = i then some b else bxO T j := by
  unfold bxO
  rw [fx_perm hW.ids h, fx_cons]

theorem bxO_drop {T T' : Option TB} {s : TS} (hW : WF s T) {gl i : Nat} {b : Bx} (h : (lvsO T).Perm ((gl, (i, b)) :: lvsO T')) (j : Nat) : bxO T' j = if j = i then none else bxO T j := by
  have hd : (idsL ((gl, (i, b)) :: lvsO T')).Nodup := (List.Perm.nodup_iff (h.map _)).1 hW.ids
  unfold bxO
  rw [fx_perm hW.ids h, fx_cons]
  by_cases e : j = i
  · subst e
    rw [if_pos rfl]
    refine fx_none.2 fun y hy q => ?_
    exact (List.nodup_cons.1 hd).1 (List.mem_map.2 ⟨y, hy, q⟩)
  · rw [if_neg e, if_neg e]
theorem bxO_not {s : TS} {T : Option TB} (hW : WF s T) {i : Nat} (hi : i < 256) : bxO T i = none ↔ s.lv i = none := by
  constructor
  · intro h; exact hW.no i hi (fx_none.1 h)
  · intro h
    refine fx_none.2 fun y hy q => ?_
    have := hW.lv y hy
    rw [q, h] at this
    cases this
theorem bxO_at {s : TS} {T : Option TB} (hW : WF s T) {i : Nat} {b : Bx} (h : bxO T i = some b) : ∃ g t, T = some t ∧ s.lv i = pA g ∧ (g, (i, b)) ∈ t.lvs := by
  obtain ⟨g, hg⟩ := (fx_some hW.ids).1 h
  cases T with
  | none => cases hg
  | some t => exact ⟨g, t, rfl, hW.lv _ hg, hg⟩

def hitF (F : Nat → Option Bx) (is : Bx → Bool) : List Nat := (List.range 256).filter fun i => match F i with | some x => is x | none => false
theorem mem_hit {F : Nat → Option Bx} {is : Bx → Bool} {i : Nat} : i ∈ hitF F is ↔ i < 256 ∧ ∃ x, F i = some x ∧ is x = true := by
  unfold hitF
  rw [List.mem_filter, List.mem_range]
  refine and_congr Iff.rfl ?_
  cases F i with
  | none => simp
  | some x => simp
theorem hit_sorted (F : Nat → Option Bx) (is : Bx → Bool) : (hitF F is).Pairwise (· < ·) := (List.pairwise_lt_range).filter _

theorem incr_eq : ∀ {l m : List Nat}, l.Pairwise (· < ·) → m.Pairwise (· < ·) → (∀ x, x ∈ l ↔ x ∈ m) → l = m
  | [], [], _, _, _ => rfl
  | [], b :: m, _, _, h => by have := (h b).2 (by simp); cases this
  | a :: l, [], _, _, h => by have := (h a).1 (by simp); cases this
  | a :: l, b :: m, h1, h2, h => by
    obtain ⟨p1, p2⟩ := List.pairwise_cons.1 h1
    obtain ⟨q1, q2⟩ := List.pairwise_cons.1 h2
    have e : a = b := by
      rcases List.mem_cons.1 ((h a).1 (by simp)) with e | e
      · exact e
      · rcases List.mem_cons.1 ((h b).2 (by simp)) with k | k
        · exact k.symm
        · have := q1 a e
          have := p1 b k
          omega
    subst e
    congr 1
    refine incr_eq p2 q2 fun x => ?_
    constructor
    · intro hx
      rcases List.mem_cons.1 ((h x).1 (by simp [hx])) with k | k
      · have := p1 x hx; omega
      · exact k
    · intro hx
      rcases List.mem_cons.1 ((h x).2 (by simp [hx])) with k | k
      · have := q1 x hx; omega
      · exact k

theorem hit_law {s : TS} {T : Option TB} (hW : WF s T) (is : Bx → Bool) {m : List Nat} (hm : m.Perm (((lvsO T).filter (fun y => is y.2.2)).map (fun y => y.2.1))) (hs : m.Pairwise (· ≤ ·)) : m = hitF (bxO T) is := by
  have hn : m.Nodup := (List.Perm.nodup_iff hm).2 (hW.ids.sublist ((List.filter_sublist).map _))
  refine incr_eq ?_ (hit_sorted _ _) fun x => ?_
  · have := List.pairwise_and_iff.2 ⟨hs, hn⟩
    exact this.imp (fun ⟨a, b⟩ => Nat.lt_of_le_of_ne a b)
  · rw [mem_hit, hm.mem_iff, List.mem_map]
    constructor
    · rintro ⟨y, hy, rfl⟩
      obtain ⟨h1, h2⟩ := List.mem_filter.1 hy
      exact ⟨hW.lt y h1, y.2.2, (fx_some hW.ids).2 ⟨y.1, h1⟩, h2⟩
    · rintro ⟨h1, b, h2, h3⟩
      obtain ⟨g, hg⟩ := (fx_some hW.ids).1 h2
      exact ⟨_, List.mem_filter.2 ⟨hg, h3⟩, rfl⟩

def prsF (F : Nat → Option Bx) (tch : Bx → Bx → Bool) (n : Nat) : List (Nat × Nat) := (List.range n).flatMap fun i => match F i with
  | some b => ((hitF F (fun x => tch x b)).filter fun k => decide (i < k)).map fun k => (i, k)
  | none => []
theorem mem_prs {F : Nat → Option Bx} {tch : Bx → Bx → Bool} {n : Nat} {p : Nat × Nat} : p ∈ prsF F tch n ↔ p.1 < n ∧ p.1 < p.2 ∧ p.2 < 256 ∧ ∃ x y, F p.1 = some x ∧ F p.2 = some y ∧ tch y x = true := by
  unfold prsF
  rw [List.mem_flatMap]
  constructor
  · rintro ⟨i, hi, h⟩
    rcases hF : F i with _ | b
    · rw [hF] at h; cases h
    · rw [hF] at h
      obtain ⟨k, hk, rfl⟩ := List.mem_map.1 h
      obtain ⟨h1, h2⟩ := List.mem_filter.1 hk
      obtain ⟨h3, y, h4, h5⟩ := mem_hit.1 h1
      exact ⟨List.mem_range.1 hi, of_decide_eq_true h2, h3, b, y, hF, h4, h5⟩
  · rintro ⟨h1, h2, h3, x, y, h4, h5, h6⟩
    refine ⟨p.1, List.mem_range.2 h1, ?_⟩
    rw [h4]
    exact List.mem_map.2 ⟨p.2, List.mem_filter.2 ⟨mem_hit.2 ⟨h3, y, h5, h6⟩, decide_eq_true h2⟩, rfl⟩
theorem prs_sorted (F : Nat → Option Bx) (tch : Bx → Bx → Bool) : ∀ n, (prsF F tch n).Pairwise ltP
  | 0 => List.Pairwise.nil
  | n + 1 => by
    unfold prsF
    rw [List.range_succ, List.flatMap_append]
    refine List.pairwise_append.2 ⟨prs_sorted F tch n, ?_, ?_⟩
    · rw [List.flatMap_cons, List.flatMap_nil, List.append_nil]
      rcases F n with _ | b
      · exact List.Pairwise.nil
      · refine List.pairwise_map.2 (((hit_sorted F (fun x => tch x b)).filter _).imp fun h => .inr ⟨rfl, h⟩)
    · intro p hp q hq
      have h1 : p.1 < n := (mem_prs.1 hp).1
      have h2 : q.1 = n := by
        rw [List.flatMap_cons, List.flatMap_nil, List.append_nil] at hq
        rcases hF : F n with _ | b
        · rw [hF] at hq; cases hq
        · rw [hF] at hq
          obtain ⟨k, -, rfl⟩ := List.mem_map.1 hq
          rfl
      exact .inl (by omega)

theorem prs_law {F : Nat → Option Bx} {tch : Bx → Bx → Bool} {r : List (Nat × Nat)} (hr : r.Perm (prsF F tch 256)) (hs : r.Pairwise fun p q => ¬ cmpPair q p < 0) : r = prsF F tch 256 := by
  have hn : (prsF F tch 256).Nodup := (prs_sorted F tch 256).imp fun h e => by subst e; exact ltP_irrefl h
  have hn2 : r.Nodup := (List.Perm.nodup_iff hr).2 hn
  refine sorted_eq ?_ (prs_sorted F tch 256) fun p => hr.mem_iff
  have := List.pairwise_and_iff.2 ⟨hs, hn2⟩
  refine this.imp fun {p q} ⟨a, b⟩ => ?_
  rw [cmpPair_lt] at a
  unfold ltP at a ⊢
  have : ¬ (p.1 = q.1 ∧ p.2 = q.2) := fun ⟨e1, e2⟩ => b (Prod.ext e1 e2)
  omega

theorem prs_list {F : Nat → Option Bx} {l : List Bx} (hF : ∀ i, F i = l[i]?) (hl : l.length ≤ 256) : prsF F tchB 256 = pairsL l := by
  refine sorted_eq (prs_sorted _ _ _) (pairs_sorted l) fun p => ?_
  rw [mem_prs, mem_pairs]
  have hb : ∀ i, i < l.length → F i = some (bxAt l i) := fun i hi => by
    rw [hF, List.getElem?_eq_getElem hi]
    unfold bxAt
    rw [List.getD_eq_getElem?_getD, List.getElem?_eq_getElem hi]
    rfl
  constructor
  · rintro ⟨h1, h2, h3, x, y, h4, h5, h6⟩
    have h7 : p.2 < l.length := by
      rcases Nat.lt_or_ge p.2 l.length with q | q
      · exact q
      · rw [hF, List.getElem?_eq_none q] at h5; cases h5
    have h8 : p.1 < l.length := by omega
    rw [hb _ h8] at h4
    rw [hb _ h7] at h5
    cases h4; cases h5
    exact ⟨h2, h7, by rw [tchB_comm]; exact h6⟩
  · rintro ⟨h1, h2, h3⟩
    exact ⟨by omega, h1, by omega, _, _, hb _ (by omega), hb _ h2, by rw [tchB_comm]; exact h3⟩
end
end Go.Proofs.Ytiaoandbdgdecaa
