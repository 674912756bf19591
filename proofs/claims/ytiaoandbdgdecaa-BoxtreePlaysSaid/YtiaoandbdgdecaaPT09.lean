/- Parts of a proof: contracts and laws. -/
import Derived.Test.YtiaoandbdgdecaaPT08
namespace Go.Proofs.Ytiaoandbdgdecaa
section
set_option linter.unusedVariables false
set_option linter.unusedSimpArgs false
open Go.RowKit
def vldB (b : Bx) : Bool := decide (b.1.1 ≤ b.2.1 ∧ b.1.2 ≤ b.2.2)

def tchB (a b : Bx) : Bool := vldB a && (vldB b && (decide (a.1.1 ≤ b.2.1) && (decide (b.1.1 ≤ a.2.1) && (decide (a.1.2 ≤ b.2.2) && decide (b.1.2 ≤ a.2.2)))))
theorem tchB_iff {a b : Bx} : tchB a b = true ↔ (a.1.1 ≤ a.2.1 ∧ a.1.2 ≤ a.2.2) ∧ (b.1.1 ≤ b.2.1 ∧ b.1.2 ≤ b.2.2) ∧ a.1.1 ≤ b.2.1 ∧ b.1.1 ≤ a.2.1 ∧ a.1.2 ≤ b.2.2 ∧ b.1.2 ≤ a.2.2 := by
  unfold tchB vldB
  simp only [Bool.and_eq_true, decide_eq_true_iff]
theorem tchB_comm (a b : Bx) : tchB a b = tchB b a := by
  rw [Bool.eq_iff_iff, tchB_iff, tchB_iff]
  omega
def ltP (p q : Nat × Nat) : Prop := p.1 < q.1 ∨ (p.1 = q.1 ∧ p.2 < q.2)
instance (p q : Nat × Nat) : Decidable (ltP p q) := by unfold ltP; infer_instance
def rowP (l : List Bx) (i m : Nat) : List (Nat × Nat) := ((List.range m).filter fun k => decide (i < k) && tchB (bxAt l i) (bxAt l k)).map fun k => (i, k)
def prsTo (l : List Bx) (m : Nat) : List (Nat × Nat) := (List.range m).flatMap fun i => rowP l i l.length
def pairsL (l : List Bx) : List (Nat × Nat) := prsTo l l.length
theorem mem_row {l : List Bx} {i m : Nat} {p : Nat × Nat} : p ∈ rowP l i m ↔ p.1 = i ∧ p.2 < m ∧ i < p.2 ∧ tchB (bxAt l i) (bxAt l p.2) = true := by
  unfold rowP
  simp only [List.mem_map, List.mem_filter, List.mem_range, Bool.and_eq_true, decide_eq_true_iff]
  constructor
  · rintro ⟨k, ⟨h1, h2, h3⟩, rfl⟩
    exact ⟨rfl, h1, h2, h3⟩
  · rintro ⟨h1, h2, h3, h4⟩
    exact ⟨p.2, ⟨h2, h3, h4⟩, by rw [← h1]⟩
theorem mem_pairs {l : List Bx} {p : Nat × Nat} : p ∈ pairsL l ↔ p.1 < p.2 ∧ p.2 < l.length ∧ tchB (bxAt l p.1) (bxAt l p.2) = true := by
  unfold pairsL prsTo
  simp only [List.mem_flatMap, List.mem_range, mem_row]
  constructor
  · rintro ⟨i, h, rfl, h1, h2, h3⟩
    exact ⟨h2, h1, h3⟩
  · rintro ⟨h1, h2, h3⟩
    exact ⟨p.1, by omega, rfl, h2, h1, h3⟩
theorem row_sorted (l : List Bx) (i m : Nat) : (rowP l i m).Pairwise ltP := by
  unfold rowP
  rw [List.pairwise_map]
  refine (List.Pairwise.filter _ List.pairwise_lt_range).imp fun h => ?_
  exact .inr ⟨rfl, h⟩
theorem pairs_sorted (l : List Bx) : (pairsL l).Pairwise ltP := by
  unfold pairsL prsTo
  rw [List.pairwise_flatMap]
  refine ⟨fun i _ => row_sorted l i _, List.pairwise_lt_range.imp fun {i j} h => fun x hx y hy => ?_⟩
  have h1 := (mem_row.1 hx).1
  have h2 := (mem_row.1 hy).1
  exact .inl (by omega)
theorem ltP_irrefl {p : Nat × Nat} (h : ltP p p) : False := by unfold ltP at h; omega
theorem ltP_trans {p q r : Nat × Nat} (h : ltP p q) (k : ltP q r) : ltP p r := by unfold ltP at *; omega
theorem ltP_asymm {p q : Nat × Nat} (h : ltP p q) (k : ltP q p) : False := ltP_irrefl (ltP_trans h k)
theorem sorted_eq : ∀ {l m : List (Nat × Nat)}, l.Pairwise ltP → m.Pairwise ltP → (∀ p, p ∈ l ↔ p ∈ m) → l = m
  | [], [], _, _, _ => rfl
  | [], q :: m, _, _, h => by have := (h q).2 (List.mem_cons_self ..); cases this
  | p :: l, [], _, _, h => by have := (h p).1 (List.mem_cons_self ..); cases this
  | p :: l, q :: m, hl, hm, h => by
    rw [List.pairwise_cons] at hl hm
    have e : p = q := by
      rcases List.mem_cons.1 ((h p).1 (List.mem_cons_self ..)) with g | g
      · exact g
      · rcases List.mem_cons.1 ((h q).2 (List.mem_cons_self ..)) with k | k
        · exact k.symm
        · exact absurd (hm.1 p g) (fun a => ltP_asymm a (hl.1 q k))
    subst e
    have : l = m := sorted_eq hl.2 hm.2 fun r => by
      constructor
      · intro hr
        rcases List.mem_cons.1 ((h r).1 (List.mem_cons_of_mem _ hr)) with g | g
        · subst g; exact absurd (hl.1 r hr) ltP_irrefl
        · exact g
      · intro hr
        rcases List.mem_cons.1 ((h r).2 (List.mem_cons_of_mem _ hr)) with g | g
        · subst g; exact absurd (hm.1 r hr) ltP_irrefl
        · exact g
    rw [this]

def opnK (l : List Bx) (op : List Nat) (i : Nat) : List Nat := op.filter fun k => !decide ((bxAt l k).2.1 < (bxAt l i).1.1)
def yMeet (l : List Bx) (i k : Nat) : Bool := decide ((bxAt l k).1.2 ≤ (bxAt l i).2.2) && decide ((bxAt l i).1.2 ≤ (bxAt l k).2.2)
def mkP (i k : Nat) : Nat × Nat := (min i k, max i k)
def outK (l : List Bx) (op : List Nat) (i : Nat) : List (Nat × Nat) := (op.filter fun k => yMeet l i k).map fun k => mkP i k

def swS (l : List Bx) : List Nat → List Nat × List (Nat × Nat) → List Nat × List (Nat × Nat)
  | [], s => s
  | i :: o, s => swS l o (opnK l s.1 i ++ [i], s.2 ++ outK l (opnK l s.1 i) i)

structure SwI (l : List Bx) (pre rest : List Nat) (s : List Nat × List (Nat × Nat)) : Prop where
  a1 : s.1.Nodup
  a2 : ∀ k ∈ s.1, k ∈ pre
  b : ∀ k ∈ pre, k ∉ s.1 → ∀ j ∈ rest, (bxAt l k).2.1 < (bxAt l j).1.1
  c1 : s.2.Nodup
  c2 : ∀ p, p ∈ s.2 ↔ p.1 < p.2 ∧ p.1 ∈ pre ∧ p.2 ∈ pre ∧ tchB (bxAt l p.1) (bxAt l p.2) = true
theorem mkP_inj {i k k' : Nat} (h : mkP i k = mkP i k') : k = k' := by
  unfold mkP at h
  have h1 := congrArg Prod.fst h
  have h2 := congrArg Prod.snd h
  dsimp only at h1 h2
  omega
theorem sw_step {l : List Bx} {pre rest : List Nat} {i : Nat} {s : List Nat × List (Nat × Nat)} (h : SwI l pre (i :: rest) s) (hi : i ∉ pre) (hv : ∀ k ∈ pre, vldB (bxAt l k) = true) (hvi : vldB (bxAt l i) = true)
    (hlo : ∀ k ∈ pre, (bxAt l k).1.1 ≤ (bxAt l i).1.1) (hr : ∀ j ∈ rest, (bxAt l i).1.1 ≤ (bxAt l j).1.1) :
    SwI l (pre ++ [i]) rest (opnK l s.1 i ++ [i], s.2 ++ outK l (opnK l s.1 i) i) := by
  obtain ⟨a1, a2, b, c1, c2⟩ := h
  have mo : ∀ k, k ∈ opnK l s.1 i ↔ k ∈ s.1 ∧ ¬ (bxAt l k).2.1 < (bxAt l i).1.1 := fun k => by
    unfold opnK
    rw [List.mem_filter]
    simp
  have nin : i ∉ opnK l s.1 i := fun g => hi (a2 i ((mo i).1 g).1)
  have vi : (bxAt l i).1.1 ≤ (bxAt l i).2.1 ∧ (bxAt l i).1.2 ≤ (bxAt l i).2.2 := by unfold vldB at hvi; exact of_decide_eq_true hvi
  -- which boxes before meet box i
  have meets : ∀ k ∈ pre, (k ∈ opnK l s.1 i ∧ yMeet l i k = true) ↔ tchB (bxAt l k) (bxAt l i) = true := fun k hk => by
    have vk : (bxAt l k).1.1 ≤ (bxAt l k).2.1 ∧ (bxAt l k).1.2 ≤ (bxAt l k).2.2 := by have := hv k hk; unfold vldB at this; exact of_decide_eq_true this
    have lk := hlo k hk
    rw [tchB_iff, mo]
    unfold yMeet
    simp only [Bool.and_eq_true, decide_eq_true_iff]
    constructor
    · rintro ⟨⟨h1, h2⟩, h3, h4⟩
      omega
    · rintro ⟨-, -, h1, h2, h3, h4⟩
      refine ⟨⟨?_, by omega⟩, h3, h4⟩
      rcases Classical.em (k ∈ s.1) with g | g
      · exact g
      · have := b k hk g i (List.mem_cons_self ..)
        omega
  refine ⟨?_, ?_, ?_, ?_, ?_⟩
  · rw [List.nodup_append]
    refine ⟨a1.filter _, by simp, fun a ha b hb e => ?_⟩
    rw [List.mem_singleton] at hb
    subst hb
    subst e
    exact nin ha
  · intro k hk
    rw [List.mem_append, List.mem_singleton] at hk ⊢
    rcases hk with g | g
    · exact .inl (a2 k ((mo k).1 g).1)
    · exact .inr g
  · intro k hk hno j hj
    rw [List.mem_append, List.mem_singleton] at hk
    rw [List.mem_append, List.mem_singleton] at hno
    rcases hk with g | g
    · rcases Classical.em (k ∈ s.1) with q | q
      · have : (bxAt l k).2.1 < (bxAt l i).1.1 := by
          rcases Int.lt_or_le (bxAt l k).2.1 (bxAt l i).1.1 with r | r
          · exact r
          · exact absurd (.inl ((mo k).2 ⟨q, by omega⟩)) hno
        have := hr j hj
        omega
      · exact b k g q j (List.mem_cons_of_mem _ hj)
    · exact absurd (.inr g) hno
  · rw [List.nodup_append]
    refine ⟨c1, ?_, fun p hp q hq e => ?_⟩
    · unfold outK
      refine List.Pairwise.map _ (fun x y hxy e => hxy (mkP_inj e)) ((a1.filter _).filter _)
    · subst e
      unfold outK at hq
      obtain ⟨k, hk, rfl⟩ := List.mem_map.1 hq
      obtain ⟨_, h1, h2, _⟩ := (c2 _).1 hp
      unfold mkP at h1 h2
      dsimp only at h1 h2
      rcases Nat.le_total i k with g | g
      · rw [Nat.min_eq_left g] at h1; exact hi h1
      · rw [Nat.max_eq_left g] at h2; exact hi h2
  · intro p
    rw [List.mem_append, c2]
    simp only [List.mem_append, List.mem_singleton]
    unfold outK
    rw [List.mem_map]
    constructor
    · rintro (⟨h1, h2, h3, h4⟩ | ⟨k, hk, rfl⟩)
      · exact ⟨h1, .inl h2, .inl h3, h4⟩
      · rw [List.mem_filter] at hk
        have hkp := a2 k ((mo k).1 hk.1).1
        have ht := (meets k hkp).1 hk
        have hne : i ≠ k := fun e => hi (by rw [e]; exact hkp)
        unfold mkP
        dsimp only
        rcases Nat.le_total i k with g | g
        · rw [Nat.min_eq_left g, Nat.max_eq_right g]
          exact ⟨by omega, .inr rfl, .inl hkp, by rw [tchB_comm]; exact ht⟩
        · rw [Nat.min_eq_right g, Nat.max_eq_left g]
          exact ⟨by omega, .inl hkp, .inr rfl, ht⟩
    · rintro ⟨h1, h2, h3, h4⟩
      rcases h2 with h2 | h2
      · rcases h3 with h3 | h3
        · exact .inl ⟨h1, h2, h3, h4⟩
        · right
          rw [h3] at h1 h4
          refine ⟨p.1, ?_, ?_⟩
          · rw [List.mem_filter]
            exact (meets _ h2).2 h4
          · unfold mkP
            rw [Nat.min_eq_right (by omega), Nat.max_eq_left (by omega)]
            ext <;> simp [h3]
      · rcases h3 with h3 | h3
        · right
          rw [h2] at h1 h4
          refine ⟨p.2, ?_, ?_⟩
          · rw [List.mem_filter]
            exact (meets _ h3).2 (by rw [tchB_comm]; exact h4)
          · unfold mkP
            rw [Nat.min_eq_left (by omega), Nat.max_eq_right (by omega)]
            ext <;> simp [h2]
        · omega
theorem sw_run {l : List Bx} : ∀ (rest pre : List Nat) (s : List Nat × List (Nat × Nat)), SwI l pre rest s → (pre ++ rest).Nodup → (∀ k ∈ pre ++ rest, vldB (bxAt l k) = true) → (pre ++ rest).Pairwise (fun a b => (bxAt l a).1.1 ≤ (bxAt l b).1.1) →
    SwI l (pre ++ rest) [] (swS l rest s)
  | [], pre, s, h, _, _, _ => by rw [List.append_nil]; exact h
  | i :: rest, pre, s, h, hn, hv, hp => by
    have e : pre ++ i :: rest = (pre ++ [i]) ++ rest := by simp
    rw [swS, e]
    refine sw_run rest (pre ++ [i]) _ ?_ (by rw [← e]; exact hn) (by rw [← e]; exact hv) (by rw [← e]; exact hp)
    rw [List.nodup_append] at hn
    rw [List.pairwise_append] at hp
    obtain ⟨p1, p2, p3⟩ := hp
    rw [List.pairwise_cons] at p2
    exact sw_step h (fun g => hn.2.2 i g i (List.mem_cons_self ..) rfl) (fun k hk => hv k (List.mem_append_left _ hk)) (hv i (List.mem_append_right _ (List.mem_cons_self ..))) (fun k hk => p3 k hk i (List.mem_cons_self ..)) p2.1

def ordTo (l : List Bx) (m : Nat) : List Nat := (List.range m).filter fun i => vldB (bxAt l i)
theorem cmpPair_lt {p q : Nat × Nat} : cmpPair p q < 0 ↔ ltP p q := by
  unfold cmpPair Lib.compareInt ltP
  split <;> (repeat' split) <;> omega

theorem sweep_law {l : List Bx} {o : List Nat} (ho : o.Perm (ordTo l l.length)) (hs : o.Pairwise (fun a b => (bxAt l a).1.1 ≤ (bxAt l b).1.1)) {r : List (Nat × Nat)} (hr : r.Perm (swS l o ([], [])).2) (hrs : r.Pairwise fun p q => ¬ cmpPair q p < 0) : r = pairsL l := by
  have hmem : ∀ k, k ∈ o ↔ k < l.length ∧ vldB (bxAt l k) = true := fun k => by
    rw [ho.mem_iff]
    unfold ordTo
    rw [List.mem_filter, List.mem_range]
  have hnd : o.Nodup := ho.nodup_iff.2 (List.nodup_range.filter _)
  have h := sw_run (l := l) o [] ([], []) ⟨List.nodup_nil, by simp, by simp, List.nodup_nil, by simp⟩ hnd (fun k hk => ((hmem k).1 hk).2) hs
  rw [List.nil_append] at h
  refine sorted_eq ?_ (pairs_sorted l) fun p => ?_
  · have hn : r.Nodup := hr.nodup_iff.2 h.c1
    refine (hrs.and hn).imp fun {p q} hh => ?_
    obtain ⟨g1, g2⟩ := hh
    rw [cmpPair_lt] at g1
    unfold ltP at *
    rcases Nat.lt_trichotomy p.1 q.1 with a | a | a
    · exact .inl a
    · rcases Nat.lt_trichotomy p.2 q.2 with c | c | c
      · exact .inr ⟨a, c⟩
      · exact absurd (by ext <;> assumption) g2
      · exact absurd (.inr ⟨a.symm, c⟩) g1
    · exact absurd (.inl a) g1
  · rw [hr.mem_iff, h.c2, mem_pairs, hmem, hmem]
    constructor
    · rintro ⟨h1, ⟨h2, _⟩, ⟨h3, _⟩, h4⟩
      exact ⟨h1, h3, h4⟩
    · rintro ⟨h1, h2, h3⟩
      have := tchB_iff.1 h3
      exact ⟨h1, ⟨by omega, by unfold vldB; exact decide_eq_true this.1⟩, ⟨h2, by unfold vldB; exact decide_eq_true this.2.1⟩, h3⟩
end
end Go.Proofs.Ytiaoandbdgdecaa
namespace Go.Proofs.Ytiaoandbdgdecaa
section
set_option linter.unusedVariables false
set_option linter.unusedSimpArgs false
open Go.Shelf
open Go.RowKit Go.Sort Go.Lib
def laySortInt0_ren : Go.Shelf.Ren := ⟨fun | 6 => 37 | 15 => 50 | 14 => 52 | 28 => 65 | 29 => 66 | 20 => 67 | 21 => 68 | 22 => 69 | 23 => 70 | 24 => 71 | 25 => 72 | 26 => 73 | 27 => 74 | 46 => 81 | 47 => 77 | 48 => 78 | 49 => 82 | 50 => 83 | 57 => 94 | n => n, fun | 22 => 22 | 24 => 3 | 25 => 26 | 3 => 3 | 39 => 83 | 0 => 0 | 53 => 97 | 55 => 64 | 4 => 4 | 46 => 90 | 45 => 89 | 50 => 94 | 5 => 5 | 9 => 9 | 66 => 105 | 70 => 109 | 76 => 118 | 77 => 119 | n => n, fun | n => n⟩
theorem laySortInt0 : Go.Proofs.SlLaysF0.n6 Try.prog laySortInt0_ren := {
  mixed := by kernel_rfl
  f6 := ⟨Try.f37.name, by decide, Try.func37.trans (congrArg some (by kernel_rfl))⟩
  f14 := ⟨Try.f52.name, by decide, Try.func52.trans (congrArg some (by kernel_rfl))⟩
  f15 := Try.func50.trans (congrArg some (by kernel_rfl))
  f20 := ⟨Try.f67.name, by decide, Try.func67.trans (congrArg some (by kernel_rfl))⟩
  f21 := ⟨Try.f68.name, by decide, Try.func68.trans (congrArg some (by kernel_rfl))⟩
  f22 := ⟨Try.f69.name, by decide, Try.func69.trans (congrArg some (by kernel_rfl))⟩
  f23 := ⟨Try.f70.name, by decide, Try.func70.trans (congrArg some (by kernel_rfl))⟩
  f24 := ⟨Try.f71.name, by decide, Try.func71.trans (congrArg some (by kernel_rfl))⟩
  f25 := ⟨Try.f72.name, by decide, Try.func72.trans (congrArg some (by kernel_rfl))⟩
  f26 := ⟨Try.f73.name, by decide, Try.func73.trans (congrArg some (by kernel_rfl))⟩
  f27 := ⟨Try.f74.name, by decide, Try.func74.trans (congrArg some (by kernel_rfl))⟩
  f28 := Try.func65.trans (congrArg some (by kernel_rfl))
  f29 := Try.func66.trans (congrArg some (by kernel_rfl))
  f46 := ⟨Try.f81.name, by decide, Try.func81.trans (congrArg some (by kernel_rfl))⟩
  f47 := Try.func77.trans (congrArg some (by kernel_rfl))
  f48 := Try.func78.trans (congrArg some (by kernel_rfl))
  f49 := ⟨Try.f82.name, by decide, Try.func82.trans (congrArg some (by kernel_rfl))⟩
  f50 := ⟨Try.f83.name, by decide, Try.func83.trans (congrArg some (by kernel_rfl))⟩
  f57 := ⟨Try.f94.name, by decide, Try.func94.trans (congrArg some (by kernel_rfl))⟩
  t0 := Try.underlying0
  a0 := Try.isAgg0
  z0 := Try.sizeOf0
  v0 := Try.zeroValue0
  t3 := Try.underlying3
  a3 := Try.isAgg3
  z3 := Try.sizeOf3
  v3 := Try.zeroValue3
  t4 := Try.underlying4
  a4 := Try.isAgg4
  z4 := Try.sizeOf4
  v4 := Try.zeroValue4
  t5 := Try.underlying5
  a5 := Try.isAgg5
  z5 := Try.sizeOf5
  v5 := Try.zeroValue5
  t9 := Try.underlying9
  a9 := Try.isAgg9
  z9 := Try.sizeOf9
  v9 := Try.zeroValue9
  t22 := Try.underlying22
  a22 := Try.isAgg22
  z22 := Try.sizeOf22
  v22 := Try.zeroValue22
  t25 := Try.underlying26
  a25 := Try.isAgg26
  z25 := Try.sizeOf26
  v25 := Try.zeroValue26
  t39 := Try.underlying83
  a39 := Try.isAgg83
  z39 := Try.sizeOf83
  v39 := Try.zeroValue83
  t45 := Try.underlying89
  a45 := Try.isAgg89
  z45 := Try.sizeOf89
  v45 := Try.zeroValue89
  t46 := Try.underlying90
  a46 := Try.isAgg90
  z46 := Try.sizeOf90
  v46 := Try.zeroValue90
  t50 := Try.underlying94
  a50 := Try.isAgg94
  z50 := Try.sizeOf94
  v50 := Try.zeroValue94
  t53 := Try.underlying97
  a53 := Try.isAgg97
  z53 := Try.sizeOf97
  v53 := Try.zeroValue97
  t55 := Try.underlying64
  a55 := Try.isAgg64
  z55 := Try.sizeOf64
  v55 := Try.zeroValue64
  t66 := Try.underlying105
  a66 := Try.isAgg105
  z66 := Try.sizeOf105
  v66 := Try.zeroValue105
  t70 := Try.underlying109
  a70 := Try.isAgg109
  z70 := Try.sizeOf109
  v70 := Try.zeroValue109
  t76 := Try.underlying118
  a76 := Try.isAgg118
  z76 := Try.sizeOf118
  v76 := Try.zeroValue118
  t77 := Try.underlying119
  a77 := Try.isAgg119
  z77 := Try.sizeOf119
  v77 := Try.zeroValue119 }

def layNat : Lay Nat := ⟨fun i => [.int .i64 i], 1, fun _ => rfl, fun x v hv => by simp at hv; subst hv; rfl, by omega⟩
abbrev Ix (n : Nat) := {i : Nat // i < n}
def layIx (n : Nat) : Lay (Ix n) := ⟨fun i => [.int .i64 (i.1 : Int)], 1, fun _ => rfl, fun x v hv => by simp at hv; subst hv; rfl, by omega⟩
def encIx (n : Nat) (i : Ix n) : Value := .int .i64 (i.1 : Int)
theorem encIx_one (n : Nat) : OneCell (encIx n) := fun _ => rfl
theorem flatE_ix {n : Nat} (o : List (Ix n)) : flatE (layIx n) o = flatE layNat (o.map (·.1)) := by
  induction o with
  | nil => rfl
  | cons i o ih => unfold flatE at *; rw [List.map_cons, List.flatMap_cons, List.flatMap_cons, ih]; rfl
theorem OwnE.ix {n : Nat} {e : TypeId} {w : World} {B : Nat} {v : Value} {o : List (Ix n)} : OwnE (layIx n) e w B v o ↔ OwnE layNat e w B v (o.map (·.1)) := by
  unfold OwnE
  rw [flatE_ix, List.length_map]
  rfl
theorem ix_of {n : Nat} : ∀ {o : List Nat}, (∀ k ∈ o, k < n) → ∃ o' : List (Ix n), o = o'.map (·.1)
  | [], _ => ⟨[], rfl⟩
  | k :: o, h => by
    obtain ⟨o', ho⟩ := ix_of (o := o) (fun j hj => h j (List.mem_cons_of_mem _ hj))
    exact ⟨⟨k, h k (List.mem_cons_self ..)⟩ :: o', by rw [List.map_cons, ← ho]⟩
theorem info_int' : (Try.prog.info? 3).map (fun i => (i.zero, i.size, i.bytes)) = some (some (.int .i64 0), 1, 8) := by kernel_rfl
theorem tyNat : TyE layNat 22 3 8 := ⟨Try.underlying22, by obtain ⟨i0, hi, hz0, hz1, hz2⟩ := info_parts info_int'; exact ⟨i0, .int .i64 0, hi, hz0, hz1, hz2, rfl⟩⟩
theorem info_pair : (Try.prog.info? 52).map (fun i => (i.zero, i.size, i.bytes)) = some (some (.agg #[.int .i64 0, .int .i64 0]), 2, 16) := by kernel_rfl
theorem tyPair : TyE layPair 37 52 16 := ⟨Try.underlying37, by obtain ⟨i0, hi, hz0, hz1, hz2⟩ := info_parts info_pair; exact ⟨i0, .agg #[.int .i64 0, .int .i64 0], hi, hz0, hz1, hz2, rfl⟩⟩
theorem OwnE.take {α : Type} {L : Lay α} {e : TypeId} {w : World} {B g n cap : Nat} {l : List α} (h : OwnE L e w B (.slice (some ⟨g, 0, none⟩) n cap) l) {m : Nat} (hm : m ≤ l.length) : OwnE L e w B (.slice (some ⟨g, 0, none⟩) m cap) (l.take m) := by
  obtain ⟨h1, ⟨h2, -⟩ | ⟨g', cap', cur, hv, hb, hg, hn, hmx, hsz, ht⟩⟩ := h
  · cases h2
  · cases hv
    have e1 : (l.take m).length = m := by rw [List.length_take]; omega
    refine ⟨flatE_len _, .inr ⟨g, cap, cur, by rw [e1], hb, hg, by rw [e1]; omega, hmx, hsz, ?_⟩⟩
    have e2 : flatE L l = flatE L (l.take m) ++ flatE L (l.drop m) := by rw [← flatE_append, List.take_append_drop]
    have e3 : m * L.k ≤ l.length * L.k := Nat.mul_le_mul_right _ hm
    have e4 : cur.toList.take (m * L.k) = (cur.toList.take (l.length * L.k)).take (m * L.k) := by rw [List.take_take, Nat.min_eq_left e3]
    rw [e1, e4, ht, e2, List.take_left' (by rw [flatE_len, e1])]
theorem permIn_list {α : Type} [Inhabited α] {d d' : Array α} (h : PermIn 0 d.size d d') : d'.toList.Perm d.toList ∧ d'.size = d.size := by
  obtain ⟨h1, -, h3⟩ := h
  refine ⟨?_, h1⟩
  have e1 : d.extract 0 d.size = d := by simp
  have e2 : d'.extract 0 d.size = d' := by rw [← h1]; simp
  rwa [e1, e2] at h3
theorem sortedIn_list {α : Type} [Inhabited α] {lt : α → α → Bool} {d : Array α} (h : SortedIn lt 0 d.size d) : d.toList.Pairwise fun a b => lt b a = false := by
  rw [List.pairwise_iff_getElem]
  intro i j hi hj hij
  have := h i j (Nat.zero_le _) hij (by simpa using hj)
  rw [getElem!_pos d j (by simpa using hj), getElem!_pos d i (by simpa using hi)] at this
  simpa using this
theorem compareInt_lt {x y : Int} : Lib.compareInt x y < 0 ↔ x < y := by unfold Lib.compareInt; (repeat' split) <;> omega
theorem cf_p1 (args : Array Value) (w : World) : (callFunc 38 args).run Try.prog w = .ok (.enter 38 args) w := by kernel_rfl
theorem cf_p2 (args : Array Value) (w : World) : (callFunc 40 args).run Try.prog w = .ok (.enter 40 args) w := by kernel_rfl
theorem cf_p3 (args : Array Value) (w : World) : (callFunc 41 args).run Try.prog w = .ok (.enter 41 args) w := by kernel_rfl

theorem OwnE.ne {α : Type} {L : Lay α} {e : TypeId} {w : World} {B : Nat} {v : Value} {l : List α} (h : OwnE L e w B v l) {g : Nat} (hg : g < B) : some g ≠ v.ownBlock := fun q => by
  have := (h.lt q.symm).1
  omega
set_option maxHeartbeats 1000000 in

theorem sortOrd_calls (l : List Bx) (o : List Nat) (ho : ∀ k ∈ o, k < l.length) (gb c B : Nat) (s : Value) (w : World) (hx : o ≠ [] → ∃ b off, w.cell? ⟨gb, 0, none⟩ = some (.slice (some ⟨b, off, none⟩) l.length c) ∧ b < B ∧ CellsE layBox w b off l) (hgb : gb < B) (hs : OwnE layNat 3 w B s o) (hl : o.length ≤ 1000000) :
    Calls Try.prog 37 #[s, .func (.func 38) #[] #[.pointer (some ⟨gb, 0, none⟩)]] w fun e w' => e = .returned (.tuple #[]) ∧ (∃ o', o'.Perm o ∧ o'.Pairwise (fun a b => (bxAt l a).1.1 ≤ (bxAt l b).1.1) ∧ OwnE layNat 3 w' B s o') ∧ w.grownBy w' s.ownBlock := by
  obtain ⟨o', rfl⟩ := ix_of ho
  rcases hs.form with ⟨rfl, h0⟩ | ⟨g, cap, rfl, hB, hg, hn, hm, hf, hcl⟩
  · refine (AnyF.slices_SortFunc_none laySortInt0 none 0 _ w).mono ?_
    rintro e w' ⟨rfl, rfl⟩
    rw [h0] at hs ⊢
    exact ⟨rfl, ⟨[], List.Perm.refl _, List.Pairwise.nil, hs⟩, ⟨rfl, rfl, rfl, Nat.le_refl _, fun _ _ _ => rfl⟩⟩
  · have hne : o'.map (·.1) ≠ [] ∨ o' = [] := by cases o' <;> simp
    rcases hne with hne | rfl
    · obtain ⟨b, off, hbox, hb, hC⟩ := hx hne
      obtain ⟨i0, hi0⟩ : ∃ i : Ix l.length, i ∈ o' := by
        cases o' with
        | nil => exact absurd rfl hne
        | cons i o' => exact ⟨i, List.mem_cons_self ..⟩
      haveI : Inhabited (Ix l.length) := ⟨i0⟩
      have hs2 := OwnE.ix.2 hs
      have hH := hs2.holds
      have hcmp : CmpLays1 Try.prog 38 #[.pointer (some ⟨gb, 0, none⟩)] (encIx l.length) (fun x y => Lib.compareInt (bxAt l x.1).1.1 (bxAt l y.1).1.1) g 0 o'.toArray.size w := by
        intro m os dk hdk x y
        have other : ∀ a : Addr, a.block < B → (sortWorld (encIx l.length) w g 0 m dk os).cell? a = w.cell? a := fun a ha => by rw [sortWorld_one]; exact cell?_sortWorldK_other _ _ _ _ _ _ _ _ _ (by omega) (by omega)
        have hsz : w.heap.size ≤ (sortWorld (encIx l.length) w g 0 m dk os).heap.size := by
          rw [sortWorld_one]
          exact (grownBy_sortedK (L := layIx l.length) dk).size
        refine (pairs1_calls l x.1 y.1 gb b off l.length c x.2 y.2 _ (by rw [other _ hgb]; exact hbox) ⟨Nat.lt_of_lt_of_le hC.lt hsz, fun j hj i v hv => by rw [other _ hb]; exact hC.at_ j hj i v hv⟩).mono ?_
        rintro e w' ⟨rfl, rfl⟩
        exact ⟨rfl, 1, #[], by rw [grow_empty]; rfl⟩
      have hO : SWO (ltOf fun x y : Ix l.length => Lib.compareInt (bxAt l x.1).1.1 (bxAt l y.1).1.1) := by
        have e : ∀ x y : Ix l.length, ltOf (fun x y : Ix l.length => Lib.compareInt (bxAt l x.1).1.1 (bxAt l y.1).1.1) x y = decide ((bxAt l x.1).1.1 < (bxAt l y.1).1.1) := fun x y => by
          unfold ltOf
          rw [decide_eq_decide, compareInt_lt]
        refine ⟨fun x => ?_, fun x y z h1 h2 => ?_, fun x y z h1 h2 => ?_⟩
        · rw [e]; simp
        · rw [e] at *; simp at *; omega
        · rw [e] at *; simp at *; omega
      have hlen : (o'.map (·.1)).length = o'.toArray.size := by simp
      have hsz2 : o'.toArray.size ≤ 1000000 := by rw [← hlen]; exact hl
      have hcon := Any.slices_SortFunc laySortInt (encIx l.length) (encIx_one _) (fun x y => Lib.compareInt (bxAt l x.1).1.1 (bxAt l y.1).1.1) hO 38 #[.pointer (some ⟨gb, 0, none⟩)] g 0 cap o'.toArray w cf_p1 hcmp (holds_one hH) hg (by omega)
      rw [hlen]
      refine Calls.mono hcon ?_
      rintro e w' ⟨rfl, d', m, os, hp, hsd, rfl⟩
      obtain ⟨p1, p2⟩ := permIn_list hp
      rw [sortWorld_one]
      have hso : SortedIn (ltOf fun x y : Ix l.length => Lib.compareInt (bxAt l x.1).1.1 (bxAt l y.1).1.1) 0 d'.size d' := by rw [p2]; exact hsd
      have hpw := sortedIn_list hso
      rw [hlen] at hs2
      refine ⟨rfl, ⟨d'.toList.map (·.1), p1.map _, ?_, ?_⟩, grownBy_sortedK (L := layIx l.length) d'⟩
      · rw [List.pairwise_map]
        refine hpw.imp fun {x y} h => ?_
        unfold ltOf at h
        rw [decide_eq_false_iff_not, compareInt_lt] at h
        omega
      · exact OwnE.ix.1 (hs2.sorted d' (by rw [p2]; simp))
    · refine Calls.mono (AnyF.slices_SortFunc_none laySortInt0 (some ⟨g, 0, none⟩) cap _ w) ?_
      rintro e w' ⟨rfl, rfl⟩
      exact ⟨rfl, ⟨[], List.Perm.refl _, List.Pairwise.nil, hs⟩, ⟨rfl, rfl, rfl, Nat.le_refl _, fun _ _ _ => rfl⟩⟩
set_option maxHeartbeats 1000000 in

theorem sortPairs_calls (o : List (Nat × Nat)) (B : Nat) (s : Value) (w : World) (hs : OwnE layPair 52 w B s o) (hl : o.length ≤ 1000000) :
    Calls Try.prog 30 #[s, .func (.func 41) #[] #[]] w fun e w' => e = .returned (.tuple #[]) ∧ (∃ o' : List (Nat × Nat), o'.Perm o ∧ o'.Pairwise (fun p q => ¬ cmpPair q p < 0) ∧ OwnE layPair 52 w' B s o') ∧ w.grownBy w' s.ownBlock := by
  rcases hs.form with ⟨rfl, h0⟩ | ⟨g, cap, rfl, hB, hg, hn, hm, hf, hcl⟩
  · refine (AnyF.slices_SortFunc_none laySortPair none 0 _ w).mono ?_
    rintro e w' ⟨rfl, rfl⟩
    rw [h0] at hs ⊢
    exact ⟨rfl, ⟨[], List.Perm.refl _, List.Pairwise.nil, hs⟩, ⟨rfl, rfl, rfl, Nat.le_refl _, fun _ _ _ => rfl⟩⟩
  · have hH := hs.holds
    have hcmp : CmpLays Try.prog 41 #[] layPair.enc 2 cmpPair g 0 o.toArray.size w := fun m os dk hdk x y => pairs3_calls x y _
    have hO : SWO (ltOf cmpPair) := by
      have e : ∀ x y, ltOf cmpPair x y = decide (ltP x y) := fun x y => by
        unfold ltOf
        rw [decide_eq_decide, cmpPair_lt]
      refine ⟨fun x => ?_, fun x y z h1 h2 => ?_, fun x y z h1 h2 => ?_⟩
      · rw [e]; exact decide_eq_false ltP_irrefl
      · rw [e] at *; exact decide_eq_true (ltP_trans (of_decide_eq_true h1) (of_decide_eq_true h2))
      · rw [e] at *
        have a := of_decide_eq_false h1
        have b := of_decide_eq_false h2
        refine decide_eq_false ?_
        unfold ltP at *
        omega
    have hlen : o.length = o.toArray.size := by simp
    have hsz2 : o.toArray.size ≤ 1000000 := by rw [← hlen]; exact hl
    have hcon := AnyQ.slices_SortFunc laySortPair 2 Try.isAgg52 Try.sizeOf52 layPair.enc layPair.hk layPair.one cmpPair hO 41 #[] g 0 cap o.toArray w cf_p3 hcmp hH hg (by omega)
    rw [hlen]
    refine Calls.mono hcon ?_
    rintro e w' ⟨rfl, d', m, os, hp, hsd, rfl⟩
    obtain ⟨p1, p2⟩ := permIn_list hp
    have hso : SortedIn (ltOf cmpPair) 0 d'.size d' := by rw [p2]; exact hsd
    have hpw := sortedIn_list hso
    rw [hlen] at hs
    refine ⟨rfl, ⟨d'.toList, p1, ?_, hs.sorted d' (by rw [p2]; simp)⟩, grownBy_sortedK (L := layPair) d'⟩
    refine hpw.imp fun {x y} h => ?_
    unfold ltOf at h
    rwa [decide_eq_false_iff_not] at h
set_option maxRecDepth 100000 in
set_option maxHeartbeats 2000000 in
theorem del_nil (s : Option Addr) (n c : Nat) (hn : n = 0) (fv : Value) (w : World) : Calls Try.prog 39 #[.slice s n c, fv] w fun e w' => e = .returned (.slice s n c) ∧ w' = w := by
  subst hn
  go_enter Try.func39, Try.ntmps39
  go_wp2
  go_loopw [8] (fun j wr => j = .int .i64 0 ∧ wr = w) (fun _ _ => 0)
  case atStart => exact ⟨rfl, rfl⟩
  case round =>
    obtain ⟨rfl, rfl⟩ := hrel
    go_wp2
    go_returns
    exact ⟨rfl, rfl⟩
set_option maxHeartbeats 1000000 in

theorem delOpen_calls (l : List Bx) (op : List Nat) (i : Nat) (hop : ∀ k ∈ op, k < l.length) (hi : i < l.length) (gb gi b off c B : Nat) (s : Value) (w : World) (hbox : w.cell? ⟨gb, 0, none⟩ = some (.slice (some ⟨b, off, none⟩) l.length c)) (hgi : w.cell? ⟨gi, 0, none⟩ = some (.int .i64 i)) (hne : ∀ k, s.ownBlock = some k → k ≠ gi)
    (hc : CellsE layBox w b off l) (hgb : gb < B) (hb : b < B) (hs : OwnE layNat 3 w B s op) (hl : op.length ≤ 1000000) :
    Calls Try.prog 39 #[s, .func (.func 40) #[] #[.pointer (some ⟨gb, 0, none⟩), .pointer (some ⟨gi, 0, none⟩)]] w fun e w' => (∃ s', e = .returned s' ∧ s'.ownBlock = s.ownBlock ∧ OwnE layNat 3 w' B s' (opnK l op i)) ∧ w.grownBy w' s.ownBlock := by
  obtain ⟨o', rfl⟩ := ix_of hop
  rcases hs.form with ⟨rfl, h0⟩ | ⟨g, cap, rfl, hB, hg, hn, hm, hf, hcl⟩
  · refine (del_nil none 0 0 rfl _ w).mono ?_
    rintro e w' ⟨rfl, rfl⟩
    rw [h0] at hs ⊢
    exact ⟨⟨_, rfl, rfl, hs⟩, ⟨rfl, rfl, rfl, Nat.le_refl _, fun _ _ _ => rfl⟩⟩
  · haveI : Inhabited (Ix l.length) := ⟨⟨i, hi⟩⟩
    have hs2 := OwnE.ix.2 hs
    have hH := hs2.holds
    have hgg : g ≠ gi := hne g rfl
    have hgil := lt_of_cell hgi
    have read : ∀ (W : World), (∀ a : Addr, a.block < w.heap.size → a.block ≠ g → W.cell? a = w.cell? a) → w.heap.size ≤ W.heap.size → ∀ x : Ix l.length, FnGives Try.prog 40 #[.pointer (some ⟨gb, 0, none⟩), .pointer (some ⟨gi, 0, none⟩)] #[encIx l.length x] (.bool (decide ((bxAt l x.1).2.1 < (bxAt l i).1.1))) W := fun W hW hsz x => by
      refine Calls.mono (pairs2_calls l x.1 i gb gi b off c x.2 hi W (by rw [hW _ (by show gb < _; omega) (by show gb ≠ _; omega)]; exact hbox) (by rw [hW _ hgil (fun e => hgg e.symm)]; exact hgi) ⟨Nat.lt_of_lt_of_le hc.lt hsz, fun j hj i v hv => by rw [hW _ (by show b < _; omega) (by show b ≠ _; omega)]; exact hc.at_ j hj i v hv⟩) ?_
      rintro e w' ⟨rfl, rfl⟩
      exact ⟨rfl, 1, rfl⟩
    have hp : PredAt Try.prog 40 #[.pointer (some ⟨gb, 0, none⟩), .pointer (some ⟨gi, 0, none⟩)] (encIx l.length) (fun x => decide ((bxAt l x.1).2.1 < (bxAt l i).1.1)) w := fun W x hW => read W (fun a ha _ => hW.cell ha) hW.size x
    have hpo : PredOver Try.prog 40 #[.pointer (some ⟨gb, 0, none⟩), .pointer (some ⟨gi, 0, none⟩)] (encIx l.length) (fun x => decide ((bxAt l x.1).2.1 < (bxAt l i).1.1)) g 0 o'.toArray.size w := by
      intro m os dk x hdk
      refine read _ (fun a ha hne => by rw [sortWorld_one]; exact cell?_sortWorldK_other _ _ _ _ _ _ _ _ _ hne ha) ?_ x
      rw [sortWorld_one]
      exact (grownBy_sortedK (L := layIx l.length) dk).size
    have hlen : (o'.map (·.1)).length = o'.toArray.size := by simp
    have hsz2 : o'.toArray.size ≤ 1000000 := by rw [← hlen]; exact hl
    rw [hlen] at hn
    have hcon := AnyE.slices_DeleteFunc layDelInt (encIx l.length) (encIx_one _) (fun x => decide ((bxAt l x.1).2.1 < (bxAt l i).1.1)) 40 #[.pointer (some ⟨gb, 0, none⟩), .pointer (some ⟨gi, 0, none⟩)] cf_p2 (⟨0, by omega⟩ : Ix l.length) (fun w => Try.zeroValue3 w) g 0 cap o'.toArray w hp hpo (holds_one hH) (by omega) hn
    rw [hlen]
    refine Calls.mono hcon ?_
    rintro e w' ⟨rfl, q, rfl⟩
    obtain ⟨F, hF⟩ : ∃ F, F = o'.filter fun x => !decide ((bxAt l x.1).2.1 < (bxAt l i).1.1) := ⟨_, rfl⟩
    have eF : o'.toArray.toList.filter (fun x => !decide ((bxAt l x.1).2.1 < (bxAt l i).1.1)) = F := hF.symm
    rw [eF]
    have hFl : F.length ≤ o'.length := by rw [hF]; exact List.length_filter_le _ _
    obtain ⟨D, hD⟩ : ∃ D : Array (Ix l.length), D = (F ++ List.replicate (o'.toArray.size - F.length) (⟨0, by omega⟩ : Ix l.length)).toArray := ⟨_, rfl⟩
    rw [← hD]
    have hDs : D.size = o'.length := by rw [hD]; simp; omega
    have eW : putRow (encIx l.length) (Sort.ahead w q) g 0 D = sortWorldK (layIx l.length).enc (layIx l.length).k w g 0 q D #[] := by
      have := sortWorld_one (encIx l.length) w g 0 q D #[]
      unfold sortWorld at this
      rw [grow_empty] at this
      exact this
    rw [eW]
    rw [hlen] at hs2
    have h5 := (hs2.sorted (m := q) (os := #[]) D hDs).take (m := F.length) (by rw [hD]; simp)
    have eT : D.toList.take F.length = F := by rw [hD]; simp
    rw [eT] at h5
    have eO : opnK l (o'.map (·.1)) i = F.map (·.1) := by rw [hF]; unfold opnK; rw [List.filter_map]; rfl
    rw [eO]
    exact ⟨⟨_, rfl, rfl, OwnE.ix.1 h5⟩, grownBy_sortedK (L := layIx l.length) D⟩
end
end Go.Proofs.Ytiaoandbdgdecaa
namespace Go.Proofs.Ytiaoandbdgdecaa
section
set_option linter.unusedVariables false
set_option linter.unusedSimpArgs false
open Go.RowKit
abbrev bxV (b : Bx) : Value := .agg #[.int .i64 b.1.1, .int .i64 b.1.2, .int .i64 b.2.1, .int .i64 b.2.2]
set_option maxRecDepth 100000 in
theorem svalid_calls (x y u v : Int) (w : World) : Calls Try.prog 25 #[.agg #[.int .i64 x, .int .i64 y, .int .i64 u, .int .i64 v]] w (Ret (.bool (vldB ((x, y), (u, v)))) w) := by
  have HZ : Hid (vldB ((x, y), (u, v)) = decide (x ≤ u ∧ y ≤ v)) := rfl
  obtain ⟨z, hz⟩ : ∃ z, z = vldB ((x, y), (u, v)) := ⟨_, rfl⟩
  rw [← hz] at HZ ⊢
  clear hz
  by_cases h1 : x ≤ u
  · by_cases h2 : y ≤ v
    · have HR : Hid (z = true) := by show _ = _; rw [HZ.out]; exact decide_eq_true ⟨h1, h2⟩
      clear HZ
      go_enter Try.func25, Try.ntmps25
      go_wp2
      go_returns
      exact ret_bool (by rw [HR.out]; try simp [*]) (by go_grown)
    · have HR : Hid (z = false) := by show _ = _; rw [HZ.out]; exact decide_eq_false (fun h => h2 h.2)
      clear HZ
      go_enter Try.func25, Try.ntmps25
      go_wp2
      go_returns
      exact ret_bool (by rw [HR.out]; try simp [*]) (by go_grown)
  · have HR : Hid (z = false) := by show _ = _; rw [HZ.out]; exact decide_eq_false (fun h => h1 h.1)
    clear HZ
    go_enter Try.func25, Try.ntmps25
    go_wp2
    go_returns
    exact ret_bool (by rw [HR.out]; try simp [*]) (by go_grown)

def RetPrs (l : List (Nat × Nat)) (w : World) (e : Ending) (w' : World) : Prop := ∃ A n c, e = .returned (.slice A n c) ∧ SlE layPair w' A n c l ∧ (∀ b off, A = some ⟨b, off, none⟩ → w.heap.size ≤ b) ∧ Below w.heap.size w w'

def RetPrO (l : List (Nat × Nat)) (w : World) (e : Ending) (w' : World) : Prop := ∃ s, e = .returned s ∧ OwnE layPair 52 w' w.heap.size s l ∧ Below w.heap.size w w'

structure PW (w0 : World) (gb : Nat) (hd : Value) (s : Value) (o : List Nat) (w : World) : Prop where
  cb : w.cell? ⟨gb, 0, none⟩ = some hd
  own : OwnE layNat 3 w (gb + 1) s o
  bel : Below w0.heap.size w0 w
  le : w0.heap.size ≤ gb
theorem PW.keep {w0 : World} {gb : Nat} {hd s : Value} {o : List Nat} {w w' : World} (hb : Below w.heap.size w w') (h : PW w0 gb hd s o w) : PW w0 gb hd s o w' := ⟨keepCell hb h.cb, h.own.below hb, keepBelow hb h.bel, h.le⟩
theorem PW.app {w0 : World} {gb : Nat} {hd s s' : Value} {o o' : List Nat} {w w' : World} (h : PW w0 gb hd s o w) (ho : OwnE layNat 3 w' (gb + 1) s' o') (hg : w.grownBy w' s.ownBlock) : PW w0 gb hd s' o' w' :=
  ⟨hg.cell h.cb (h.own.ne (Nat.lt_succ_self gb)), ho, h.bel.grown hg h.bel.size (fun k hk => by have := (h.own.lt hk).1; have := h.le; omega), h.le⟩

structure PX (w2 : World) (s : Value) (op : List Nat) (t : Value) (out : List (Nat × Nat)) (w : World) : Prop where
  o1 : OwnE layNat 3 w w2.heap.size s op
  o2 : OwnE layPair 52 w w2.heap.size t out
  dis : t.ownBlock = none ∨ t.ownBlock ≠ s.ownBlock
  bel : Below w2.heap.size w2 w
theorem PX.keep {w2 : World} {s t : Value} {op : List Nat} {out : List (Nat × Nat)} {w w' : World} (hb : Below w.heap.size w w') (h : PX w2 s op t out w) : PX w2 s op t out w' := ⟨h.o1.below hb, h.o2.below hb, h.dis, keepBelow hb h.bel⟩
theorem dis_symm' {s t : Value} (h : t.ownBlock = none ∨ t.ownBlock ≠ s.ownBlock) : s.ownBlock = none ∨ s.ownBlock ≠ t.ownBlock := by
  rcases h with h | h
  · cases hs : s.ownBlock with
    | none => exact .inl rfl
    | some k => exact .inr (by rw [h]; simp)
  · exact .inr fun e => h e.symm
theorem PX.set1 {w2 : World} {s s' t : Value} {op op' : List Nat} {out : List (Nat × Nat)} {w w' : World} (h : PX w2 s op t out w) (ho : OwnE layNat 3 w' w2.heap.size s' op') (hg : w.grownBy w' s.ownBlock) (hat : s'.ownBlock = s.ownBlock ∨ s'.ownBlock = some w.heap.size) : PX w2 s' op' t out w' := by
  refine ⟨ho, h.o2.kept hg h.dis, ?_, h.bel.grown hg h.bel.size (fun k hk => (h.o1.lt hk).1)⟩
  rcases hat with q | q
  · rw [q]; exact h.dis
  · rw [q]
    cases ht : t.ownBlock with
    | none => exact .inl rfl
    | some k => exact .inr fun e => by cases e; have := (h.o2.lt ht).2; omega
theorem PX.set2 {w2 : World} {s t t' : Value} {op : List Nat} {out out' : List (Nat × Nat)} {w w' : World} (h : PX w2 s op t out w) (ho : OwnE layPair 52 w' w2.heap.size t' out') (hg : w.grownBy w' t.ownBlock) (hat : t'.ownBlock = t.ownBlock ∨ t'.ownBlock = some w.heap.size) : PX w2 s op t' out' w' := by
  refine ⟨h.o1.kept hg (dis_symm' h.dis), ho, ?_, h.bel.grown hg h.bel.size (fun k hk => (h.o2.lt hk).1)⟩
  rcases hat with q | q
  · rw [q]; exact h.dis
  · rw [q]
    refine .inr fun e => ?_
    have := (h.o1.lt e.symm).2
    omega
theorem swS_take {l : List Bx} : ∀ (o : List Nat) (m : Nat) (s : List Nat × List (Nat × Nat)) (hm : m < o.length), swS l (o.take (m + 1)) s = (opnK l (swS l (o.take m) s).1 o[m] ++ [o[m]], (swS l (o.take m) s).2 ++ outK l (opnK l (swS l (o.take m) s).1 o[m]) o[m])
  | i :: o, 0, s, _ => by simp [swS]
  | i :: o, m + 1, s, hm => by
    rw [List.take_succ_cons, List.take_succ_cons, swS, swS]
    exact swS_take o m _ (by simpa using hm)
theorem ordTo_succ (l : List Bx) (m : Nat) : ordTo l (m + 1) = ordTo l m ++ (if vldB (bxAt l m) = true then [m] else []) := by
  unfold ordTo
  rw [List.range_succ, List.filter_append]
  congr 1
  cases h : vldB (bxAt l m) <;> simp [h]
theorem outK_take (l : List Bx) (op : List Nat) (i k : Nat) (hk : k < op.length) : outK l (op.take (k + 1)) i = outK l (op.take k) i ++ (if yMeet l i op[k] = true then [mkP i op[k]] else []) := by
  unfold outK
  rw [List.take_succ_eq_append_getElem hk, List.filter_append, List.map_append]
  congr 1
  cases h : yMeet l i op[k] <;> simp [h]
theorem cells_nat {w : World} {b : Nat} {i : Nat} (h : w.cell? ⟨b, 0, none⟩ = some (.int .i64 i)) : CellsE layNat w b 0 [i] :=
  ⟨lt_of_cell h, fun j hj m v hv => by
    obtain rfl : j = 0 := by simpa using hj
    cases m with
    | zero => have e : some (Value.int .i64 (i : Int)) = some v := hv; cases e; simpa [layNat] using h
    | succ m => simp [layNat] at hv⟩
theorem cells_pair {w : World} {b : Nat} {p : Nat × Nat} (h0 : w.cell? ⟨b, 0, none⟩ = some (.int .i64 p.1)) (h1 : w.cell? ⟨b, 1, none⟩ = some (.int .i64 p.2)) : CellsE layPair w b 0 [p] :=
  ⟨lt_of_cell h0, fun j hj m v hv => by
    obtain rfl : j = 0 := by simpa using hj
    match m, hv with
    | 0, hv => have e : some (Value.int .i64 (p.1 : Int)) = some v := hv; cases e; simpa [layPair] using h0
    | 1, hv => have e : some (Value.int .i64 (p.2 : Int)) = some v := hv; cases e; simpa [layPair] using h1
    | m + 2, hv => simp [layPair] at hv⟩
theorem CellsE.nat {w : World} {b off : Nat} {o : List Nat} (h : CellsE layNat w b off o) {m : Nat} (hm : m < o.length) : w.cell? ⟨b, off + m, none⟩ = some (.int .i64 (o[m] : Nat)) := by
  have := h.at_ m hm 0 _ rfl
  simpa [layNat] using this
theorem ordTo_lt {l : List Bx} {m k : Nat} (h : k ∈ ordTo l m) : k < m := by unfold ordTo at h; exact List.mem_range.1 (List.mem_filter.1 h).1
theorem ordTo_len (l : List Bx) (m : Nat) : (ordTo l m).length ≤ m := by unfold ordTo; exact Nat.le_trans (List.length_filter_le _ _) (by simp)
theorem opnK_len (l : List Bx) (op : List Nat) (i : Nat) : (opnK l op i).length ≤ op.length := List.length_filter_le _ _
theorem outK_len (l : List Bx) (op : List Nat) (i : Nat) : (outK l op i).length ≤ op.length := by unfold outK; rw [List.length_map]; exact List.length_filter_le _ _
theorem swS_sub {l : List Bx} : ∀ (o : List Nat) (s : List Nat × List (Nat × Nat)) (k : Nat), k ∈ (swS l o s).1 → k ∈ s.1 ∨ k ∈ o
  | [], s, k, h => .inl h
  | i :: o, s, k, h => by
    rw [swS] at h
    rcases swS_sub o _ k h with g | g
    · rw [List.mem_append, List.mem_singleton] at g
      rcases g with g | g
      · exact .inl (List.mem_filter.1 g).1
      · exact .inr (by rw [g]; exact List.mem_cons_self ..)
    · exact .inr (List.mem_cons_of_mem _ g)
theorem swS_len {l : List Bx} : ∀ (o : List Nat) (s : List Nat × List (Nat × Nat)), (swS l o s).1.length ≤ s.1.length + o.length ∧ (swS l o s).2.length ≤ s.2.length + o.length * (s.1.length + o.length)
  | [], s => by simp [swS]
  | i :: o, s => by
    rw [swS]
    obtain ⟨h1, h2⟩ := swS_len (l := l) o (opnK l s.1 i ++ [i], s.2 ++ outK l (opnK l s.1 i) i)
    have g1 := opnK_len l s.1 i
    have g2 := outK_len l (opnK l s.1 i) i
    simp only [List.length_append, List.length_cons, List.length_nil, Nat.zero_add] at *
    refine ⟨by omega, ?_⟩
    have m1 : o.length * ((opnK l s.1 i).length + 1 + o.length) ≤ o.length * (s.1.length + (o.length + 1)) := Nat.mul_le_mul_left _ (by omega)
    have m2 : (o.length + 1) * (s.1.length + (o.length + 1)) = o.length * (s.1.length + (o.length + 1)) + (s.1.length + (o.length + 1)) := by rw [Nat.add_mul, Nat.one_mul]
    omega

structure PY (w2 : World) (gi i : Nat) (s : Value) (op : List Nat) (t : Value) (out : List (Nat × Nat)) (w : World) : Prop where
  px : PX w2 s op t out w
  ci : w.cell? ⟨gi, 0, none⟩ = some (.int .i64 i)
  ns : ∀ k, s.ownBlock = some k → k ≠ gi
  nt : ∀ k, t.ownBlock = some k → k ≠ gi
theorem PY.keep {w2 : World} {gi i : Nat} {s t : Value} {op : List Nat} {out : List (Nat × Nat)} {w w' : World} (hb : Below w.heap.size w w') (h : PY w2 gi i s op t out w) : PY w2 gi i s op t out w' := ⟨h.px.keep hb, keepCell hb h.ci, h.ns, h.nt⟩
theorem PY.set2 {w2 : World} {gi i : Nat} {s t t' : Value} {op : List Nat} {out out' : List (Nat × Nat)} {w w' : World} (h : PY w2 gi i s op t out w) (ho : OwnE layPair 52 w' w2.heap.size t' out') (hg : w.grownBy w' t.ownBlock) (hat : t'.ownBlock = t.ownBlock ∨ t'.ownBlock = some w.heap.size) : PY w2 gi i s op t' out' w' := by
  refine ⟨h.px.set2 ho hg hat, hg.cell h.ci (fun e => h.nt gi e.symm rfl), h.ns, fun k hk => ?_⟩
  rcases hat with q | q
  · exact h.nt k (by rw [← q]; exact hk)
  · have := lt_of_cell h.ci
    rw [q] at hk
    cases hk
    omega
set_option maxRecDepth 100000 in
set_option maxHeartbeats 8000000 in
theorem pairsO_calls (A : Option Addr) (n c : Nat) (l : List Bx) (w : World) (hS : SlE layBox w A n c l) (hlen : l.length ≤ 1000) : Calls Try.prog 21 #[.slice A n c] w (RetPrO (pairsL l) w) := by
  have hn := hS.len
  subst hn
  have HS := hid hS
  have HV := hid svalid_calls
  clear hS
  obtain ⟨gb, hgb⟩ : ∃ g, g = w.heap.size := ⟨_, rfl⟩
  have HP0 : Hid (PW w gb (.slice A l.length c) (.slice none 0 0) (ordTo l 0) (w.alloc (.cells #[.slice A l.length c] 27))) := ⟨by rw [hgb]; go_simp, OwnE.nil _ _ _ _, by go_grown, by omega⟩
  have HGB := hid hgb
  go_enter Try.func21, Try.ntmps21
  go_wp2
  rw [← hgb]
  clear hgb
  go_loopw [3, 14] (fun s j wr => ∃ k : Nat, k ≤ l.length ∧ j = .int .i64 k ∧ PW w gb (.slice A l.length c) s (ordTo l k) wr) (fun _ j _ => l.length - (intOf j).toNat)
  case atStart => exact ⟨0, Nat.zero_le _, rfl, HP0.out⟩
  case round =>
    clear HP0
    obtain ⟨k, hk, rfl, hpw⟩ := hrel
    obtain ⟨wo, rfl⟩ : ∃ wo : World, wo = wr := ⟨_, rfl⟩
    have HPW := hid hpw
    by_cases hlt : k < l.length
    · have hlt' : (k : Int) < (l.length : Int) := by omega
      obtain ⟨b, off, rfl, hC⟩ := (HS.out.below hpw.bel).at_ (by intro h; subst h; simp at hlt)
      obtain ⟨x0, x1, x2, x3⟩ := hC.box hlt
      have hbl := hC.lt
      have hwk : IntKind.i64.wrap ((k : Int) + 1) = (k : Int) + 1 := IntWalk.i64_in _ (by omega)
      have HO := hid (ordTo_succ l k)
      have HOL : Hid ((ordTo l k).length ≤ 1000) := by show _ ≤ _; unfold ordTo; exact Nat.le_trans (List.length_filter_le _ _) (by simp; omega)
      have HVK := hid (HV.out (bxAt l k).1.1 (bxAt l k).1.2 (bxAt l k).2.1 (bxAt l k).2.2)
      change Hid (∀ w, Calls _ _ _ w (Ret (.bool (vldB (bxAt l k))) w)) at HVK
      generalize vldB (bxAt l k) = vk at *
      generalize (bxAt l k).1.1 = z0 at *
      generalize (bxAt l k).1.2 = z1 at *
      generalize (bxAt l k).2.1 = z2 at *
      generalize (bxAt l k).2.2 = z3 at *
      obtain ⟨wp, hwp⟩ : ∃ w', w' = wo.alloc (.cells #[.int .i64 z0, .int .i64 z1, .int .i64 z2, .int .i64 z3] 32) := ⟨_, rfl⟩
      obtain ⟨gp, hgp⟩ : ∃ g, g = wo.heap.size := ⟨_, rfl⟩
      have p0 : wp.cell? ⟨gp, 0, none⟩ = some (.int .i64 z0) := by rw [hwp, hgp]; go_simp
      have p1 : wp.cell? ⟨gp, 1, none⟩ = some (.int .i64 z1) := by rw [hwp, hgp]; go_simp
      have p2 : wp.cell? ⟨gp, 2, none⟩ = some (.int .i64 z2) := by rw [hwp, hgp]; go_simp
      have p3 : wp.cell? ⟨gp, 3, none⟩ = some (.int .i64 z3) := by rw [hwp, hgp]; go_simp
      have HP : Hid (PW w gb (.slice (some ⟨b, off, none⟩) l.length c) u3 (ordTo l k) wp) := by show PW _ _ _ _ _ _; rw [hwp]; exact HPW.out.keep ((Below.refl _ _).alloc (Nat.le_refl _) _)
      generalize ordTo l k = o at *
      clear hC hpw
      go_upto_region 5 with fail
      rw [← hwp, ← hgp]
      clear hwp hgp x0 x1 x2 x3 hbl HPW
      go_wp2_with fail
      refine (HVK.out _).mono ?_
      rintro e w1 ⟨rfl, hb1⟩
      replace HP := hid (HP.out.keep hb1)
      clear hb1 p0 p1 p2 p3 HVK
      cases vk with
      | true =>
        have HO2 : Hid (ordTo l (k + 1) = o ++ [k]) := by show _ = _; rw [HO.out]; rfl
        clear HO
        go_wp2_with (at_builtin; refine wpList_append_E tyNat rfl _ _ rfl (gb + 1) _ _ rfl (HP.out.own.alloc _) w1.heap.size 0 1 1 [k] rfl rfl (cells_nat (by go_simp)) (by have := HOL.out; simp; omega) (by have := HOL.out; simp; omega) (by have := lt_of_cell HP.out.cb; simp; omega) ?_; intro v' w7 ho1 hg1 hat; have HP7 := hid ((HP.out.keep ((Below.refl _ _).alloc (Nat.le_refl _) _)).app ho1 hg1); clear ho1 hg1 hat)
        clear HP
        go_roundw
        case rel => exact ⟨k + 1, hlt, by go_num, by rw [HO2.out]; exact HP7.out⟩
        case measure => simp [intOf]; omega
      | false =>
        have HO2 : Hid (ordTo l (k + 1) = o) := by show _ = _; rw [HO.out]; simp
        clear HO
        go_wp2
        go_roundw
        case rel => exact ⟨k + 1, hlt, by go_num, by rw [HO2.out]; exact HP.out⟩
        case measure => simp [intOf]; omega
    · have hke : k = l.length := by omega
      subst hke
      have hol := ordTo_len l l.length
      have HMEM : Hid (∀ k, k ∈ ordTo l l.length → k < l.length) := fun k hk => ordTo_lt hk
      have HSO := hid (sortOrd_calls l (ordTo l l.length) HMEM.out gb c (gb + 1) _ wo (fun hne => by
        obtain ⟨b, off, e, hC⟩ := HS.out.at_ (by intro h; subst h; exact hne rfl)
        exact ⟨b, off, by rw [← e]; exact hpw.cb, by have := hC.lt; have := HGB.out; omega, hC.below (by have := hpw.bel; exact this)⟩) (Nat.lt_succ_self gb) hpw.own (by omega))
      obtain ⟨hcb, hown, hbel, hle⟩ := hpw
      have HCB := hid hcb
      have HOWN := hid hown
      have HBEL := hid hbel
      have HLE := hid hle
      clear hcb hown hbel hle HPW
      go_wp2_with fail
      refine HSO.out.mono ?_
      rintro e w2 ⟨rfl, ⟨o, hperm, hsrt, how⟩, hgr⟩
      have HCB2 := hid (hgr.cell HCB.out (HOWN.out.ne (Nat.lt_succ_self gb)))
      have HBEL2 := hid (HBEL.out.grown hgr HBEL.out.size (fun k hk => by have := (HOWN.out.lt hk).1; have := HLE.out; omega))
      have HPERM := hid hperm
      have HSRT := hid hsrt
      have HOM : Hid (∀ k ∈ o, k < l.length) := fun k hk => HMEM.out k (HPERM.out.mem_iff.1 hk)
      have HOL : Hid (o.length ≤ 1000) := by show _ ≤ _; rw [HPERM.out.length_eq]; omega
      have hgb2 := lt_of_cell HCB2.out
      have hw2 := HBEL2.out.size
      obtain ⟨Ao, no, co, rfl, hso, -⟩ := how.sl
      have hno := hso.len
      subst hno
      have HSO2 := hid hso
      have hol2 := HOL.out
      clear HSO hperm hsrt how hgr HCB HOWN HBEL HLE hso hlt hk hol HMEM
      go_wp2
      go_loopw [6, 7, 31] (fun s t j wr => ∃ m : Nat, m ≤ o.length ∧ j = .int .i64 m ∧ PX w2 s (swS l (o.take m) ([], [])).1 t (swS l (o.take m) ([], [])).2 wr) (fun _ _ j _ => o.length - (intOf j).toNat)
      case atStart => exact ⟨0, Nat.zero_le _, rfl, OwnE.nil _ _ _ _, OwnE.nil _ _ _ _, .inl rfl, Below.refl _ _⟩
      case round =>
        obtain ⟨m, hm, rfl, hpx⟩ := hrel
        obtain ⟨wo2, rfl⟩ : ∃ wo : World, wo = wr := ⟨_, rfl⟩
        have HPX := hid hpx
        by_cases hlt : m < o.length
        · have hlt' : (m : Int) < (o.length : Int) := by omega
          have hwkm : IntKind.i64.wrap ((m : Int) + 1) = (m : Int) + 1 := IntWalk.i64_in _ (by omega)
          have HST : Hid (swS l (o.take (m + 1)) ([], []) = (opnK l (swS l (o.take m) ([], [])).1 o[m] ++ [o[m]], (swS l (o.take m) ([], [])).2 ++ outK l (opnK l (swS l (o.take m) ([], [])).1 o[m]) o[m])) := swS_take o m _ hlt
          have hil := HOM.out o[m] (List.getElem_mem hlt)
          obtain ⟨sl1, sl2⟩ := swS_len (l := l) (o.take m) ([], [])
          have htl : (o.take m).length = m := by rw [List.length_take]; omega
          rw [htl] at sl1 sl2
          have HOP : Hid (∀ k ∈ (swS l (o.take m) ([], [])).1, k < l.length) := fun k hk => by
            rcases swS_sub _ _ k hk with g | g
            · cases g
            · exact HOM.out k (List.mem_of_mem_take g)
          obtain ⟨bO, oO, hAo, hCo⟩ := (HSO2.out.below hpx.bel).at_ (by intro h; rw [h] at hlt; simp at hlt)
          subst hAo
          have xo := hCo.nat hlt
          have hblo := hCo.lt
          generalize (swS l (o.take m) ([], [])).1 = op at *
          generalize (swS l (o.take m) ([], [])).2 = out at *
          have HOPL : Hid (op.length ≤ 1000) := by show _ ≤ _; simp at sl1; omega
          have HOUL : Hid (out.length ≤ 1000000) := by
            show _ ≤ _
            simp at sl2
            have : m * m ≤ 1000 * 1000 := Nat.mul_le_mul (by omega) (by omega)
            omega
          obtain ⟨i, hie⟩ : ∃ i, i = o[m] := ⟨_, rfl⟩
          rw [← hie] at HST hil xo
          have hil' : (i : Int) < (l.length : Int) := by omega
          obtain ⟨b, off, hA, hC0⟩ := HS.out.at_ (by intro h; rw [h] at hil; simp at hil)
          subst hA
          have hb0 := hC0.lt
          have HC0 := hid hC0
          obtain ⟨gi, hgi⟩ : ∃ g, g = wo2.heap.size := ⟨_, rfl⟩
          obtain ⟨wi, hwi⟩ : ∃ w', w' = wo2.alloc (.cells #[.int .i64 i] 3) := ⟨_, rfl⟩
          have HPY : Hid (PY w2 gi i u6 op u7 out wi) := ⟨by rw [hwi]; exact hpx.keep ((Below.refl _ _).alloc (Nat.le_refl _) _), by rw [hwi, hgi]; go_simp, fun k hk => by rw [hgi]; have := (hpx.o1.lt hk).2; omega, fun k hk => by rw [hgi]; have := (hpx.o2.lt hk).2; omega⟩
          have HBI : Hid (Below w.heap.size w wi) := HBEL2.out.trans (HPY.out.px.bel.mono hw2)
          have HDL := hid (delOpen_calls l op i HOP.out hil gb gi b off c w2.heap.size _ wi (keepCell HPY.out.px.bel HCB2.out) HPY.out.ci HPY.out.ns (HC0.out.below HBI.out) hgb2 (by omega) HPY.out.px.o1 (by have := HOPL.out; omega))
          clear hpx hCo hC0 hie sl1 sl2 htl HPX
          go_upto_region 14 with fail
          rw [← hwi, ← hgi]
          clear hwi hgi xo hblo
          go_wp2_with fail
          refine HDL.out.mono ?_
          rintro e w5 ⟨⟨s', rfl, hat, ho1⟩, hg⟩
          have HPY5 : Hid (PY w2 gi i s' (opnK l op i) u7 out w5) := ⟨HPY.out.px.set1 ho1 hg (.inl hat), hg.cell HPY.out.ci (fun e => HPY.out.ns gi e.symm rfl), fun k hk => HPY.out.ns k (by rw [← hat]; exact hk), HPY.out.nt⟩
          have HKL : Hid ((opnK l op i).length ≤ 1000) := by have := opnK_len l op i; have := HOPL.out; show _ ≤ _; omega
          have HKM : Hid (∀ k ∈ opnK l op i, k < l.length) := fun k hk => HOP.out k (List.mem_filter.1 hk).1
          generalize opnK l op i = op1 at *
          obtain ⟨A1, n1, c1, rfl, hs1, -⟩ := ho1.sl
          have hn1 := hs1.len
          subst hn1
          have hkl := HKL.out
          clear HDL hat ho1 hg hs1 HPY HBI HOP HOPL
          go_wp2
          go_loopw [7, 40] (fun t j wr => ∃ k : Nat, k ≤ op1.length ∧ j = .int .i64 k ∧ PY w2 gi i (.slice A1 op1.length c1) op1 t (out ++ outK l (op1.take k) i) wr) (fun _ j _ => op1.length - (intOf j).toNat)
          case atStart => exact ⟨0, Nat.zero_le _, rfl, by simpa [outK] using HPY5.out⟩
          case round =>
            clear HPY5
            obtain ⟨k, hk, rfl, hpy⟩ := hrel
            obtain ⟨wv, rfl⟩ : ∃ wo : World, wo = wr := ⟨_, rfl⟩
            have HPY := hid hpy
            by_cases hlt2 : k < op1.length
            · have hlt2' : (k : Int) < (op1.length : Int) := by omega
              have hwkk : IntKind.i64.wrap ((k : Int) + 1) = (k : Int) + 1 := IntWalk.i64_in _ (by omega)
              have HOT := hid (outK_take l op1 i k hlt2)
              have hkl2 := HKM.out op1[k] (List.getElem_mem hlt2)
              have HOTL : Hid ((outK l (op1.take k) i).length ≤ 1000) := by have := outK_len l (op1.take k) i; rw [List.length_take] at this; show _ ≤ _; omega
              rcases hpy.px.o1.form with ⟨e1, e2⟩ | ⟨g1, cp1, e1, hB1, hg1, hn1, hm1, hf1, hc1⟩
              · rw [e2] at hlt2; simp at hlt2
              · cases e1
                have xk := hc1.nat hlt2
                rw [Nat.zero_add] at xk
                obtain ⟨kk, hkk⟩ : ∃ i, i = op1[k] := ⟨_, rfl⟩
                rw [← hkk] at HOT hkl2 xk
                have hkl2' : (kk : Int) < (l.length : Int) := by omega
                have hBw : Below w.heap.size w wv := HBEL2.out.trans (hpy.px.bel.mono hw2)
                have hCv := HC0.out.below hBw
                obtain ⟨-, u1, -, u3⟩ := hCv.box hil
                obtain ⟨-, v1, -, v3⟩ := hCv.box hkl2
                have g0 := keepCell hpy.px.bel HCB2.out
                have g1' := hpy.ci
                have hblv := hCv.lt
                have HYM : Hid (yMeet l i kk = (decide ((bxAt l kk).1.2 ≤ (bxAt l i).2.2) && decide ((bxAt l i).1.2 ≤ (bxAt l kk).2.2))) := rfl
                generalize yMeet l i kk = ym at *
                generalize (bxAt l i).1.2 = x1 at *
                generalize (bxAt l i).2.2 = x3 at *
                generalize (bxAt l kk).1.2 = y1 at *
                generalize (bxAt l kk).2.2 = y3 at *
                have hBv : Below wv.heap.size wv wv.drew := (Below.refl _ _).drew
                clear hpy hc1 hCv hBw hkk hf1
                by_cases d1 : y1 ≤ x3
                · go_upto_region 18 with fail
                  refine wp_region_noPanic ?_
                  refine wp_region_U (S := (S2 (fun w' => w'.cell? ⟨gb, 0, none⟩ = some (.slice (some ⟨b, off, none⟩) l.length c) ∧ w'.cell? ⟨gi, 0, none⟩ = some (.int .i64 i) ∧ w'.cell? ⟨b, off + i * 4 + 1, none⟩ = some (.int .i64 x1) ∧ w'.cell? ⟨b, off + i * 4 + 3, none⟩ = some (.int .i64 x3) ∧ w'.cell? ⟨b, off + kk * 4 + 1, none⟩ = some (.int .i64 y1) ∧ w'.cell? ⟨b, off + kk * 4 + 3, none⟩ = some (.int .i64 y3) ∧ Below wv.heap.size wv w'))) (T := (fun _ => 0)) (by kernel_rfl) (S2i0 ⟨g0, g1', u1, u3, v1, v3, hBv⟩) (fun hH => ?_)
                  have hWr1 : Weaker (S2 (fun w' => w'.cell? ⟨gb, 0, none⟩ = some (.slice (some ⟨b, off, none⟩) l.length c) ∧ w'.cell? ⟨gi, 0, none⟩ = some (.int .i64 i) ∧ w'.cell? ⟨b, off + i * 4 + 1, none⟩ = some (.int .i64 x1) ∧ w'.cell? ⟨b, off + i * 4 + 3, none⟩ = some (.int .i64 x3) ∧ w'.cell? ⟨b, off + kk * 4 + 1, none⟩ = some (.int .i64 y1) ∧ w'.cell? ⟨b, off + kk * 4 + 3, none⟩ = some (.int .i64 y3) ∧ Below wv.heap.size wv w')) := weaker2 _
                  refine U_take 0 44 27 0 0 (v := ?vr1_1) rfl (by kernel_rfl) (by kernel_rfl) hWr1 (by kernel_rfl) (by kernel_rfl) (by kernel_rfl) (by kernel_rfl) (by kernel_rfl) (by kernel_rfl) (fun _ _ _ _ h => h) (by kernel_rfl) ?hyr1_1 (by omega) hH ?_
                  case hyr1_1 => (intro w' hSw; replace hSw := S2o0 hSw; (try dsimp only at hSw); have q0 := hSw.1; have q1 := hSw.2.1; have q2 := hSw.2.2.1; have q3 := hSw.2.2.2.1; have q4 := hSw.2.2.2.2.1; have q5 := hSw.2.2.2.2.2.1; have q6 := hSw.2.2.2.2.2.2; go_simp; try (with_reducible rfl))
                  simp only [List.set_cons_zero, List.set_cons_succ]
                  refine U_take 1 45 26 0 0 (v := ?vr1_2) rfl (by kernel_rfl) (by kernel_rfl) hWr1 (by kernel_rfl) (by kernel_rfl) (by kernel_rfl) (by kernel_rfl) (by kernel_rfl) (by kernel_rfl) (fun _ _ _ _ h => h) (by kernel_rfl) ?hyr1_2 (by omega) hH ?_
                  case hyr1_2 => (intro w' hSw; clear hSw; go_simp; try (with_reducible rfl))
                  simp only [List.set_cons_zero, List.set_cons_succ]
                  refine U_take 2 46 25 0 0 (v := ?vr1_3) rfl (by kernel_rfl) (by kernel_rfl) hWr1 (by kernel_rfl) (by kernel_rfl) (by kernel_rfl) (by kernel_rfl) (by kernel_rfl) (by kernel_rfl) (fun _ _ _ _ h => h) (by kernel_rfl) ?hyr1_3 (by omega) hH ?_
                  case hyr1_3 => (intro w' hSw; clear hSw; go_simp; try (with_reducible rfl))
                  simp only [List.set_cons_zero, List.set_cons_succ]
                  refine U_take 3 47 24 0 0 (v := ?vr1_4) rfl (by kernel_rfl) (by kernel_rfl) hWr1 (by kernel_rfl) (by kernel_rfl) (by kernel_rfl) (by kernel_rfl) (by kernel_rfl) (by kernel_rfl) (fun _ _ _ _ h => h) (by kernel_rfl) ?hyr1_4 (by omega) hH ?_
                  case hyr1_4 => (intro w' hSw; clear hSw; go_simp; try (with_reducible rfl))
                  simp only [List.set_cons_zero, List.set_cons_succ]
                  refine U_take 4 48 23 0 0 (v := ?vr1_5) rfl (by kernel_rfl) (by kernel_rfl) hWr1 (by kernel_rfl) (by kernel_rfl) (by kernel_rfl) (by kernel_rfl) (by kernel_rfl) (by kernel_rfl) (fun _ _ _ _ h => h) (by kernel_rfl) ?hyr1_5 (by omega) hH ?_
                  case hyr1_5 => (intro w' hSw; clear hSw; go_simp; try (with_reducible rfl))
                  simp only [List.set_cons_zero, List.set_cons_succ]
                  refine U_take 5 49 22 0 0 (v := ?vr1_6) rfl (by kernel_rfl) (by kernel_rfl) hWr1 (by kernel_rfl) (by kernel_rfl) (by kernel_rfl) (by kernel_rfl) (by kernel_rfl) (by kernel_rfl) (fun _ _ _ _ h => h) (by kernel_rfl) ?hyr1_6 (by omega) hH ?_
                  case hyr1_6 => (intro w' hSw; replace hSw := S2o0 hSw; (try dsimp only at hSw); have q0 := hSw.1; have q1 := hSw.2.1; have q2 := hSw.2.2.1; have q3 := hSw.2.2.2.1; have q4 := hSw.2.2.2.2.1; have q5 := hSw.2.2.2.2.2.1; have q6 := hSw.2.2.2.2.2.2; go_simp; try (with_reducible rfl))
                  simp only [List.set_cons_zero, List.set_cons_succ]
                  refine U_take 6 50 21 0 0 (v := ?vr1_7) rfl (by kernel_rfl) (by kernel_rfl) hWr1 (by kernel_rfl) (by kernel_rfl) (by kernel_rfl) (by kernel_rfl) (by kernel_rfl) (by kernel_rfl) (fun _ _ _ _ h => h) (by kernel_rfl) ?hyr1_7 (by omega) hH ?_
                  case hyr1_7 => (intro w' hSw; replace hSw := S2o0 hSw; (try dsimp only at hSw); have q0 := hSw.1; have q1 := hSw.2.1; have q2 := hSw.2.2.1; have q3 := hSw.2.2.2.1; have q4 := hSw.2.2.2.2.1; have q5 := hSw.2.2.2.2.2.1; have q6 := hSw.2.2.2.2.2.2; go_simp; try (with_reducible rfl))
                  simp only [List.set_cons_zero, List.set_cons_succ]
                  refine U_take 7 51 20 0 0 (v := ?vr1_8) rfl (by kernel_rfl) (by kernel_rfl) hWr1 (by kernel_rfl) (by kernel_rfl) (by kernel_rfl) (by kernel_rfl) (by kernel_rfl) (by kernel_rfl) (fun _ _ _ _ h => h) (by kernel_rfl) ?hyr1_8 (by omega) hH ?_
                  case hyr1_8 => (intro w' hSw; replace hSw := S2o0 hSw; (try dsimp only at hSw); have q0 := hSw.1; have q1 := hSw.2.1; have q2 := hSw.2.2.1; have q3 := hSw.2.2.2.1; have q4 := hSw.2.2.2.2.1; have q5 := hSw.2.2.2.2.2.1; have q6 := hSw.2.2.2.2.2.2; go_simp; try (with_reducible rfl))
                  simp only [List.set_cons_zero, List.set_cons_succ]
                  refine U_take 8 52 19 0 0 (v := ?vr1_9) rfl (by kernel_rfl) (by kernel_rfl) hWr1 (by kernel_rfl) (by kernel_rfl) (by kernel_rfl) (by kernel_rfl) (by kernel_rfl) (by kernel_rfl) (fun _ _ _ _ h => h) (by kernel_rfl) ?hyr1_9 (by omega) hH ?_
                  case hyr1_9 => (intro w' hSw; clear hSw; go_simp; try (with_reducible rfl))
                  simp only [List.set_cons_zero, List.set_cons_succ]
                  refine U_take 9 53 18 0 0 (v := ?vr1_10) rfl (by kernel_rfl) (by kernel_rfl) hWr1 (by kernel_rfl) (by kernel_rfl) (by kernel_rfl) (by kernel_rfl) (by kernel_rfl) (by kernel_rfl) (fun _ _ _ _ h => h) (by kernel_rfl) ?hyr1_10 (by omega) hH ?_
                  case hyr1_10 => (intro w' hSw; clear hSw; go_simp; try (with_reducible rfl))
                  simp only [List.set_cons_zero, List.set_cons_succ]
                  refine U_take 10 54 17 0 0 (v := ?vr1_11) rfl (by kernel_rfl) (by kernel_rfl) hWr1 (by kernel_rfl) (by kernel_rfl) (by kernel_rfl) (by kernel_rfl) (by kernel_rfl) (by kernel_rfl) (fun _ _ _ _ h => h) (by kernel_rfl) ?hyr1_11 (by omega) hH ?_
                  case hyr1_11 => (intro w' hSw; clear hSw; go_simp; try (with_reducible rfl))
                  simp only [List.set_cons_zero, List.set_cons_succ]
                  refine U_take 11 55 16 0 0 (v := ?vr1_12) rfl (by kernel_rfl) (by kernel_rfl) hWr1 (by kernel_rfl) (by kernel_rfl) (by kernel_rfl) (by kernel_rfl) (by kernel_rfl) (by kernel_rfl) (fun _ _ _ _ h => h) (by kernel_rfl) ?hyr1_12 (by omega) hH ?_
                  case hyr1_12 => (intro w' hSw; replace hSw := S2o0 hSw; (try dsimp only at hSw); have q0 := hSw.1; have q1 := hSw.2.1; have q2 := hSw.2.2.1; have q3 := hSw.2.2.2.1; have q4 := hSw.2.2.2.2.1; have q5 := hSw.2.2.2.2.2.1; have q6 := hSw.2.2.2.2.2.2; go_simp; try (with_reducible rfl))
                  simp only [List.set_cons_zero, List.set_cons_succ]
                  refine U_take 12 56 15 0 0 (v := ?vr1_13) rfl (by kernel_rfl) (by kernel_rfl) hWr1 (by kernel_rfl) (by kernel_rfl) (by kernel_rfl) (by kernel_rfl) (by kernel_rfl) (by kernel_rfl) (fun _ _ _ _ h => h) (by kernel_rfl) ?hyr1_13 (by omega) hH ?_
                  case hyr1_13 => (intro w' hSw; clear hSw; go_simp; try (with_reducible rfl))
                  simp only [List.set_cons_zero, List.set_cons_succ]
                  refine U_take 13 57 14 0 0 (v := ?vr1_14) rfl (by kernel_rfl) (by kernel_rfl) hWr1 (by kernel_rfl) (by kernel_rfl) (by kernel_rfl) (by kernel_rfl) (by kernel_rfl) (by kernel_rfl) (fun _ _ _ _ h => h) (by kernel_rfl) ?hyr1_14 (by omega) hH ?_
                  case hyr1_14 => (intro w' hSw; clear hSw; go_simp; try (with_reducible rfl))
                  simp only [List.set_cons_zero, List.set_cons_succ]
                  refine U_take 14 58 13 0 0 (v := ?vr1_15) rfl (by kernel_rfl) (by kernel_rfl) hWr1 (by kernel_rfl) (by kernel_rfl) (by kernel_rfl) (by kernel_rfl) (by kernel_rfl) (by kernel_rfl) (fun _ _ _ _ h => h) (by kernel_rfl) ?hyr1_15 (by omega) hH ?_
                  case hyr1_15 => (intro w' hSw; replace hSw := S2o0 hSw; (try dsimp only at hSw); have q0 := hSw.1; have q1 := hSw.2.1; have q2 := hSw.2.2.1; have q3 := hSw.2.2.2.1; have q4 := hSw.2.2.2.2.1; have q5 := hSw.2.2.2.2.2.1; have q6 := hSw.2.2.2.2.2.2; go_simp; try (with_reducible rfl))
                  simp only [List.set_cons_zero, List.set_cons_succ]
                  refine U_take 15 59 12 0 0 (v := ?vr1_16) rfl (by kernel_rfl) (by kernel_rfl) hWr1 (by kernel_rfl) (by kernel_rfl) (by kernel_rfl) (by kernel_rfl) (by kernel_rfl) (by kernel_rfl) (fun _ _ _ _ h => h) (by kernel_rfl) ?hyr1_16 (by omega) hH ?_
                  case hyr1_16 => (intro w' hSw; replace hSw := S2o0 hSw; (try dsimp only at hSw); have q0 := hSw.1; have q1 := hSw.2.1; have q2 := hSw.2.2.1; have q3 := hSw.2.2.2.1; have q4 := hSw.2.2.2.2.1; have q5 := hSw.2.2.2.2.2.1; have q6 := hSw.2.2.2.2.2.2; go_simp; try (with_reducible rfl))
                  simp only [List.set_cons_zero, List.set_cons_succ]
                  refine U_take 16 60 11 0 0 (v := ?vr1_17) rfl (by kernel_rfl) (by kernel_rfl) hWr1 (by kernel_rfl) (by kernel_rfl) (by kernel_rfl) (by kernel_rfl) (by kernel_rfl) (by kernel_rfl) (fun _ _ _ _ h => h) (by kernel_rfl) ?hyr1_17 (by omega) hH ?_
                  case hyr1_17 => (intro w' hSw; clear hSw; go_simp; try (with_reducible rfl))
                  simp only [List.set_cons_zero, List.set_cons_succ]
                  refine U_take 17 61 10 0 0 (v := ?vr1_18) rfl (by kernel_rfl) (by kernel_rfl) hWr1 (by kernel_rfl) (by kernel_rfl) (by kernel_rfl) (by kernel_rfl) (by kernel_rfl) (by kernel_rfl) (fun _ _ _ _ h => h) (by kernel_rfl) ?hyr1_18 (by omega) hH ?_
                  case hyr1_18 => (intro w' hSw; clear hSw; go_simp; try (with_reducible rfl))
                  simp only [List.set_cons_zero, List.set_cons_succ]
                  refine U_take 18 62 9 0 0 (v := ?vr1_19) rfl (by kernel_rfl) (by kernel_rfl) hWr1 (by kernel_rfl) (by kernel_rfl) (by kernel_rfl) (by kernel_rfl) (by kernel_rfl) (by kernel_rfl) (fun _ _ _ _ h => h) (by kernel_rfl) ?hyr1_19 (by omega) hH ?_
                  case hyr1_19 => (intro w' hSw; clear hSw; go_simp; try (with_reducible rfl))
                  simp only [List.set_cons_zero, List.set_cons_succ]
                  refine U_take 19 63 8 0 0 (v := ?vr1_20) rfl (by kernel_rfl) (by kernel_rfl) hWr1 (by kernel_rfl) (by kernel_rfl) (by kernel_rfl) (by kernel_rfl) (by kernel_rfl) (by kernel_rfl) (fun _ _ _ _ h => h) (by kernel_rfl) ?hyr1_20 (by omega) hH ?_
                  case hyr1_20 => (intro w' hSw; replace hSw := S2o0 hSw; (try dsimp only at hSw); have q0 := hSw.1; have q1 := hSw.2.1; have q2 := hSw.2.2.1; have q3 := hSw.2.2.2.1; have q4 := hSw.2.2.2.2.1; have q5 := hSw.2.2.2.2.2.1; have q6 := hSw.2.2.2.2.2.2; go_simp; try (with_reducible rfl))
                  simp only [List.set_cons_zero, List.set_cons_succ]
                  refine U_take 20 64 7 0 0 (v := ?vr1_21) rfl (by kernel_rfl) (by kernel_rfl) hWr1 (by kernel_rfl) (by kernel_rfl) (by kernel_rfl) (by kernel_rfl) (by kernel_rfl) (by kernel_rfl) (fun _ _ _ _ h => h) (by kernel_rfl) ?hyr1_21 (by omega) hH ?_
                  case hyr1_21 => (intro w' hSw; replace hSw := S2o0 hSw; (try dsimp only at hSw); have q0 := hSw.1; have q1 := hSw.2.1; have q2 := hSw.2.2.1; have q3 := hSw.2.2.2.1; have q4 := hSw.2.2.2.2.1; have q5 := hSw.2.2.2.2.2.1; have q6 := hSw.2.2.2.2.2.2; go_simp; try (with_reducible rfl))
                  simp only [List.set_cons_zero, List.set_cons_succ]
                  refine U_take 21 65 6 0 0 (v := ?vr1_22) rfl (by kernel_rfl) (by kernel_rfl) hWr1 (by kernel_rfl) (by kernel_rfl) (by kernel_rfl) (by kernel_rfl) (by kernel_rfl) (by kernel_rfl) (fun _ _ _ _ h => h) (by kernel_rfl) ?hyr1_22 (by omega) hH ?_
                  case hyr1_22 => (intro w' hSw; clear hSw; go_simp; try (with_reducible rfl))
                  simp only [List.set_cons_zero, List.set_cons_succ]
                  refine U_take 22 66 5 0 0 (v := ?vr1_23) rfl (by kernel_rfl) (by kernel_rfl) hWr1 (by kernel_rfl) (by kernel_rfl) (by kernel_rfl) (by kernel_rfl) (by kernel_rfl) (by kernel_rfl) (fun _ _ _ _ h => h) (by kernel_rfl) ?hyr1_23 (by omega) hH ?_
                  case hyr1_23 => (intro w' hSw; clear hSw; go_simp; try (with_reducible rfl))
                  simp only [List.set_cons_zero, List.set_cons_succ]
                  refine U_take 23 67 4 0 0 (v := ?vr1_24) rfl (by kernel_rfl) (by kernel_rfl) hWr1 (by kernel_rfl) (by kernel_rfl) (by kernel_rfl) (by kernel_rfl) (by kernel_rfl) (by kernel_rfl) (fun _ _ _ _ h => h) (by kernel_rfl) ?hyr1_24 (by omega) hH ?_
                  case hyr1_24 => (intro w' hSw; clear hSw; go_simp; try (with_reducible rfl))
                  simp only [List.set_cons_zero, List.set_cons_succ]
                  refine U_take 24 68 3 0 0 (v := ?vr1_25) rfl (by kernel_rfl) (by kernel_rfl) hWr1 (by kernel_rfl) (by kernel_rfl) (by kernel_rfl) (by kernel_rfl) (by kernel_rfl) (by kernel_rfl) (fun _ _ _ _ h => h) (by kernel_rfl) ?hyr1_25 (by omega) hH ?_
                  case hyr1_25 => (intro w' hSw; clear hSw; go_simp; try (with_reducible rfl))
                  simp only [List.set_cons_zero, List.set_cons_succ]
                  refine U_take 25 69 2 0 0 (v := ?vr1_26) rfl (by kernel_rfl) (by kernel_rfl) hWr1 (by kernel_rfl) (by kernel_rfl) (by kernel_rfl) (by kernel_rfl) (by kernel_rfl) (by kernel_rfl) (fun _ _ _ _ h => h) (by kernel_rfl) ?hyr1_26 (by omega) hH ?_
                  case hyr1_26 => (intro w' hSw; replace hSw := S2o0 hSw; (try dsimp only at hSw); have q0 := hSw.1; have q1 := hSw.2.1; have q2 := hSw.2.2.1; have q3 := hSw.2.2.2.1; have q4 := hSw.2.2.2.2.1; have q5 := hSw.2.2.2.2.2.1; have q6 := hSw.2.2.2.2.2.2; go_simp; try (with_reducible rfl))
                  simp only [List.set_cons_zero, List.set_cons_succ]
                  refine U_take 26 70 1 0 0 (v := ?vr1_27) rfl (by kernel_rfl) (by kernel_rfl) hWr1 (by kernel_rfl) (by kernel_rfl) (by kernel_rfl) (by kernel_rfl) (by kernel_rfl) (by kernel_rfl) (fun _ _ _ _ h => h) (by kernel_rfl) ?hyr1_27 (by omega) hH ?_
                  case hyr1_27 => (intro w' hSw; clear hSw; go_simp; try (with_reducible rfl))
                  simp only [List.set_cons_zero, List.set_cons_succ]
                  refine U_take 27 71 0 0 0 (v := ?vr1_28) rfl (by kernel_rfl) (by kernel_rfl) hWr1 (by kernel_rfl) (by kernel_rfl) (by kernel_rfl) (by kernel_rfl) (by kernel_rfl) (by kernel_rfl) (fun _ _ _ _ h => h) (by kernel_rfl) ?hyr1_28 (by omega) hH ?_
                  case hyr1_28 => (intro w' hSw; clear hSw; go_simp; try (with_reducible rfl))
                  simp only [List.set_cons_zero, List.set_cons_succ]
                  refine wpAnyU_done (by kernel_rfl) ?_ _ _
                  refine NoPanic.normal ?_
                  clear hWr1
                  replace hH := S2o0 hH
                  (try dsimp only at hH)
                  have q0 := hH.1
                  have q1 := hH.2.1
                  have q2 := hH.2.2.1
                  have q3 := hH.2.2.2.1
                  have q4 := hH.2.2.2.2.1
                  have q5 := hH.2.2.2.2.2.1
                  have q6 := hH.2.2.2.2.2.2
                  clear hH
                  have HPQ := hid (HPY.out.keep q6)
                  clear HPY g0 g1' u1 u3 v1 v3 hBv q0 q2 q3 q4 q5 q6 xk
                  generalize wv.drew = wq at *
                  by_cases d2 : x1 ≤ y3
                  · have HO2 : Hid (outK l (op1.take (k + 1)) i = outK l (op1.take k) i ++ [mkP i kk]) := by show _ = _; rw [HOT.out, HYM.out, decide_eq_true d1, decide_eq_true d2]; rfl
                    have e1 : ((mkP i kk).1 : Int) = min (i : Int) (kk : Int) := by unfold mkP; dsimp only; omega
                    have e2 : ((mkP i kk).2 : Int) = max (i : Int) (kk : Int) := by unfold mkP; dsimp only; omega
                    have HE := hid (And.intro e1 e2)
                    clear HOT HYM e1 e2
                    go_wp2_with (at_builtin; refine wpList_append_E tyPair rfl _ _ rfl w2.heap.size _ _ rfl (HPQ.out.px.o2.alloc _) wq.heap.size 0 1 1 [mkP i kk] rfl rfl (cells_pair (by rw [HE.out.1]; go_simp) (by rw [HE.out.2]; go_simp)) (by have := HOUL.out; have := HOTL.out; simp; omega) (by have := HOUL.out; have := HOTL.out; simp; omega) (by have := HPQ.out.px.bel.size; simp; omega) ?_; intro v' w7 ho1 hg1 hat; have HP7 := hid ((HPQ.out.keep ((Below.refl _ _).alloc (Nat.le_refl _) _)).set2 ho1 hg1 hat); clear ho1 hg1 hat)
                    clear HPQ q1
                    go_roundw
                    case rel => exact ⟨k + 1, hlt2, by go_num, by rw [HO2.out, ← List.append_assoc]; exact HP7.out⟩
                    case measure => simp [intOf]; omega
                  · have HO2 : Hid (outK l (op1.take (k + 1)) i = outK l (op1.take k) i) := by show _ = _; rw [HOT.out, HYM.out, decide_eq_true d1, decide_eq_false d2]; simp
                    clear HOT HYM q1
                    go_wp2
                    go_roundw
                    case rel => exact ⟨k + 1, hlt2, by go_num, by rw [HO2.out]; exact HPQ.out⟩
                    case measure => simp [intOf]; omega
                · go_upto_region 18 with fail
                  refine wp_region_noPanic ?_
                  refine wp_region_U (S := (S2 (fun w' => w'.cell? ⟨gb, 0, none⟩ = some (.slice (some ⟨b, off, none⟩) l.length c) ∧ w'.cell? ⟨gi, 0, none⟩ = some (.int .i64 i) ∧ w'.cell? ⟨b, off + i * 4 + 1, none⟩ = some (.int .i64 x1) ∧ w'.cell? ⟨b, off + i * 4 + 3, none⟩ = some (.int .i64 x3) ∧ w'.cell? ⟨b, off + kk * 4 + 1, none⟩ = some (.int .i64 y1) ∧ w'.cell? ⟨b, off + kk * 4 + 3, none⟩ = some (.int .i64 y3) ∧ Below wv.heap.size wv w'))) (T := (fun _ => 0)) (by kernel_rfl) (S2i0 ⟨g0, g1', u1, u3, v1, v3, hBv⟩) (fun hH => ?_)
                  have hWr2 : Weaker (S2 (fun w' => w'.cell? ⟨gb, 0, none⟩ = some (.slice (some ⟨b, off, none⟩) l.length c) ∧ w'.cell? ⟨gi, 0, none⟩ = some (.int .i64 i) ∧ w'.cell? ⟨b, off + i * 4 + 1, none⟩ = some (.int .i64 x1) ∧ w'.cell? ⟨b, off + i * 4 + 3, none⟩ = some (.int .i64 x3) ∧ w'.cell? ⟨b, off + kk * 4 + 1, none⟩ = some (.int .i64 y1) ∧ w'.cell? ⟨b, off + kk * 4 + 3, none⟩ = some (.int .i64 y3) ∧ Below wv.heap.size wv w')) := weaker2 _
                  refine U_take 0 44 27 0 0 (v := ?vr2_1) rfl (by kernel_rfl) (by kernel_rfl) hWr2 (by kernel_rfl) (by kernel_rfl) (by kernel_rfl) (by kernel_rfl) (by kernel_rfl) (by kernel_rfl) (fun _ _ _ _ h => h) (by kernel_rfl) ?hyr2_1 (by omega) hH ?_
                  case hyr2_1 => (intro w' hSw; replace hSw := S2o0 hSw; (try dsimp only at hSw); have q0 := hSw.1; have q1 := hSw.2.1; have q2 := hSw.2.2.1; have q3 := hSw.2.2.2.1; have q4 := hSw.2.2.2.2.1; have q5 := hSw.2.2.2.2.2.1; have q6 := hSw.2.2.2.2.2.2; go_simp; try (with_reducible rfl))
                  simp only [List.set_cons_zero, List.set_cons_succ]
                  refine U_take 1 45 26 0 0 (v := ?vr2_2) rfl (by kernel_rfl) (by kernel_rfl) hWr2 (by kernel_rfl) (by kernel_rfl) (by kernel_rfl) (by kernel_rfl) (by kernel_rfl) (by kernel_rfl) (fun _ _ _ _ h => h) (by kernel_rfl) ?hyr2_2 (by omega) hH ?_
                  case hyr2_2 => (intro w' hSw; clear hSw; go_simp; try (with_reducible rfl))
                  simp only [List.set_cons_zero, List.set_cons_succ]
                  refine U_take 2 46 25 0 0 (v := ?vr2_3) rfl (by kernel_rfl) (by kernel_rfl) hWr2 (by kernel_rfl) (by kernel_rfl) (by kernel_rfl) (by kernel_rfl) (by kernel_rfl) (by kernel_rfl) (fun _ _ _ _ h => h) (by kernel_rfl) ?hyr2_3 (by omega) hH ?_
                  case hyr2_3 => (intro w' hSw; clear hSw; go_simp; try (with_reducible rfl))
                  simp only [List.set_cons_zero, List.set_cons_succ]
                  refine U_take 3 47 24 0 0 (v := ?vr2_4) rfl (by kernel_rfl) (by kernel_rfl) hWr2 (by kernel_rfl) (by kernel_rfl) (by kernel_rfl) (by kernel_rfl) (by kernel_rfl) (by kernel_rfl) (fun _ _ _ _ h => h) (by kernel_rfl) ?hyr2_4 (by omega) hH ?_
                  case hyr2_4 => (intro w' hSw; clear hSw; go_simp; try (with_reducible rfl))
                  simp only [List.set_cons_zero, List.set_cons_succ]
                  refine U_take 4 48 23 0 0 (v := ?vr2_5) rfl (by kernel_rfl) (by kernel_rfl) hWr2 (by kernel_rfl) (by kernel_rfl) (by kernel_rfl) (by kernel_rfl) (by kernel_rfl) (by kernel_rfl) (fun _ _ _ _ h => h) (by kernel_rfl) ?hyr2_5 (by omega) hH ?_
                  case hyr2_5 => (intro w' hSw; clear hSw; go_simp; try (with_reducible rfl))
                  simp only [List.set_cons_zero, List.set_cons_succ]
                  refine U_take 5 49 22 0 0 (v := ?vr2_6) rfl (by kernel_rfl) (by kernel_rfl) hWr2 (by kernel_rfl) (by kernel_rfl) (by kernel_rfl) (by kernel_rfl) (by kernel_rfl) (by kernel_rfl) (fun _ _ _ _ h => h) (by kernel_rfl) ?hyr2_6 (by omega) hH ?_
                  case hyr2_6 => (intro w' hSw; replace hSw := S2o0 hSw; (try dsimp only at hSw); have q0 := hSw.1; have q1 := hSw.2.1; have q2 := hSw.2.2.1; have q3 := hSw.2.2.2.1; have q4 := hSw.2.2.2.2.1; have q5 := hSw.2.2.2.2.2.1; have q6 := hSw.2.2.2.2.2.2; go_simp; try (with_reducible rfl))
                  simp only [List.set_cons_zero, List.set_cons_succ]
                  refine U_take 6 50 21 0 0 (v := ?vr2_7) rfl (by kernel_rfl) (by kernel_rfl) hWr2 (by kernel_rfl) (by kernel_rfl) (by kernel_rfl) (by kernel_rfl) (by kernel_rfl) (by kernel_rfl) (fun _ _ _ _ h => h) (by kernel_rfl) ?hyr2_7 (by omega) hH ?_
                  case hyr2_7 => (intro w' hSw; replace hSw := S2o0 hSw; (try dsimp only at hSw); have q0 := hSw.1; have q1 := hSw.2.1; have q2 := hSw.2.2.1; have q3 := hSw.2.2.2.1; have q4 := hSw.2.2.2.2.1; have q5 := hSw.2.2.2.2.2.1; have q6 := hSw.2.2.2.2.2.2; go_simp; try (with_reducible rfl))
                  simp only [List.set_cons_zero, List.set_cons_succ]
                  refine U_take 7 51 20 0 0 (v := ?vr2_8) rfl (by kernel_rfl) (by kernel_rfl) hWr2 (by kernel_rfl) (by kernel_rfl) (by kernel_rfl) (by kernel_rfl) (by kernel_rfl) (by kernel_rfl) (fun _ _ _ _ h => h) (by kernel_rfl) ?hyr2_8 (by omega) hH ?_
                  case hyr2_8 => (intro w' hSw; replace hSw := S2o0 hSw; (try dsimp only at hSw); have q0 := hSw.1; have q1 := hSw.2.1; have q2 := hSw.2.2.1; have q3 := hSw.2.2.2.1; have q4 := hSw.2.2.2.2.1; have q5 := hSw.2.2.2.2.2.1; have q6 := hSw.2.2.2.2.2.2; go_simp; try (with_reducible rfl))
                  simp only [List.set_cons_zero, List.set_cons_succ]
                  refine U_take 8 52 19 0 0 (v := ?vr2_9) rfl (by kernel_rfl) (by kernel_rfl) hWr2 (by kernel_rfl) (by kernel_rfl) (by kernel_rfl) (by kernel_rfl) (by kernel_rfl) (by kernel_rfl) (fun _ _ _ _ h => h) (by kernel_rfl) ?hyr2_9 (by omega) hH ?_
                  case hyr2_9 => (intro w' hSw; clear hSw; go_simp; try (with_reducible rfl))
                  simp only [List.set_cons_zero, List.set_cons_succ]
                  refine U_take 9 53 18 0 0 (v := ?vr2_10) rfl (by kernel_rfl) (by kernel_rfl) hWr2 (by kernel_rfl) (by kernel_rfl) (by kernel_rfl) (by kernel_rfl) (by kernel_rfl) (by kernel_rfl) (fun _ _ _ _ h => h) (by kernel_rfl) ?hyr2_10 (by omega) hH ?_
                  case hyr2_10 => (intro w' hSw; clear hSw; go_simp; try (with_reducible rfl))
                  simp only [List.set_cons_zero, List.set_cons_succ]
                  refine U_take 10 54 17 0 0 (v := ?vr2_11) rfl (by kernel_rfl) (by kernel_rfl) hWr2 (by kernel_rfl) (by kernel_rfl) (by kernel_rfl) (by kernel_rfl) (by kernel_rfl) (by kernel_rfl) (fun _ _ _ _ h => h) (by kernel_rfl) ?hyr2_11 (by omega) hH ?_
                  case hyr2_11 => (intro w' hSw; clear hSw; go_simp; try (with_reducible rfl))
                  simp only [List.set_cons_zero, List.set_cons_succ]
                  refine U_take 11 55 16 0 0 (v := ?vr2_12) rfl (by kernel_rfl) (by kernel_rfl) hWr2 (by kernel_rfl) (by kernel_rfl) (by kernel_rfl) (by kernel_rfl) (by kernel_rfl) (by kernel_rfl) (fun _ _ _ _ h => h) (by kernel_rfl) ?hyr2_12 (by omega) hH ?_
                  case hyr2_12 => (intro w' hSw; replace hSw := S2o0 hSw; (try dsimp only at hSw); have q0 := hSw.1; have q1 := hSw.2.1; have q2 := hSw.2.2.1; have q3 := hSw.2.2.2.1; have q4 := hSw.2.2.2.2.1; have q5 := hSw.2.2.2.2.2.1; have q6 := hSw.2.2.2.2.2.2; go_simp; try (with_reducible rfl))
                  simp only [List.set_cons_zero, List.set_cons_succ]
                  refine U_take 12 56 15 0 0 (v := ?vr2_13) rfl (by kernel_rfl) (by kernel_rfl) hWr2 (by kernel_rfl) (by kernel_rfl) (by kernel_rfl) (by kernel_rfl) (by kernel_rfl) (by kernel_rfl) (fun _ _ _ _ h => h) (by kernel_rfl) ?hyr2_13 (by omega) hH ?_
                  case hyr2_13 => (intro w' hSw; clear hSw; go_simp; try (with_reducible rfl))
                  simp only [List.set_cons_zero, List.set_cons_succ]
                  refine U_take 13 57 14 0 0 (v := ?vr2_14) rfl (by kernel_rfl) (by kernel_rfl) hWr2 (by kernel_rfl) (by kernel_rfl) (by kernel_rfl) (by kernel_rfl) (by kernel_rfl) (by kernel_rfl) (fun _ _ _ _ h => h) (by kernel_rfl) ?hyr2_14 (by omega) hH ?_
                  case hyr2_14 => (intro w' hSw; clear hSw; go_simp; try (with_reducible rfl))
                  simp only [List.set_cons_zero, List.set_cons_succ]
                  refine U_skips (by kernel_rfl) (fun _ _ _ _ h => h) hWr2 0 0 (by omega) hH [(14, 58), (15, 59), (16, 60), (17, 61), (18, 62), (19, 63), (20, 64), (21, 65), (22, 66), (23, 67), (24, 68), (25, 69), (26, 70)] 1 _ _ _ (by kernel_rfl) (by kernel_rfl) ?_
                  simp only [tsetUndef, List.set_cons_zero, List.set_cons_succ]
                  refine U_take 27 71 0 0 0 (v := ?vr2_15) rfl (by kernel_rfl) (by kernel_rfl) hWr2 (by kernel_rfl) (by kernel_rfl) (by kernel_rfl) (by kernel_rfl) (by kernel_rfl) (by kernel_rfl) (fun _ _ _ _ h => h) (by kernel_rfl) ?hyr2_15 (by omega) hH ?_
                  case hyr2_15 => (intro w' hSw; clear hSw; go_simp; try (with_reducible rfl))
                  simp only [List.set_cons_zero, List.set_cons_succ]
                  refine wpAnyU_done (by kernel_rfl) ?_ _ _
                  refine NoPanic.normal ?_
                  clear hWr2
                  replace hH := S2o0 hH
                  (try dsimp only at hH)
                  have q0 := hH.1
                  have q1 := hH.2.1
                  have q2 := hH.2.2.1
                  have q3 := hH.2.2.2.1
                  have q4 := hH.2.2.2.2.1
                  have q5 := hH.2.2.2.2.2.1
                  have q6 := hH.2.2.2.2.2.2
                  clear hH
                  have HPQ := hid (HPY.out.keep q6)
                  have HO2 : Hid (outK l (op1.take (k + 1)) i = outK l (op1.take k) i) := by show _ = _; rw [HOT.out, HYM.out, decide_eq_false d1]; simp
                  clear HPY g0 g1' u1 u3 v1 v3 hBv q0 q1 q2 q3 q4 q5 q6 xk HOT HYM
                  generalize wv.drew = wq at *
                  go_wp2
                  go_roundw
                  case rel => exact ⟨k + 1, hlt2, by go_num, by rw [HO2.out]; exact HPQ.out⟩
                  case measure => simp [intOf]; omega
            · have hke : k = op1.length := by omega
              subst hke
              rw [List.take_length] at HPY
              have ci := hpy.ci
              clear hpy
              go_wp2_with (at_builtin; refine wpList_append_E tyNat rfl _ _ rfl w2.heap.size _ _ rfl (HPY.out.px.o1.alloc _) wv.heap.size 0 1 1 [i] rfl rfl (cells_nat (by go_simp)) (by have := HKL.out; simp; omega) (by have := HKL.out; simp; omega) (by have := HPY.out.px.bel.size; simp; omega) ?_; intro v' w7 ho1 hg1 hat; have HP7 := hid ((HPY.out.px.keep ((Below.refl _ _).alloc (Nat.le_refl _) _)).set1 ho1 hg1 hat); clear ho1 hg1 hat)
              clear HPY ci
              go_roundw
              case rel => exact ⟨m + 1, hlt, by go_num, by rw [HST.out]; exact HP7.out⟩
              case measure => simp [intOf]; omega
        · have hme : m = o.length := by omega
          subst hme
          rw [List.take_length] at HPX
          have hfin := swS_len (l := l) o ([], [])
          have hfl : (swS l o ([], [])).2.length ≤ 1000000 := by
            have := hfin.2
            simp at this
            have : o.length * o.length ≤ 1000 * 1000 := Nat.mul_le_mul (by omega) (by omega)
            omega
          have HSP := hid (sortPairs_calls _ w2.heap.size _ wo2 HPX.out.o2 hfl)
          clear hpx hfin hfl
          go_wp2_with fail
          refine HSP.out.mono ?_
          rintro e w5 ⟨rfl, ⟨r, hrp, hrs, hro⟩, hg⟩
          have HLAW := hid (sweep_law HPERM.out HSRT.out hrp (hrs.imp fun h => Int.not_lt.2 h))
          have HB5 : Hid (Below w.heap.size w w5) := HBEL2.out.trans ((HPX.out.bel.grown hg HPX.out.bel.size (fun k hk => (HPX.out.o2.lt hk).1)).mono hw2)
          obtain ⟨Ar, nr, cr, rfl, hsr, hfr⟩ := hro.sl
          have HRT : Hid (RetPrO (pairsL l) w (.returned (.slice Ar nr cr)) w5) := ⟨_, rfl, by rw [← HLAW.out]; exact hro.mono hw2, HB5.out⟩
          clear hrp hrs hro hg HSP HLAW HB5 hsr hfr HPX
          go_wp2
          refine bodyPost_ret (v := .slice Ar nr cr) (by simp [results, Try.results21, go_sem]) rfl HRT.out
theorem pairs_calls (A : Option Addr) (n c : Nat) (l : List Bx) (w : World) (hS : SlE layBox w A n c l) (hlen : l.length ≤ 1000) : Calls Try.prog 21 #[.slice A n c] w (RetPrs (pairsL l) w) :=
  (pairsO_calls A n c l w hS hlen).mono fun e w' h => by
    obtain ⟨s, rfl, ho, hb⟩ := h
    obtain ⟨A', n', c', rfl, hs, hf⟩ := ho.sl
    exact ⟨A', n', c', rfl, hs, hf, hb⟩
end
end Go.Proofs.Ytiaoandbdgdecaa
