/- Parts of a proof: contracts and laws. -/
import Derived.Test.YtiaoandbdgdecaaPT34
namespace Go.Proofs.Ytiaoandbdgdecaa
section
set_option linter.unusedVariables false
set_option linter.unusedSimpArgs false
open Go.RowKit

def TrA (w : World) (g : Nat) (D : Nat → Prop) (F : Nat → Option Bx) : Prop := ∃ s T, Mem w g s ∧ WF s T ∧ (∀ k, s.In g k → D k) ∧ (∀ k, D k → k < w.heap.size) ∧ ∀ j, bxO T j = F j
theorem TrA.out {w w' : World} {g : Nat} {D E : Nat → Prop} {F : Nat → Option Bx} (h : TrA w g D F) (o : Out E w w') (hd : ∀ k, D k → ¬ E k) : TrA w' g D F := by
  obtain ⟨s, T, m, hW, h1, h2, h3⟩ := h
  exact ⟨s, T, m.out o (fun i hi => hd i (h1 i hi)), hW, h1, fun k hk => Nat.lt_of_lt_of_le (h2 k hk) o.size, h3⟩
theorem TrA.below {w w' : World} {g : Nat} {D : Nat → Prop} {F : Nat → Option Bx} (hb : Below w.heap.size w w') (h : TrA w g D F) : TrA w' g D F := h.out (Out.below (D := fun _ => False) hb) (fun _ _ q => q)
def upF (F : Nat → Option Bx) (i : Nat) (b : Option Bx) : Nat → Option Bx := fun j => if j = i then b else F j

def RetTr (g : Nat) (D : Nat → Prop) (F : Nat → Option Bx) (z : Int) (w : World) (e : Ending) (w' : World) : Prop := e = .returned (.int .i64 z) ∧ ∃ D', TrA w' g D' F ∧ Out D w w' ∧ ∀ k, D' k → D k ∨ w.heap.size ≤ k
theorem tnew_calls (w : World) : Calls Try.prog 7 #[] w (fun e w' => ∃ g, e = .returned (.pointer (some ⟨g, 0, none⟩)) ∧ w.heap.size ≤ g ∧ TrA w' g (fun k => k = g) (fun _ => none) ∧ Below w.heap.size w w') := by
  refine (bnew_calls w).mono ?_
  rintro e w' ⟨g, rfl, h1, h2, h3⟩
  refine ⟨g, rfl, h1, ⟨TS0, none, h2, wf0, fun k hk => ?_, fun k hk => ?_, fun j => rfl⟩, h3⟩
  · rcases hk with hk | hk
    · exact hk
    · exact absurd rfl hk
  · rw [hk]; exact h2.lt
theorem tput_calls {w : World} {g : Nat} {D : Nat → Prop} {F : Nat → Option Bx} (h : TrA w g D F) {i : Nat} (hi : i < 256) (b1 b2 b3 b4 : Int) (hb : vldB ((b1, b2), (b3, b4)) = true) :
    Calls Try.prog 10 #[.pointer (some ⟨g, 0, none⟩), .int .i64 (i : Nat), bxV ((b1, b2), (b3, b4))] w (RetTr g D (upF F i (some ((b1, b2), (b3, b4)))) 0 w) := by
  obtain ⟨s, T, m, hW, h1, h2, h3⟩ := h
  refine (put_calls m hW hi b1 b2 b3 b4 hb).mono ?_
  rintro e w' ⟨s', T', rfl, m', o, wf', hbx, inn⟩
  refine ⟨rfl, fun k => D k ∨ (w.heap.size ≤ k ∧ k < w'.heap.size), ⟨s', some T', m', wf', fun k hk => ?_, fun k hk => ?_, fun j => ?_⟩, o.mono (fun k _ q => h1 k q), fun k hk => ?_⟩
  · rcases inn k hk with q | q
    · exact .inl (h1 k q)
    · refine .inr ⟨q, ?_⟩
      rcases hk with e | e
      · rw [e]; exact m'.lt
      · rcases hr : s'.nd k with _ | r
        · exact absurd hr e
        · exact (m'.nd k r hr).lt
  · rcases hk with q | q
    · exact Nat.lt_of_lt_of_le (h2 k q) o.size
    · exact q.2
  · rw [hbx]
    show _ = if j = i then _ else F j
    by_cases e : j = i
    · rw [if_pos e, if_pos e]
    · rw [if_neg e, if_neg e]; exact h3 j
  · rcases hk with q | q
    · exact .inl q
    · exact .inr q.1
theorem tdrop_calls {w : World} {g : Nat} {D : Nat → Prop} {F : Nat → Option Bx} (h : TrA w g D F) {i : Nat} (hi : i < 256) {b : Bx} (hF : F i = some b) :
    Calls Try.prog 13 #[.pointer (some ⟨g, 0, none⟩), .int .i64 (i : Nat)] w (RetTr g D (upF F i none) 0 w) := by
  obtain ⟨s, T, m, hW, h1, h2, h3⟩ := h
  obtain ⟨g0, t, rfl, hlv, hmem⟩ := bxO_at hW ((h3 i).trans hF)
  refine (drop_calls m hW hi hmem rfl).mono ?_
  rintro e w' ⟨s', T', gl, b', rfl, m', o, wf', pm, inn⟩
  refine ⟨rfl, D, ⟨s', T', m', wf', fun k hk => h1 k (inn k hk), fun k hk => Nat.lt_of_lt_of_le (h2 k hk) o.size, fun j => ?_⟩, o.mono (fun k _ q => h1 k q), fun k hk => .inl hk⟩
  rw [bxO_drop hW (T' := T') pm]
  show _ = if j = i then _ else F j
  by_cases e : j = i
  · rw [if_pos e, if_pos e]
  · rw [if_neg e, if_neg e]; exact h3 j

def cntF (F : Nat → Option Bx) : Nat := ((List.range 256).filter fun i => (F i).isSome).length
theorem cnt_lvs {s : TS} {T : Option TB} (hW : WF s T) {F : Nat → Option Bx} (hF : ∀ j, bxO T j = F j) : (lvsO T).length = cntF F := by
  have h1 : (hitF (bxO T) (fun _ => true)).length = (lvsO T).length := by
    have hp : ((lvsO T).filter (fun y => (fun _ : Bx => true) y.2.2)).map (fun y => y.2.1) = (lvsO T).map (fun y => y.2.1) := by rw [show (lvsO T).filter (fun y => (fun _ : Bx => true) y.2.2) = lvsO T from List.filter_eq_self.2 (fun _ _ => rfl)]
    have hs := List.mergeSort_perm ((lvsO T).map (fun y => y.2.1)) (fun a b => decide (a ≤ b))
    have hw : (((lvsO T).map (fun y => y.2.1)).mergeSort (fun a b => decide (a ≤ b))).Pairwise (fun a b => decide (a ≤ b) = true) := List.pairwise_mergeSort (fun a b c h1 h2 => by simp at *; omega) (fun a b => by simp; omega) _
    have := hit_law hW (fun _ => true) (m := ((lvsO T).map (fun y => y.2.1)).mergeSort (fun a b => decide (a ≤ b))) (by rw [hp]; exact hs) (hw.imp fun h => by simpa using h)
    rw [← this, hs.length_eq, List.length_map]
  rw [← h1]
  unfold hitF cntF
  congr 1
  refine List.filter_congr fun i _ => ?_
  rw [hF i]
  cases F i <;> rfl
theorem tlen_calls {w : World} {g : Nat} {D : Nat → Prop} {F : Nat → Option Bx} (h : TrA w g D F) : Calls Try.prog 11 #[.pointer (some ⟨g, 0, none⟩)] w (Ret (.int .i64 (cntF F : Nat)) w) := by
  obtain ⟨s, T, m, hW, h1, h2, h3⟩ := h
  have := blen_calls m
  rw [hW.cnt, cnt_lvs hW h3] at this
  exact this

def HtOk (h n : Nat) : Prop := (n = 0 → h = 0) ∧ (0 < n → minLv h ≤ n) ∧ h ≤ 11 ∧ (n = 2 → h = 1)
theorem ht_leaf {t : Tr} (h : t.ht = 0) : t.leaves = 1 := by
  cases t with
  | lf i b => rfl
  | nd l r => simp [Tr.ht] at h
theorem theight_calls {w : World} {g : Nat} {D : Nat → Prop} {F : Nat → Option Bx} (h : TrA w g D F) : Calls Try.prog 12 #[.pointer (some ⟨g, 0, none⟩)] w (fun e w' => ∃ z : Nat, e = .returned (.int .i64 (z : Nat)) ∧ HtOk z (cntF F) ∧ Below w.heap.size w w') := by
  obtain ⟨s, T, m, hW, h1, h2, h3⟩ := h
  have hc := cnt_lvs hW h3
  cases T with
  | none =>
    have hr : s.root = none := hW.root
    refine (height_nil m hr).mono ?_
    rintro e w' ⟨rfl, hb⟩
    have hc0 : cntF F = 0 := by rw [← hc]; rfl
    exact ⟨0, rfl, ⟨fun _ => rfl, fun q => by omega, by omega, fun q => by omega⟩, hb⟩
  | some t =>
    obtain ⟨q1, q2, q3, q4⟩ := hW.root
    refine (height_calls m q1 q2).mono ?_
    rintro e w' ⟨rfl, hb⟩
    have hlv : t.tr.leaves = cntF F := (leaves_lvs t).trans hc
    have hm := leaves_min t.tr q4
    have hpos : 0 < t.tr.leaves := by
      have h0 : minLv 0 ≤ minLv t.tr.ht := minLv_le (Nat.zero_le _)
      have h1 : minLv 0 = 1 := rfl
      omega
    refine ⟨t.tr.ht, rfl, ⟨fun q => by omega, fun _ => by omega, hW.ht, fun q => ?_⟩, hb⟩
    have a1 : t.tr.ht ≠ 0 := fun e => by have := ht_leaf e; omega
    have a2 : t.tr.ht ≤ 1 := by
      rcases Nat.lt_or_ge 1 t.tr.ht with k | k
      · have k2 : minLv 2 ≤ minLv t.tr.ht := minLv_le k
        have k3 : minLv 2 = 3 := by decide
        omega
      · exact k
    omega
def RetIds (R : List Nat) (w : World) (e : Ending) (w' : World) : Prop := ∃ A n c, e = .returned (.slice A n c) ∧ SlE layNat w' A n c R ∧ Below w.heap.size w w'
theorem tmeet_calls {w : World} {g : Nat} {D : Nat → Prop} {F : Nat → Option Bx} (h : TrA w g D F) (b1 b2 b3 b4 : Int) :
    Calls Try.prog 23 #[.pointer (some ⟨g, 0, none⟩), bxV ((b1, b2), (b3, b4))] w (RetIds (hitF F (fun x => tchB x ((b1, b2), (b3, b4)))) w) := by
  obtain ⟨s, T, m, hW, h1, h2, h3⟩ := h
  have e : bxO T = F := funext h3
  refine (bmeet_calls m hW b1 b2 b3 b4).mono ?_
  rintro e' w' ⟨A, n, c, rfl, hs, -, hb⟩
  rw [e] at hs
  exact ⟨A, n, c, rfl, hs, hb⟩
theorem thas_calls {w : World} {g : Nat} {D : Nat → Prop} {F : Nat → Option Bx} (h : TrA w g D F) (p q : Int) :
    Calls Try.prog 36 #[.pointer (some ⟨g, 0, none⟩), vecV p q] w (RetIds (hitF F (fun x => tchB x ((p, q), (p, q)))) w) := by
  obtain ⟨s, T, m, hW, h1, h2, h3⟩ := h
  have e : bxO T = F := funext h3
  refine (bhas_calls m hW p q).mono ?_
  rintro e' w' ⟨A, n, c, rfl, hs, -, hb⟩
  rw [e] at hs
  exact ⟨A, n, c, rfl, hs, hb⟩
theorem tpairs_calls {w : World} {g : Nat} {D : Nat → Prop} {F : Nat → Option Bx} (h : TrA w g D F) :
    Calls Try.prog 14 #[.pointer (some ⟨g, 0, none⟩)] w (RetPrF (prsF F tchB 256) w) := by
  obtain ⟨s, T, m, hW, h1, h2, h3⟩ := h
  have e : bxO T = F := funext h3
  have := bpairs_calls m hW
  rw [e] at this
  exact this
theorem upF_at (F : Nat → Option Bx) (i : Nat) (b : Option Bx) : upF F i b i = b := if_pos rfl
theorem cnt_up {F : Nat → Option Bx} {i : Nat} (hi : i < 256) (b : Option Bx) : cntF (upF F i b) + (if (F i).isSome = true then 1 else 0) = cntF F + (if b.isSome = true then 1 else 0) := by
  have key : ∀ n, ((List.range n).filter fun j => (upF F i b j).isSome).length + (if i < n ∧ (F i).isSome = true then 1 else 0) = ((List.range n).filter fun j => (F j).isSome).length + (if i < n ∧ b.isSome = true then 1 else 0) := fun n => by
    induction n with
    | zero => simp
    | succ n ih =>
      rw [List.range_succ, List.filter_append, List.filter_append, List.length_append, List.length_append]
      by_cases e : n = i
      · subst e
        have h1 : ¬ n < n := by omega
        have h2 : n < n + 1 := by omega
        simp only [h1, false_and, if_false] at ih
        simp only [h2, true_and, List.filter_cons, List.filter_nil, upF_at]
        cases F n <;> cases b <;> simp <;> omega
      · have h1 : (i < n + 1) ↔ (i < n) := by omega
        have h2 : upF F i b n = F n := if_neg e
        simp only [h1, List.filter_cons, List.filter_nil, h2]
        omega
  have := key 256
  simp only [hi, true_and] at this
  exact this
theorem cnt_none : cntF (fun _ => none) = 0 := by unfold cntF; simp
end
end Go.Proofs.Ytiaoandbdgdecaa
