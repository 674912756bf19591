/- Parts of a proof: contracts and laws. -/
import Derived.Test.YtiaoandbdgdecaaPT24
namespace Go.Proofs.Ytiaoandbdgdecaa
section
set_option linter.unusedVariables false
set_option linter.unusedSimpArgs false
open Go.RowKit
def zipT : List Fr → TB → TB
  | [], t => t
  | f :: C, t => zipT C (TB.nd f.p (f.l t) (f.r t))

def frL (p : Nat) (l r : TB) : Fr := ⟨p, true, r, bxB (TB.nd p l r), htB (TB.nd p l r)⟩
def frR (p : Nat) (l r : TB) : Fr := ⟨p, false, l, bxB (TB.nd p l r), htB (TB.nd p l r)⟩
theorem cx_down {s : TS} {C : List Fr} {p : Nat} {l r : TB} (hT : (TB.nd p l r).Rp s (upC C)) (hC : CxR s C (upC C) p) : (l.Rp s (pA p) ∧ CxR s (frL p l r :: C) (pA p) l.root) ∧ (r.Rp s (pA p) ∧ CxR s (frR p l r :: C) (pA p) r.root) := by
  obtain ⟨h1, h2, h3⟩ := hT
  exact ⟨⟨h2, rfl, upC C, h1, h3, hC⟩, h3, rfl, upC C, h1, h2, hC⟩
theorem fr_or (f : Fr) (t : TB) : (f.l t = t ∧ f.r t = f.sib) ∨ (f.l t = f.sib ∧ f.r t = t) := by
  unfold Fr.l Fr.r
  cases f.left with
  | true => exact .inl ⟨rfl, rfl⟩
  | false => exact .inr ⟨rfl, rfl⟩

theorem zip_avl : ∀ (C : List Fr) (t : TB), (zipT C t).tr.Avl → t.tr.Avl ∧ t.tr.ht + C.length ≤ (zipT C t).tr.ht ∧ ∀ f ∈ C, f.sib.tr.ht ≤ (zipT C t).tr.ht
  | [], t, h => ⟨h, by simp [zipT], fun f hf => by cases hf⟩
  | f :: C, t, h => by
    obtain ⟨h1, h2, h3⟩ := zip_avl C (TB.nd f.p (f.l t) (f.r t)) h
    have e : (TB.nd f.p (f.l t) (f.r t)).tr.ht = 1 + max (f.l t).tr.ht (f.r t).tr.ht := rfl
    have h1 : (f.l t).tr.Avl ∧ (f.r t).tr.Avl ∧ (f.l t).tr.ht ≤ (f.r t).tr.ht + 1 ∧ (f.r t).tr.ht ≤ (f.l t).tr.ht + 1 := h1
    show t.tr.Avl ∧ t.tr.ht + (f :: C).length ≤ (zipT C (TB.nd f.p (f.l t) (f.r t))).tr.ht ∧ ∀ x ∈ f :: C, x.sib.tr.ht ≤ (zipT C (TB.nd f.p (f.l t) (f.r t))).tr.ht
    generalize (zipT C (TB.nd f.p (f.l t) (f.r t))).tr.ht = Z at h2 h3 ⊢
    rw [e] at h2
    simp only [List.length_cons]
    rcases fr_or f t with ⟨a, b⟩ | ⟨a, b⟩
    · rw [a, b] at h1 h2
      refine ⟨h1.1, by omega, fun x hx => ?_⟩
      rcases List.mem_cons.1 hx with q | q
      · subst q; omega
      · exact h3 x q
    · rw [a, b] at h1 h2
      refine ⟨h1.2.1, by omega, fun x hx => ?_⟩
      rcases List.mem_cons.1 hx with q | q
      · subst q; omega
      · exact h3 x q

theorem mend_grown : ∀ (C : List Fr) (t t' : TB), (zipT C t).tr.Avl → t'.tr.Avl → t.tr.ht ≤ t'.tr.ht → t'.tr.ht ≤ t.tr.ht + 1 → (mendT C t').tr.Avl ∧ (zipT C t).tr.ht ≤ (mendT C t').tr.ht ∧ (mendT C t').tr.ht ≤ (zipT C t).tr.ht + 1
  | [], t, t', _, h', a, b => ⟨h', a, b⟩
  | f :: C, t, t', h, h', a, b => by
    have h1 := (zip_avl C (TB.nd f.p (f.l t) (f.r t)) h).1
    have h2 : (balTB f.p (f.l t') (f.r t')).tr.Avl ∧ (TB.nd f.p (f.l t) (f.r t)).tr.ht ≤ (balTB f.p (f.l t') (f.r t')).tr.ht ∧ (balTB f.p (f.l t') (f.r t')).tr.ht ≤ (TB.nd f.p (f.l t) (f.r t)).tr.ht + 1 := by
      rw [balTB_tr]
      have h1 : (Tr.nd (f.l t).tr (f.r t).tr).Avl := h1
      show (balT (f.l t').tr (f.r t').tr).Avl ∧ (Tr.nd (f.l t).tr (f.r t).tr).ht ≤ _ ∧ _ ≤ (Tr.nd (f.l t).tr (f.r t).tr).ht + 1
      unfold Fr.l Fr.r at h1 ⊢
      cases hl : f.left with
      | true =>
        rw [hl] at h1
        exact bal_grown h' h1 a b
      | false =>
        rw [hl] at h1
        exact bal_grownR h' h1 a b
    exact mend_grown C _ _ h h2.1 h2.2.1 h2.2.2

theorem mend_shrunk : ∀ (C : List Fr) (t t' : TB), (zipT C t).tr.Avl → t'.tr.Avl → t'.tr.ht ≤ t.tr.ht → t.tr.ht ≤ t'.tr.ht + 1 → (mendT C t').tr.Avl ∧ (mendT C t').tr.ht ≤ (zipT C t).tr.ht ∧ (zipT C t).tr.ht ≤ (mendT C t').tr.ht + 1
  | [], t, t', _, h', a, b => ⟨h', a, b⟩
  | f :: C, t, t', h, h', a, b => by
    have h1 := (zip_avl C (TB.nd f.p (f.l t) (f.r t)) h).1
    have h2 : (balTB f.p (f.l t') (f.r t')).tr.Avl ∧ (balTB f.p (f.l t') (f.r t')).tr.ht ≤ (TB.nd f.p (f.l t) (f.r t)).tr.ht ∧ (TB.nd f.p (f.l t) (f.r t)).tr.ht ≤ (balTB f.p (f.l t') (f.r t')).tr.ht + 1 := by
      rw [balTB_tr]
      have h1 : (Tr.nd (f.l t).tr (f.r t).tr).Avl := h1
      show (balT (f.l t').tr (f.r t').tr).Avl ∧ _ ≤ (Tr.nd (f.l t).tr (f.r t).tr).ht ∧ (Tr.nd (f.l t).tr (f.r t).tr).ht ≤ _ + 1
      unfold Fr.l Fr.r at h1 ⊢
      cases hl : f.left with
      | true =>
        rw [hl] at h1
        exact bal_shrunk h' h1 a b
      | false =>
        rw [hl] at h1
        exact bal_shrunkR h' h1 a b
    exact mend_shrunk C _ _ h h2.1 h2.2.1 h2.2.2

def TB.lvs : TB → List (Nat × (Nat × Bx))
  | .lf g i b => [(g, (i, b))]
  | .nd _ l r => l.lvs ++ r.lvs
theorem liftTB_lvs (u : Nat) (low high : TB) : (liftTB u low high).lvs.Perm (low.lvs ++ high.lvs) := by
  cases high with
  | lf g i b => exact List.Perm.refl _
  | nd h p q =>
    show (if q.tr.ht > p.tr.ht then TB.nd h q (.nd u low p) else TB.nd h p (.nd u low q)).lvs.Perm _
    refine List.perm_iff_count.2 fun a => ?_
    split <;> simp only [TB.lvs, List.count_append] <;> omega
theorem balTB_lvs (u : Nat) (l r : TB) : (balTB u l r).lvs.Perm (l.lvs ++ r.lvs) := by
  unfold balTB
  split
  · split
    · exact List.Perm.refl _
    · exact (liftTB_lvs u r l).trans List.perm_append_comm
  · split
    · exact List.Perm.refl _
    · exact liftTB_lvs u l r
def cxL : List Fr → List (Nat × (Nat × Bx))
  | [] => []
  | f :: C => f.sib.lvs ++ cxL C
theorem fr_lvs (f : Fr) (t : TB) : ((f.l t).lvs ++ (f.r t).lvs).Perm (t.lvs ++ f.sib.lvs) := by
  rcases fr_or f t with ⟨a, b⟩ | ⟨a, b⟩ <;> rw [a, b]
  exact List.perm_append_comm
theorem zip_lvs : ∀ (C : List Fr) (t : TB), (zipT C t).lvs.Perm (t.lvs ++ cxL C)
  | [], t => by rw [cxL, List.append_nil]; exact List.Perm.refl _
  | f :: C, t => by
    refine (zip_lvs C _).trans ?_
    show (((f.l t).lvs ++ (f.r t).lvs) ++ cxL C).Perm (t.lvs ++ (f.sib.lvs ++ cxL C))
    rw [← List.append_assoc]
    exact (fr_lvs f t).append_right _
theorem mend_lvs : ∀ (C : List Fr) (t : TB), (mendT C t).lvs.Perm (t.lvs ++ cxL C)
  | [], t => by rw [cxL, List.append_nil]; exact List.Perm.refl _
  | f :: C, t => by
    refine (mend_lvs C _).trans ?_
    refine ((balTB_lvs f.p (f.l t) (f.r t)).append_right _).trans ?_
    show (((f.l t).lvs ++ (f.r t).lvs) ++ cxL C).Perm (t.lvs ++ (f.sib.lvs ++ cxL C))
    rw [← List.append_assoc]
    exact (fr_lvs f t).append_right _
theorem zip_blocks : ∀ (C : List Fr) (t : TB), (zipT C t).blocks.Perm (t.blocks ++ cxB C)
  | [], t => by rw [cxB, List.append_nil]; exact List.Perm.refl _
  | f :: C, t => by
    refine (zip_blocks C _).trans ?_
    have q := List.perm_iff_count.1 (fr_perm f t)
    refine List.perm_iff_count.2 fun a => ?_
    have q1 := q a
    simp only [List.count_append] at q1
    simp only [cxB, TB.blocks, List.count_cons, List.count_append]
    omega
end
end Go.Proofs.Ytiaoandbdgdecaa
