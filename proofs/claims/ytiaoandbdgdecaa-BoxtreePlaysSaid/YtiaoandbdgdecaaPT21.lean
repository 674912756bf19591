/- Parts of a proof: contracts and laws. -/
import Derived.Test.YtiaoandbdgdecaaPT20
namespace Go.Proofs.Ytiaoandbdgdecaa
section
set_option linter.unusedVariables false
set_option linter.unusedSimpArgs false
open Go.RowKit
theorem balance_calls {w : World} {g : Nat} {s : TS} (h : Mem w g s) {u : Nat} {l r : TB} {up : Option Addr} {C : List Fr} (hR : (TB.nd u l r).Rp s up) (hC : CxR s C up u) (hCd : (cxB C).Nodup)
    (hd : (u :: (l.blocks ++ r.blocks)).Nodup) (hdis : ∀ k ∈ (u :: (l.blocks ++ r.blocks)), k ∉ cxB C) (hH : l.tr.ht ≤ 1000 ∧ r.tr.ht ≤ 1000) :
    Calls Try.prog 48 #[.pointer (pA g), .pointer (pA u)] w (RetBal g u l r up C s w) := by
  by_cases h1 : l.tr.ht ≤ r.tr.ht + 1 ∧ r.tr.ht ≤ l.tr.ht + 1
  · exact balance_stay h hR hC hH h1
  · by_cases h2 : l.tr.ht + 1 < r.tr.ht
    · cases r with
      | lf i id b => simp [TB.tr, Tr.ht] at h2
      | nd q c d =>
        have e := TB.tr_ht q c d
        have p : (u :: q :: (l.blocks ++ (c.blocks ++ d.blocks))).Perm (u :: (l.blocks ++ (TB.nd q c d).blocks)) := by
          refine List.perm_iff_count.2 fun a => ?_
          simp only [TB.blocks, List.count_cons, List.count_append]; omega
        exact balance_liftR h hR hC hCd ((List.Perm.nodup_iff p).2 hd) (fun k hk => hdis k (p.mem_iff.1 hk)) ⟨hH.1, by omega, by omega⟩ h2
    · cases l with
      | lf i id b =>
        have : (TB.lf i id b).tr.ht = 0 := rfl
        omega
      | nd q c d =>
        have e := TB.tr_ht q c d
        have p : (u :: q :: (r.blocks ++ (c.blocks ++ d.blocks))).Perm (u :: ((TB.nd q c d).blocks ++ r.blocks)) := by
          refine List.perm_iff_count.2 fun a => ?_
          simp only [TB.blocks, List.count_cons, List.count_append]; omega
        exact balance_liftL h hR hC hCd ((List.Perm.nodup_iff p).2 hd) (fun k hk => hdis k (p.mem_iff.1 hk)) ⟨hH.2, by omega, by omega⟩ (by omega)

def Fr.l (f : Fr) (t : TB) : TB := if f.left = true then t else f.sib
def Fr.r (f : Fr) (t : TB) : TB := if f.left = true then f.sib else t

def mendT : List Fr → TB → TB
  | [], t => t
  | f :: C, t => mendT C (balTB f.p (f.l t) (f.r t))
def upC : List Fr → Option Addr
  | [] => none
  | f :: _ => pA f.p
theorem CxR.up {s : TS} : ∀ {C : List Fr} {up : Option Addr} {u : Nat}, CxR s C up u → up = upC C
  | [], _, _, h => h.1
  | _ :: _, _, _, h => h.1
theorem fr_perm (f : Fr) (t : TB) : ((f.l t).blocks ++ (f.r t).blocks).Perm (t.blocks ++ f.sib.blocks) := by
  unfold Fr.l Fr.r
  cases f.left with
  | true => exact List.Perm.refl _
  | false => exact List.perm_append_comm
theorem balTB_ht (u : Nat) (l r : TB) : (balTB u l r).tr.ht ≤ 1 + max l.tr.ht r.tr.ht := by
  have lift : ∀ low high : Tr, low.ht + 1 < high.ht → (liftT low high).ht ≤ 1 + high.ht := fun low high hh => by
    cases high with
    | lf i b => simp [Tr.ht] at hh
    | nd p q =>
      rw [lift_nd]
      simp only [Tr.ht] at hh ⊢
      split <;> simp only [Tr.ht] <;> omega
  rw [balTB_tr]
  unfold balT
  split
  · split
    · simp only [Tr.ht]; omega
    · have := lift r.tr l.tr (by omega); omega
  · split
    · simp only [Tr.ht]; omega
    · have := lift l.tr r.tr (by omega); omega

structure MdS (s : TS) (g : Nat) (C : List Fr) (t : TB) (H : Nat) : Prop where
  tree : t.Rp s (upC C)
  above : CxR s C (upC C) t.root
  nodup : (t.blocks ++ cxB C).Nodup
  ht : t.tr.ht ≤ H
  sib : ∀ f ∈ C, f.sib.tr.ht ≤ 300
theorem fit_step {w : World} {g : Nat} {s : TS} (h : Mem w g s) {f : Fr} {C : List Fr} {t : TB} {H : Nat} (hH : H ≤ 700) (hM : MdS s g (f :: C) t H) :
    Calls Try.prog 47 #[.pointer (pA f.p)] w (fun e w' => ∃ s', e = .returned (.tuple #[]) ∧ Mem w' g s' ∧ Out (s.In g) w w' ∧ (TB.nd f.p (f.l t) (f.r t)).Rp s' (upC C) ∧ CxR s' C (upC C) f.p ∧ s'.lv = s.lv ∧ s'.cnt = s.cnt ∧ (∀ k, k ≠ f.p → s'.nd k = s.nd k) ∧ ∀ i, s'.In g i → s.In g i) := by
  obtain ⟨hT, hA, hN, hh, hS⟩ := hM
  obtain ⟨-, up', e1, e2, e3⟩ := hA
  have hup := e3.up
  subst hup
  obtain ⟨dt, dc, dx⟩ := List.nodup_append.1 hN
  have dc : (f.p :: (f.sib.blocks ++ cxB C)).Nodup := dc
  obtain ⟨dp, dc⟩ := List.nodup_cons.1 dc
  have nt : ∀ k ∈ t.blocks, k ≠ f.p := fun k hk e => dx k hk f.p (by simp [cxB]) e
  have ns : ∀ k ∈ f.sib.blocks, k ≠ f.p := fun k hk e => dp (by rw [← e]; simp [hk])
  have nc : ∀ k ∈ cxB C, k ≠ f.p := fun k hk e => dp (by rw [← e]; simp [hk])
  obtain ⟨rt, ht1, -, bt, tt⟩ := TB.Rp.top hT
  obtain ⟨rs, hs1, -, bs, ts⟩ := e2.top
  have hsf := hS f (by simp)
  have b1 := ht_bd (t := t) (by omega) tt
  have b2 := ht_bd (t := f.sib) (by omega) ts
  have fin : ∀ (w' : World) (l r : TB) (rl rr : NR), l = f.l t → r = f.r t → rl.bx = bxB l → rl.ht = htB l → rr.bx = bxB r → rr.ht = htB r → l.Rp s (pA f.p) → r.Rp s (pA f.p) → (∀ k ∈ l.blocks, k ≠ f.p) → (∀ k ∈ r.blocks, k ≠ f.p) → RetM g s (s.set f.p ⟨joinB rl.bx rr.bx, 0, 1 + max rl.ht rr.ht, upC C, pA l.root, pA r.root⟩) (.tuple #[]) w (.returned (.tuple #[])) w' →
      ∃ s', Ending.returned (.tuple #[]) = .returned (.tuple #[]) ∧ Mem w' g s' ∧ Out (s.In g) w w' ∧ (TB.nd f.p (f.l t) (f.r t)).Rp s' (upC C) ∧ CxR s' C (upC C) f.p ∧ s'.lv = s.lv ∧ s'.cnt = s.cnt ∧ (∀ k, k ≠ f.p → s'.nd k = s.nd k) ∧ ∀ i, s'.In g i → s.In g i := by
    intro w' l r rl rr hl hr q1 q2 q3 q4 hL hRr nl nr hret
    obtain ⟨-, m, o⟩ := hret
    rw [← hl, ← hr]
    refine ⟨_, rfl, m, o, ⟨?_, hL.same (fun k hk => TS.set_ne _ _ (nl k hk)), hRr.same (fun k hk => TS.set_ne _ _ (nr k hk))⟩, CxR.same e3 (fun k hk => TS.set_ne _ _ (nc k hk)) rfl, rfl, rfl, fun k hk => TS.set_ne _ _ hk, fun i q => TS.set_in e1 q⟩
    rw [TS.set_eq, bx_nd, ht_nd, q1, q2, q3, q4]
  cases hlf : f.left with
  | true =>
    rw [hlf] at e1
    refine (fit_calls h (n := f.p) (a := t.root) (c := f.sib.root) e1 ht1 hs1 b1 b2).mono ?_
    rintro e w' hret
    have he := hret.1
    subst he
    exact fin w' t f.sib rt rs (by unfold Fr.l; rw [hlf]; rfl) (by unfold Fr.r; rw [hlf]; rfl) bt tt bs ts hT e2 nt ns hret
  | false =>
    rw [hlf] at e1
    refine (fit_calls h (n := f.p) (a := f.sib.root) (c := t.root) e1 hs1 ht1 b2 b1).mono ?_
    rintro e w' hret
    have he := hret.1
    subst he
    exact fin w' f.sib t rs rt (by unfold Fr.l; rw [hlf]; rfl) (by unfold Fr.r; rw [hlf]; rfl) bs ts bt tt e2 hT ns nt hret
end
end Go.Proofs.Ytiaoandbdgdecaa
