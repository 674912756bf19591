/- Parts of a proof: contracts and laws. -/
import Derived.Test.YtiaoandbdgdecaaPT21
namespace Go.Proofs.Ytiaoandbdgdecaa
section
set_option linter.unusedVariables false
set_option linter.unusedSimpArgs false
open Go.RowKit

def upLen (w : World) : Nat → Value → Nat
  | k + 1, .pointer (some a) => 1 + upLen w k ((w.cell? ⟨a.block, 6, none⟩).getD undef)
  | _, _ => 0
theorem upLen_cx {w : World} {g : Nat} {s : TS} (h : Mem w g s) : ∀ (C : List Fr) (u fuel : Nat), CxR s C (upC C) u → C.length < fuel → upLen w fuel (.pointer (upC C)) = C.length
  | [], u, fuel, _, hf => by cases fuel <;> rfl
  | f :: C, u, fuel, hC, hf => by
    obtain ⟨-, up', e1, e2, e3⟩ := hC
    have hup := e3.up
    subst hup
    cases fuel with
    | zero => simp at hf
    | succ k =>
      have c6 : w.cell? ⟨f.p, 6, none⟩ = some (.pointer (upC C)) := (h.nd _ _ e1).c6
      show 1 + upLen w k ((w.cell? ⟨f.p, 6, none⟩).getD undef) = _
      rw [c6]
      show 1 + upLen w k (.pointer (upC C)) = _
      rw [upLen_cx h C f.p k e3 (by simpa using hf)]
      simp; omega

theorem mend_round {g : Nat} {s s1 s2 : TS} {f : Fr} {C : List Fr} {t : TB} {H : Nat} (hH : 300 ≤ H) (hM : MdS s g (f :: C) t H) (o1 : ∀ k, k ≠ f.p → s1.nd k = s.nd k)
    (hb : (balTB f.p (f.l t) (f.r t)).Rp s2 (upC C)) (hc : CxR s2 C (upC C) (balTB f.p (f.l t) (f.r t)).root) (o2 : ∀ k, k ∉ (f.p :: ((f.l t).blocks ++ (f.r t).blocks)) → k ∉ cxB C → s2.nd k = s1.nd k) :
    MdS s2 g C (balTB f.p (f.l t) (f.r t)) (H + 1) ∧ (∀ k, k ∈ (balTB f.p (f.l t) (f.r t)).blocks ++ cxB C → k ∈ t.blocks ++ cxB (f :: C)) ∧ (∀ k, k ∉ t.blocks ++ cxB (f :: C) → s2.nd k = s.nd k) := by
  obtain ⟨hT, hA, hN, hh, hS⟩ := hM
  have p : ((balTB f.p (f.l t) (f.r t)).blocks ++ cxB C).Perm (t.blocks ++ cxB (f :: C)) := by
    refine ((balTB_blocks f.p (f.l t) (f.r t)).append_right _).trans ?_
    have q := List.perm_iff_count.1 (fr_perm f t)
    refine List.perm_iff_count.2 fun a => ?_
    have q1 := q a
    simp only [List.count_append] at q1
    simp only [cxB, List.count_cons, List.count_append]
    omega
  have hs := hS f (by simp)
  have hb1 := balTB_ht f.p (f.l t) (f.r t)
  have hlr : (f.l t).tr.ht ≤ H ∧ (f.r t).tr.ht ≤ H := by unfold Fr.l Fr.r; split <;> omega
  refine ⟨⟨hb, hc, (List.Perm.nodup_iff p).2 hN, by omega, fun x hx => hS x (by simp [hx])⟩, fun k hk => p.mem_iff.1 hk, fun k hk => ?_⟩
  have h1 : k ∉ t.blocks := fun e => hk (by simp [e])
  have h2 : k ≠ f.p := fun e => hk (by simp [cxB, e])
  have h3 : k ∉ f.sib.blocks := fun e => hk (by simp [cxB, e])
  have h4 : k ∉ cxB C := fun e => hk (by simp [cxB, e])
  refine (o2 k (fun e => ?_) h4).trans (o1 k h2)
  rcases List.mem_cons.1 e with e | e
  · exact h2 e
  · have := (fr_perm f t).mem_iff.1 e
    rcases List.mem_append.1 this with e | e
    · exact h1 e
    · exact h3 e
def RetMend (g : Nat) (s : TS) (C : List Fr) (t : TB) (w : World) (e : Ending) (w' : World) : Prop := ∃ s', e = .returned (.tuple #[]) ∧ Mem w' g s' ∧ Out (s.In g) w w' ∧ (mendT C t).Rp s' none ∧ s'.root = pA (mendT C t).root ∧ (mendT C t).blocks.Nodup ∧ s'.lv = s.lv ∧ s'.cnt = s.cnt ∧ (∀ k, k ∉ t.blocks ++ cxB C → s'.nd k = s.nd k) ∧ ∀ i, s'.In g i → s.In g i

structure MdL (s s' : TS) (g : Nat) (C0 C : List Fr) (t0 t : TB) (w wr : World) (H : Nat) : Prop where
  mem : Mem wr g s'
  out : Out (s.In g) w wr
  mds : MdS s' g C t H
  h1 : 300 ≤ H
  h2 : H + C.length ≤ 700
  same : mendT C t = mendT C0 t0
  lv : s'.lv = s.lv
  cnt : s'.cnt = s.cnt
  sub : ∀ k, k ∈ t.blocks ++ cxB C → k ∈ t0.blocks ++ cxB C0
  oth : ∀ k, k ∉ t0.blocks ++ cxB C0 → s'.nd k = s.nd k
  inn : ∀ i, s'.In g i → s.In g i
set_option maxRecDepth 100000 in
set_option maxHeartbeats 4000000 in
theorem mend_calls {w : World} {g : Nat} {s : TS} (h : Mem w g s) {C0 : List Fr} {t0 : TB} (hM : MdS s g C0 t0 300) (hl : C0.length ≤ 400) :
    Calls Try.prog 29 #[.pointer (pA g), .pointer (upC C0)] w (RetMend g s C0 t0 w) := by
  have H0 : Hid (MdL s s g C0 C0 t0 t0 w w 300) := ⟨h, Out.refl _ _, hM, Nat.le_refl _, by omega, rfl, rfl, rfl, fun _ k => k, fun _ _ => rfl, fun _ q => q⟩
  clear h hM hl
  go_enter Try.func29, Try.ntmps29
  go_wp2
  go_loopw [1] (fun nv wr => ∃ (s' : TS) (C : List Fr) (t : TB) (H : Nat), nv = .pointer (upC C) ∧ Hid (MdL s s' g C0 C t0 t w wr H)) (fun nv wr => upLen wr 1000 nv)
  case atStart => exact ⟨s, C0, t0, 300, rfl, H0⟩
  case round =>
    obtain ⟨s', C, t, H, rfl, HL⟩ := hrel
    obtain ⟨wo, rfl⟩ : ∃ wo : World, wo = wr := ⟨_, rfl⟩
    have HLEN := hid (upLen_cx HL.out.mem C t.root 1000 HL.out.mds.above (by have := HL.out.h2; omega))
    cases C with
    | nil =>
      have hret : RetMend g s C0 t0 w (.returned (.tuple #[])) wo := by
        have m := HL.out
        refine ⟨s', rfl, m.mem, m.out, ?_, ?_, ?_, m.lv, m.cnt, m.oth, m.inn⟩
        · rw [← m.same]; exact m.mds.tree
        · rw [← m.same]; exact m.mds.above.2
        · rw [← m.same]; exact (List.nodup_append.1 m.mds.nodup).1
      have HR := hid hret
      clear hret H0 HL HLEN
      go_wp2
      go_returns
      exact HR.out
    | cons f C =>
      have HF := hid (fit_step HL.out.mem (H := H) (by have := HL.out.h2; simp at this; omega) HL.out.mds)
      go_wp2_with fail
      refine HF.out.mono ?_
      rintro e w1 ⟨s1, rfl, m1, o1, r1, c1, lv1, cnt1, n1, i1⟩
      have hbal := balance_calls m1 r1 c1 (by have := (List.nodup_append.1 HL.out.mds.nodup).2.1; have := (List.nodup_cons.1 this).2; exact (List.nodup_append.1 this).2.1) (by
        have hn := HL.out.mds.nodup
        have q := List.perm_iff_count.1 (fr_perm f t)
        have p : (t.blocks ++ cxB (f :: C)).Perm ((f.p :: ((f.l t).blocks ++ (f.r t).blocks)) ++ cxB C) := by
          refine List.perm_iff_count.2 fun a => ?_
          have q1 := q a
          simp only [List.count_append] at q1
          simp only [cxB, List.count_cons, List.count_append]
          omega
        exact (List.nodup_append.1 ((List.Perm.nodup_iff p).1 hn)).1) (by
        have hn := HL.out.mds.nodup
        have q := List.perm_iff_count.1 (fr_perm f t)
        have p : (t.blocks ++ cxB (f :: C)).Perm ((f.p :: ((f.l t).blocks ++ (f.r t).blocks)) ++ cxB C) := by
          refine List.perm_iff_count.2 fun a => ?_
          have q1 := q a
          simp only [List.count_append] at q1
          simp only [cxB, List.count_cons, List.count_append]
          omega
        exact fun k hk hc => (List.nodup_append.1 ((List.Perm.nodup_iff p).1 hn)).2.2 k hk k hc rfl) (by
        have h2 := HL.out.h2
        have hh := HL.out.mds.ht
        have hs := HL.out.mds.sib f (by simp)
        simp at h2
        unfold Fr.l Fr.r; split <;> omega)
      have HB := hid hbal
      have HM1 := hid (And.intro o1 (And.intro lv1 (And.intro cnt1 (And.intro n1 i1))))
      clear hbal m1 o1 r1 c1 lv1 cnt1 n1 i1 HF H0
      go_wp2_with fail
      refine HB.out.mono ?_
      rintro e w2 ⟨s2, rfl, m2, o2, r2, c2, n2, lv2, cnt2, i2⟩
      obtain ⟨rr, hrr, hru, -, -⟩ := r2.top
      have k6 := (m2.nd _ _ hrr).c6
      rw [hru] at k6
      have kl := lt_of_cell k6
      obtain ⟨o1, lv1, cnt1, n1, i1⟩ := HM1.out
      obtain ⟨a1, a2, a3⟩ := mend_round HL.out.h1 HL.out.mds n1 r2 c2 n2
      have hnew : MdL s s2 g C0 C t0 (balTB f.p (f.l t) (f.r t)) w w2 (H + 1) :=
        ⟨m2, (HL.out.out.trans o1 (fun i _ k => HL.out.inn i k)).trans o2 (fun i _ k => HL.out.inn i (i1 i k)), a1, by have := HL.out.h1; omega, by have := HL.out.h2; simp at this; omega, HL.out.same, lv2.trans (lv1.trans HL.out.lv), cnt2.trans (cnt1.trans HL.out.cnt), fun k hk => HL.out.sub k (a2 k hk), fun k hk => (a3 k (fun e => hk (HL.out.sub k e))).trans (HL.out.oth k hk), fun i q => HL.out.inn i (i1 i (i2 i q))⟩
      have HLEN2 := hid (upLen_cx m2 C _ 1000 c2 (by have := HL.out.h2; simp at this; omega))
      have HN := hid hnew
      clear hnew a1 a2 a3 o1 lv1 cnt1 n1 i1 m2 o2 r2 c2 n2 lv2 cnt2 i2 HM1 HB hrr hru HL
      go_wp2
      go_roundw
      case rel => exact ⟨s2, C, _, H + 1, rfl, HN⟩
      case measure =>
        rw [HLEN.out, HLEN2.out]
        simp
end
end Go.Proofs.Ytiaoandbdgdecaa
