/- Parts of a proof: contracts and laws. -/
import Derived.Test.YtiaoandbdgdecaaPT14
import Derived.Test.YtiaoandbdgdecaaPT15
namespace Go.Proofs.Ytiaoandbdgdecaa
section
set_option linter.unusedVariables false
set_option linter.unusedSimpArgs false
open Go.RowKit

abbrev bxB (t : TB) : Bx := bxT joinB t.tr
abbrev htB (t : TB) : Int := (t.tr.ht : Nat)
def TB.Rp (s : TS) : TB → Option Addr → Prop
  | .lf g id b, up => s.nd g = some ⟨b, id, 0, up, none, none⟩
  | .nd g l r, up => s.nd g = some ⟨bxB (TB.nd g l r), 0, htB (TB.nd g l r), up, pA l.root, pA r.root⟩ ∧ l.Rp s (pA g) ∧ r.Rp s (pA g)
theorem TB.Rp.same {s s' : TS} : ∀ {t : TB} {up : Option Addr}, t.Rp s up → (∀ g ∈ t.blocks, s'.nd g = s.nd g) → t.Rp s' up
  | .lf g id b, up, h, e => by
    have h : s.nd g = some ⟨b, id, 0, up, none, none⟩ := h
    show s'.nd g = _
    rw [e g (by simp [TB.blocks]), h]
  | .nd g l r, up, h, e => by
    obtain ⟨h1, h2, h3⟩ := h
    exact ⟨(e g (by simp [TB.blocks])).trans h1, TB.Rp.same h2 (fun k hk => e k (by simp [TB.blocks, hk])), TB.Rp.same h3 (fun k hk => e k (by simp [TB.blocks, hk]))⟩

theorem TB.Rp.top {s : TS} : ∀ {t : TB} {up : Option Addr}, t.Rp s up → ∃ r, s.nd t.root = some r ∧ r.up = up ∧ r.bx = bxB t ∧ r.ht = htB t
  | .lf g id b, up, h => ⟨_, h, rfl, rfl, rfl⟩
  | .nd g l r, up, h => ⟨_, h.1, rfl, rfl, rfl⟩
theorem TB.Rp.mem {s : TS} : ∀ {t : TB} {up : Option Addr}, t.Rp s up → ∀ g ∈ t.blocks, ∃ r, s.nd g = some r
  | .lf g id b, up, h, k, hk => by
    have : k = g := by simpa [TB.blocks] using hk
    rw [this]; exact ⟨_, h⟩
  | .nd g l r, up, h, k, hk => by
    obtain ⟨h1, h2, h3⟩ := h
    simp only [TB.blocks, List.mem_cons, List.mem_append] at hk
    rcases hk with hk | hk | hk
    · rw [hk]; exact ⟨_, h1⟩
    · exact TB.Rp.mem h2 k hk
    · exact TB.Rp.mem h3 k hk

theorem TB.Rp.lift {s s' : TS} {r : NR} {up up' : Option Addr} : ∀ {t : TB}, t.Rp s up → t.blocks.Nodup → s.nd t.root = some r → s'.nd t.root = some { r with up := up' } → (∀ g ∈ t.blocks, g ≠ t.root → s'.nd g = s.nd g) → t.Rp s' up'
  | .lf g id b, h, _, hr, hr', _ => by
    have h : s.nd g = some ⟨b, id, 0, up, none, none⟩ := h
    have hr : s.nd g = some r := hr
    rw [h] at hr
    cases hr
    exact hr'
  | .nd g l rr, h, hd, hr, hr', e => by
    obtain ⟨h1, h2, h3⟩ := h
    have hr : s.nd g = some r := hr
    rw [h1] at hr
    cases hr
    have hd : (g :: (l.blocks ++ rr.blocks)).Nodup := hd
    have hn := (List.nodup_cons.1 hd).1
    refine ⟨hr', h2.same (fun k hk => e k (by simp [TB.blocks, hk]) (fun q => hn ?_)), h3.same (fun k hk => e k (by simp [TB.blocks, hk]) (fun q => hn ?_))⟩
    · have q : k = g := q
      rw [← q]; simp [hk]
    · have q : k = g := q
      rw [← q]; simp [hk]

structure Fr where
  p : Nat
  left : Bool
  sib : TB
  bx : Bx
  ht : Int
def cxB : List Fr → List Nat
  | [] => []
  | f :: C => f.p :: (f.sib.blocks ++ cxB C)
def CxR (s : TS) : List Fr → Option Addr → Nat → Prop
  | [], up, u => up = none ∧ s.root = pA u
  | f :: C, up, u => up = pA f.p ∧ (∃ up', s.nd f.p = some ⟨f.bx, 0, f.ht, up', if f.left = true then pA u else pA f.sib.root, if f.left = true then pA f.sib.root else pA u⟩ ∧ f.sib.Rp s (pA f.p) ∧ CxR s C up' f.p)
theorem CxR.same {s s' : TS} : ∀ {C : List Fr} {up : Option Addr} {u : Nat}, CxR s C up u → (∀ g ∈ cxB C, s'.nd g = s.nd g) → s'.root = s.root → CxR s' C up u
  | [], up, u, h, _, hr => ⟨h.1, hr.trans h.2⟩
  | f :: C, up, u, h, e, hr => by
    obtain ⟨h0, up', h1, h2, h3⟩ := h
    exact ⟨h0, up', (e f.p (by simp [cxB])).trans h1, h2.same (fun k hk => e k (by simp [cxB, hk])), CxR.same h3 (fun k hk => e k (by simp [cxB, hk])) hr⟩

structure PlK (s s' : TS) (C : List Fr) (v : Nat) : Prop where
  out : ∀ g, g ≠ v → g ∉ cxB C → s'.nd g = s.nd g
  lv : s'.lv = s.lv
  cnt : s'.cnt = s.cnt
theorem place_cx {w : World} {g : Nat} {s : TS} (h : Mem w g s) {C : List Fr} {up : Option Addr} {u v : Nat} {ru rv : NR} (hC : CxR s C up u) (hd : (cxB C).Nodup) (hu : s.nd u = some ru) (hup : ru.up = up) (hv : s.nd v = some rv) (nuv : u ≠ v) (nu : u ∉ cxB C) (nv : v ∉ cxB C) :
    Calls Try.prog 27 #[.pointer (pA g), .pointer (pA u), .pointer (pA v)] w (fun e w' => ∃ s', e = .returned (.tuple #[]) ∧ Mem w' g s' ∧ Out (s.In g) w w' ∧ CxR s' C up v ∧ s'.nd v = some { rv with up := up } ∧ PlK s s' C v ∧ (∀ i, s'.In g i → s.In g i)) := by
  obtain ⟨bo, ido, hto, upo, k0o, k1o⟩ := ru
  have hup : upo = up := hup
  subst hup
  cases C with
  | nil =>
    obtain ⟨h0, h1⟩ := hC
    subst h0
    refine (place_root h hu hv nuv).mono ?_
    rintro e w' ⟨rfl, m, o⟩
    exact ⟨_, rfl, m, o, ⟨rfl, rfl⟩, TS.set_eq _ _ _, ⟨fun k hk _ => TS.set_ne _ _ hk, rfl, rfl⟩, fun i q => TS.set_in hv (q.elim .inl .inr)⟩
  | cons f C =>
    obtain ⟨h0, up', h1, h2, h3⟩ := hC
    subst h0
    obtain ⟨p, lf, sib, fb, fh⟩ := f
    have hd : (p :: (sib.blocks ++ cxB C)).Nodup := hd
    obtain ⟨d1, d2⟩ := List.nodup_cons.1 hd
    have npv : p ≠ v := fun q => nv (by rw [← q]; simp [cxB])
    have npu : u ≠ p := fun q => nu (by rw [q]; simp [cxB])
    have hsv : ∀ k ∈ sib.blocks, k ≠ v ∧ k ≠ p := fun k hk => ⟨fun q => nv (by rw [← q]; simp [cxB, hk]), fun q => d1 (by rw [← q]; simp [hk])⟩
    have hcv : ∀ k ∈ cxB C, k ≠ v ∧ k ≠ p := fun k hk => ⟨fun q => nv (by rw [← q]; simp [cxB, hk]), fun q => d1 (by rw [← q]; simp [hk])⟩
    have fin : ∀ (r1 : NR) (w' : World), (r1 = ⟨fb, 0, fh, up', if lf = true then pA v else pA sib.root, if lf = true then pA sib.root else pA v⟩) → Mem w' g ((s.set v { rv with up := pA p }).set p r1) → Out (s.In g) w w' →
        ∃ s', Ending.returned (.tuple #[]) = .returned (.tuple #[]) ∧ Mem w' g s' ∧ Out (s.In g) w w' ∧ CxR s' (⟨p, lf, sib, fb, fh⟩ :: C) (pA p) v ∧ s'.nd v = some { rv with up := pA p } ∧ PlK s s' (⟨p, lf, sib, fb, fh⟩ :: C) v ∧ (∀ i, s'.In g i → s.In g i) := by
      intro r1 w' hr1 m o
      have hs : ∀ k, k ≠ v → k ≠ p → ((s.set v { rv with up := pA p }).set p r1).nd k = s.nd k := fun k a b => by rw [TS.set_ne _ _ b, TS.set_ne _ _ a]
      refine ⟨_, rfl, m, o, ⟨rfl, up', ?_, h2.same (fun k hk => hs k (hsv k hk).1 (hsv k hk).2), h3.same (fun k hk => hs k (hcv k hk).1 (hcv k hk).2) rfl⟩, ?_, ⟨fun k a b => hs k a (fun q => b (by rw [q]; simp [cxB])), rfl, rfl⟩, fun i q => TS.set_in hv (TS.set_in (r0 := ⟨fb, 0, fh, up', if lf = true then pA u else pA sib.root, if lf = true then pA sib.root else pA u⟩) ((TS.set_ne _ _ npv).trans h1) q)⟩
      · rw [TS.set_eq, hr1]
      · rw [TS.set_ne _ _ (fun q => npv q.symm), TS.set_eq]
    cases lf with
    | true =>
      refine (place_kid0 h hu hv nuv (u := p) (x := 0) (k1u := pA sib.root) h1 npv).mono ?_
      rintro e w' ⟨rfl, m, o⟩
      exact fin _ w' rfl m o
    | false =>
      have hsr : sib.root ≠ u := fun q => nu (by rw [← q]; simp [cxB, TB.root_mem])
      obtain ⟨rs, hrs, -⟩ := h2.top
      refine (place_kid1 h hu hv nuv (u := p) (x := sib.root) (k1u := pA u) h1 npv hsr ⟨rs, hrs⟩).mono ?_
      rintro e w' ⟨rfl, m, o⟩
      exact fin _ w' rfl m o
end
end Go.Proofs.Ytiaoandbdgdecaa
