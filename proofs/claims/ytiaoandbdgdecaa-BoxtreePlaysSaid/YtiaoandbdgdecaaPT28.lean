/- Parts of a proof: contracts and laws. -/
import Derived.Test.YtiaoandbdgdecaaPT27
namespace Go.Proofs.Ytiaoandbdgdecaa
section
set_option linter.unusedVariables false
set_option linter.unusedSimpArgs false
open Go.RowKit
theorem find_leaf {s : TS} : ∀ (t : TB) (C : List Fr) {y : Nat × (Nat × Bx)}, y ∈ t.lvs → t.Rp s (upC C) → CxR s C (upC C) t.root → ∃ D, zipT D (TB.lf y.1 y.2.1 y.2.2) = zipT C t ∧ (TB.lf y.1 y.2.1 y.2.2).Rp s (upC D) ∧ CxR s D (upC D) y.1
  | .lf g i b, C, y, hy, hT, hC => by
    obtain rfl : y = (g, (i, b)) := by simpa [TB.lvs] using hy
    exact ⟨C, rfl, hT, hC⟩
  | .nd p l r, C, y, hy, hT, hC => by
    obtain ⟨⟨a1, a2⟩, b1, b2⟩ := cx_down hT hC
    rcases List.mem_append.1 hy with q | q
    · obtain ⟨D, d1, d2, d3⟩ := find_leaf l (frL p l r :: C) q a1 a2
      exact ⟨D, d1, d2, d3⟩
    · obtain ⟨D, d1, d2, d3⟩ := find_leaf r (frR p l r :: C) q b1 b2
      exact ⟨D, d1, d2, d3⟩

structure DtS (s s1 : TS) (n i : Nat) : Prop where
  nd : ∀ k, s1.nd k = s.nd k
  lv : ∀ k, s1.lv k = if k = i then none else s.lv k
  cnt : s1.cnt = ((n : Nat) : Int) - 1
  root : s1.root = s.root
def RetDrop (g : Nat) (s : TS) (t : TB) (i : Nat) (w : World) (e : Ending) (w' : World) : Prop := ∃ s' T' gl b, e = .returned (.int .i64 0) ∧ Mem w' g s' ∧ Out (s.In g) w w' ∧ WF s' T' ∧ t.lvs.Perm ((gl, (i, b)) :: lvsO T') ∧ (∀ k, s'.In g k → s.In g k)

theorem drop_wf {s s1 s' : TS} {t : TB} {T' : Option TB} {i gl : Nat} {b : Bx} (hW : WF s (some t)) (hD : DtS s s1 t.lvs.length i) (hroot : match T' with | none => s'.root = none | some t => s'.root = pA t.root ∧ t.Rp s' none ∧ t.blocks.Nodup ∧ t.tr.Avl)
    (hlv : s'.lv = s1.lv) (hcnt : s'.cnt = s1.cnt) (pm : t.lvs.Perm ((gl, (i, b)) :: lvsO T')) : WF s' T' := by
  have hpm : (t.lvs.map (fun y => y.2.1)).Perm (((gl, (i, b)) :: lvsO T').map (fun y => y.2.1)) := pm.map (fun y : Nat × (Nat × Bx) => y.2.1)
  have hids : (i :: (lvsO T').map (fun y => y.2.1)).Nodup := (List.Perm.nodup_iff hpm).1 hW.ids
  obtain ⟨hni, hids⟩ := List.nodup_cons.1 hids
  have hne : ∀ y ∈ lvsO T', y.2.1 ≠ i := fun y hy e => hni (List.mem_map.2 ⟨y, hy, e⟩)
  have hin : ∀ y ∈ lvsO T', y ∈ t.lvs := fun y hy => pm.mem_iff.2 (List.mem_cons_of_mem _ hy)
  refine ⟨hroot, hids, fun y hy => hW.lt y (hin y hy), fun y hy => ?_, fun k hk hn => ?_, ?_⟩
  · rw [hlv, hD.lv, if_neg (hne y hy)]
    exact hW.lv y (hin y hy)
  · rw [hlv, hD.lv]
    by_cases q : k = i
    · rw [if_pos q]
    · rw [if_neg q]
      refine hW.no k hk (fun y hy => ?_)
      rcases List.mem_cons.1 (pm.mem_iff.1 hy) with e | e
      · rw [e]; exact fun h => q h.symm
      · exact hn y e
  · have h1 : t.lvs.length = (lvsO T').length + 1 := pm.length_eq
    rw [hcnt, hD.cnt, h1]
    omega
theorem drop_tail {w w1 : World} {g gl i : Nat} {s s1 : TS} {t : TB} {f : Fr} {C : List Fr} {b : Bx} (hW : WF s (some t)) (hD : DtS s s1 t.lvs.length i) (hz : zipT (f :: C) (TB.lf gl i b) = t)
    (hC : CxR s1 (f :: C) (pA f.p) gl) (m1 : Mem w1 g s1) (o1 : Out (s.In g) w w1) :
    Calls Try.prog 27 #[.pointer (pA g), .pointer (pA f.p), .pointer (pA f.sib.root)] w1 (fun e w2 => e = .returned (.tuple #[]) ∧ w2.cell? ⟨f.sib.root, 6, none⟩ = some (.pointer (upC C)) ∧
        Calls Try.prog 29 #[.pointer (pA g), .pointer (upC C)] w2 (fun e w3 => e = .returned (.tuple #[]) ∧ RetDrop g s t i w (.returned (.int .i64 0)) w3)) := by
  obtain ⟨hr1, hr2, hr3, hr4⟩ := hW.root
  have hht := hW.ht
  have hzb := zip_blocks (f :: C) (TB.lf gl i b)
  have hzl := zip_lvs (f :: C) (TB.lf gl i b)
  rw [hz] at hzb hzl
  have hza := zip_avl C (TB.nd f.p (f.l (TB.lf gl i b)) (f.r (TB.lf gl i b))) (by show (zipT (f :: C) (TB.lf gl i b)).tr.Avl; rw [hz]; exact hr4)
  have hza : (TB.nd f.p (f.l (TB.lf gl i b)) (f.r (TB.lf gl i b))).tr.Avl ∧ (TB.nd f.p (f.l (TB.lf gl i b)) (f.r (TB.lf gl i b))).tr.ht + C.length ≤ (zipT (f :: C) (TB.lf gl i b)).tr.ht ∧ ∀ x ∈ C, x.sib.tr.ht ≤ (zipT (f :: C) (TB.lf gl i b)).tr.ht := hza
  rw [hz] at hza
  obtain ⟨xa, xh, xs⟩ := hza
  have xht : (TB.nd f.p (f.l (TB.lf gl i b)) (f.r (TB.lf gl i b))).tr.ht = 1 + f.sib.tr.ht ∧ f.sib.tr.Avl := by
    have e0 : (TB.nd f.p (f.l (TB.lf gl i b)) (f.r (TB.lf gl i b))).tr.ht = 1 + max (f.l (TB.lf gl i b)).tr.ht (f.r (TB.lf gl i b)).tr.ht := rfl
    have xa : (f.l (TB.lf gl i b)).tr.Avl ∧ (f.r (TB.lf gl i b)).tr.Avl ∧ _ := xa
    have e1 : (TB.lf gl i b).tr.ht = 0 := rfl
    rw [e0]
    rcases fr_or f (TB.lf gl i b) with ⟨q1, q2⟩ | ⟨q1, q2⟩
    · rw [q1, q2] at xa ⊢
      exact ⟨by omega, xa.2.1⟩
    · rw [q1, q2] at xa ⊢
      exact ⟨by omega, xa.1⟩
  have hnd : ((TB.lf gl i b).blocks ++ cxB (f :: C)).Nodup := (List.Perm.nodup_iff hzb).1 hr3
  have hnd : (gl :: f.p :: (f.sib.blocks ++ cxB C)).Nodup := hnd
  obtain ⟨n1, hnd⟩ := List.nodup_cons.1 hnd
  obtain ⟨n2, hnd⟩ := List.nodup_cons.1 hnd
  obtain ⟨ds, dc, dsc⟩ := List.nodup_append.1 hnd
  obtain ⟨-, up', e1, e2, e3⟩ := hC
  have hup := e3.up
  subst hup
  have ms := f.sib.root_mem
  obtain ⟨rs, hrs, hsu, hsb, hsh⟩ := e2.top
  have nps : f.p ≠ f.sib.root := fun q => n2 (by rw [q]; simp [ms])
  have nvc : f.sib.root ∉ cxB C := fun q => dsc _ ms _ q rfl
  have nuc : f.p ∉ cxB C := fun q => n2 (by simp [q])
  refine (place_cx m1 e3 dc e1 rfl hrs nps nuc nvc).mono ?_
  rintro e w2 ⟨s2, rfl, m2, o2, c2, nv2, pk2, in2⟩
  refine ⟨rfl, (m2.nd _ _ nv2).c6, ?_⟩
  have hT2 : f.sib.Rp s2 (upC C) := TB.Rp.lift e2 ds hrs nv2 (fun k hk hne => pk2.out k hne (fun q => dsc k hk k q rfl))
  have hM2 : MdS s2 g C f.sib 300 := ⟨hT2, c2, hnd, by omega, fun x hx => by have := xs x hx; omega⟩
  refine (mend_calls m2 hM2 (by omega)).mono ?_
  rintro e w3 ⟨s', rfl, m3, o3, r3, rt3, nd3, lv3, cnt3, -, in3⟩
  have in1 : ∀ k, s1.In g k → s.In g k := fun k hk => hk.elim .inl (fun q => .inr (by rwa [hD.nd] at q))
  have pm : t.lvs.Perm ((gl, (i, b)) :: (mendT C f.sib).lvs) := by
    have q1 := List.perm_iff_count.1 (mend_lvs C f.sib)
    have q2 := List.perm_iff_count.1 hzl
    refine List.perm_iff_count.2 fun a => ?_
    have p1 := q1 a
    have p2 := q2 a
    simp only [TB.lvs, cxL, List.count_append, List.count_cons, List.count_nil] at p1 p2 ⊢
    omega
  have hav : (mendT C f.sib).tr.Avl := (mend_shrunk C (TB.nd f.p (f.l (TB.lf gl i b)) (f.r (TB.lf gl i b))) f.sib (by show (zipT (f :: C) (TB.lf gl i b)).tr.Avl; rw [hz]; exact hr4) xht.2 (by omega) (by omega)).1
  exact ⟨rfl, s', some (mendT C f.sib), gl, b, rfl, m3, (o1.trans o2 (fun k _ q => in1 k q)).trans o3 (fun k _ q => in1 k (in2 k q)), drop_wf hW hD ⟨rt3, r3, nd3, hav⟩ (lv3.trans pk2.lv) (cnt3.trans pk2.cnt) pm, pm, fun k hk => in1 k (in2 k (in3 k hk))⟩
end
end Go.Proofs.Ytiaoandbdgdecaa
