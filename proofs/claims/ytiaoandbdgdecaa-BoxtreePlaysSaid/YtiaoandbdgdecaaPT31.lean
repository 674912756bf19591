/- Parts of a proof: contracts and laws. -/
import Derived.Test.YtiaoandbdgdecaaPT28
namespace Go.Proofs.Ytiaoandbdgdecaa
section
set_option linter.unusedVariables false
set_option linter.unusedSimpArgs false
open Go.RowKit
theorem WF.len {s : TS} {t : TB} (hW : WF s (some t)) : t.lvs.length ≤ 256 := by
  have := nodup_le 256 _ hW.ids (fun x hx => by
    obtain ⟨y, hy, rfl⟩ := List.mem_map.1 hx
    exact hW.lt y hy)
  rwa [List.length_map] at this
set_option maxRecDepth 100000 in
set_option maxHeartbeats 8000000 in
theorem drop_calls {w : World} {g : Nat} {s : TS} (h : Mem w g s) {t : TB} (hW : WF s (some t)) {i : Nat} (hi : i < 256) {y : Nat × (Nat × Bx)} (hy : y ∈ t.lvs) (hyi : y.2.1 = i) :
    Calls Try.prog 13 #[.pointer (pA g), .int .i64 (i : Nat)] w (RetDrop g s t i w) := by
  obtain ⟨gl, j, b⟩ := y
  have hyi : j = i := hyi
  subst hyi
  obtain ⟨hr1, hr2, hr3, hr4⟩ := hW.root
  obtain ⟨D, hz, hlT, hlC⟩ := find_leaf t [] hy hr2 ⟨rfl, hr1⟩
  have hz : zipT D (TB.lf gl j b) = t := hz
  have hnl : s.nd gl = some ⟨b, ((j : Nat) : Int), 0, upC D, none, none⟩ := hlT
  have hlC : CxR s D (upC D) gl := hlC
  have hlv : s.lv j = pA gl := hW.lv _ hy
  have hln := hW.len
  obtain ⟨cn, hcn⟩ : ∃ z, z = ((t.lvs.length : Nat) : Int) := ⟨_, rfl⟩
  have hcnt : s.cnt = cn := by rw [hcn]; exact hW.cnt
  have hcw : IntKind.i64.wrap (cn - 1) = cn - 1 := IntWalk.i64_in _ (by omega)
  have i0 : ¬ (j : Int) < 0 := by omega
  have i1 : ¬ (j : Int) ≥ 256 := by omega
  have i2 : (j : Int) < 256 := by omega
  have a_0 := h.lv j hi
  rw [hlv] at a_0
  have a_2 := h.cnt
  rw [hcnt] at a_2
  have af := h.free
  have lg := lt_of_cell a_2
  obtain ⟨w1, hw1⟩ : ∃ x, x = w.setCell ⟨g, 1 + j, none⟩ (.pointer none) := ⟨_, rfl⟩
  have m1 := h.setLv hi none
  rw [← hw1] at m1
  have o1 : Out (s.In g) w w1 := by rw [hw1]; exact (Out.refl _ w).setCell (p := ⟨g, 1 + j, none⟩) (.inr (.inl rfl)) _
  have b_2 : w1.cell? ⟨g, 257, none⟩ = some (.int .i64 cn) := by rw [hw1]; exact cell_neB a_2 (by omega)
  have bf := m1.free
  have lg1 := lt_of_cell b_2
  obtain ⟨w2, hw2⟩ : ∃ x, x = w1.setCell ⟨g, 257, none⟩ (.int .i64 (cn - 1)) := ⟨_, rfl⟩
  have m2 := m1.setCnt (cn - 1)
  rw [← hw2] at m2
  have o2 : Out (s.In g) w w2 := by rw [hw2]; exact o1.setCell (p := ⟨g, 257, none⟩) (.inr (.inl rfl)) _
  have hD : DtS s { { s with lv := fun k => if k = j then none else s.lv k } with cnt := cn - 1 } t.lvs.length j := ⟨fun _ => rfl, fun _ => rfl, by rw [hcn], rfl⟩
  have n2 := m2.nd gl _ hnl
  cases D with
  | nil =>
    have hz : TB.lf gl j b = t := hz
    have e6 : w2.cell? ⟨gl, 6, none⟩ = some (.pointer none) := n2.c6
    have l6 := lt_of_cell e6
    have r0 := m2.root
    have rf := m2.free
    have lg2 := lt_of_cell r0
    obtain ⟨w3, hw3⟩ : ∃ x, x = w2.setCell ⟨g, 0, none⟩ (.pointer none) := ⟨_, rfl⟩
    have m3 := m2.setRoot none
    rw [← hw3] at m3
    have o3 : Out (s.In g) w w3 := by rw [hw3]; exact o2.setCell (p := ⟨g, 0, none⟩) (.inr (.inl rfl)) _
    have pm : t.lvs.Perm ((gl, (j, b)) :: lvsO none) := by rw [← hz]; exact List.Perm.refl _
    have fin : RetDrop g s t j w (.returned (.int .i64 0)) w3 := ⟨_, none, gl, b, rfl, m3, o3, drop_wf hW hD rfl rfl rfl pm, pm, fun k hk => hk⟩
    have FIN := hid fin
    clear h hW hy hr1 hr2 hr3 hr4 hz hlT hlC hnl hlv hln hcn hcnt m1 m2 m3 o1 o2 o3 hD n2 pm fin
    go_enter Try.func13, Try.ntmps13
    go_upto_region 7 with fail
    rw [← hw1]
    clear hw1 a_0 a_2 af lg
    go_upto_region 8 with fail
    rw [← hw2]
    clear hw2 b_2 bf lg1
    go_wp2
    rw [← hw3]
    go_returns
    exact FIN.out
  | cons f C =>
    have hC2 : CxR { { s with lv := fun k => if k = j then none else s.lv k } with cnt := cn - 1 } (f :: C) (pA f.p) gl := CxR.same hlC (fun _ _ => rfl) rfl
    have HT := hid (drop_tail hW hD hz hC2 m2 o2)
    obtain ⟨-, up', e1, e2, e3⟩ := hC2
    have n3 := m2.nd f.p _ e1
    obtain ⟨rs, hrs, -⟩ := e2.top
    have n4 := m2.nd f.sib.root _ hrs
    have hne : f.sib.root ≠ gl := by
      have hnd : ((TB.lf gl j b).blocks ++ cxB (f :: C)).Nodup := by
        have := zip_blocks (f :: C) (TB.lf gl j b)
        rw [hz] at this
        exact (List.Perm.nodup_iff this).1 hr3
      have hnd : (gl :: f.p :: (f.sib.blocks ++ cxB C)).Nodup := hnd
      intro e
      have ms := f.sib.root_mem
      exact (List.nodup_cons.1 hnd).1 (by rw [← e]; simp [ms])
    have e6 : w2.cell? ⟨gl, 6, none⟩ = some (.pointer (some ⟨f.p, 0, none⟩)) := n2.c6
    have l6 := lt_of_cell e6
    have k7 := n3.c7
    have k8 := n3.c8
    have l7 := lt_of_cell k7
    have hq1 := run_eqNs gl w2
    have hq2 := run_eqNd n4 n2 hne
    clear h hW hy hr1 hr2 hr3 hr4 hz hlT hlC hnl hlv hln hcn hcnt m1 m2 o1 o2 hD n2 n3 n4 hrs hne e1 e2 e3
    generalize f.sib.root = gs at *
    generalize f.p = gp at *
    cases hlf : f.left with
    | true =>
      rw [hlf] at k7 k8
      have k7 : w2.cell? ⟨gp, 7, none⟩ = some (.pointer (some ⟨gl, 0, none⟩)) := k7
      have k8 : w2.cell? ⟨gp, 8, none⟩ = some (.pointer (some ⟨gs, 0, none⟩)) := k8
      clear hlf hq2
      go_enter Try.func13, Try.ntmps13
      go_upto_region 7 with fail
      rw [← hw1]
      clear hw1 a_0 a_2 af lg
      go_upto_region 8 with fail
      rw [← hw2]
      clear hw2 b_2 bf lg1
      go_wp2_with fail
      refine HT.out.mono ?_
      rintro e w3 ⟨rfl, k6, hm⟩
      have HM := hid hm
      have l3 := lt_of_cell k6
      clear hm HT e6 l6 k7 k8 l7 hq1
      go_wp2_with fail
      refine HM.out.mono ?_
      rintro e w4 ⟨rfl, hR⟩
      have HR := hid hR
      clear hR HM k6 l3
      go_wp2
      go_returns
      exact HR.out
    | false =>
      rw [hlf] at k7 k8
      have k7 : w2.cell? ⟨gp, 7, none⟩ = some (.pointer (some ⟨gs, 0, none⟩)) := k7
      have k8 : w2.cell? ⟨gp, 8, none⟩ = some (.pointer (some ⟨gl, 0, none⟩)) := k8
      clear hlf hq1
      go_enter Try.func13, Try.ntmps13
      go_upto_region 7 with fail
      rw [← hw1]
      clear hw1 a_0 a_2 af lg
      go_upto_region 8 with fail
      rw [← hw2]
      clear hw2 b_2 bf lg1
      go_wp2_with fail
      refine HT.out.mono ?_
      rintro e w3 ⟨rfl, k6, hm⟩
      have HM := hid hm
      have l3 := lt_of_cell k6
      clear hm HT e6 l6 k7 k8 l7 hq2
      go_wp2_with fail
      refine HM.out.mono ?_
      rintro e w4 ⟨rfl, hR⟩
      have HR := hid hR
      clear hR HM k6 l3
      go_wp2
      go_returns
      exact HR.out
end
end Go.Proofs.Ytiaoandbdgdecaa
