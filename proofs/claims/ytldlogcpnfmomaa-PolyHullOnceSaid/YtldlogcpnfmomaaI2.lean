/- The contract of slices.Reverse of own slices of vectors. -/
import Derived.Test.YtldlogcpnfmomaaI1
import Derived.Test.YtldlogcpnfmomaaR3
namespace Go.Proofs.Ytldlogcpnfmomaa
set_option linter.unusedVariables false
set_option linter.unusedSimpArgs false
open Go.RowKit Go.Sort Go.Lib

/-- points of which the first k and the last k have changed places -/
def rvV (l : List V) : Nat → List V
  | 0 => l
  | k + 1 => ((rvV l k).set k (ptL l (l.length - 1 - k))).set (l.length - 1 - k) (ptL l k)
theorem rvV_len (l : List V) : ∀ k, (rvV l k).length = l.length
  | 0 => rfl
  | k + 1 => by rw [rvV, List.length_set, List.length_set, rvV_len l k]
theorem rvV_at (l : List V) : ∀ (k : Nat), 2 * k ≤ l.length → ∀ t, t < l.length → ptL (rvV l k) t = if t < k ∨ l.length - 1 - t < k then ptL l (l.length - 1 - t) else ptL l t
  | 0, _, t, ht => by simp [rvV]
  | k + 1, hk, t, ht => by
    have ih := rvV_at l k (by omega) t ht
    have hl := rvV_len l k
    rw [rvV, ptL_set, ptL_set, List.length_set, hl]
    by_cases h1 : l.length - 1 - k = t
    · rw [if_pos ⟨h1, by omega⟩, if_pos (by omega), show l.length - 1 - t = k by omega]
    · rw [if_neg (by omega)]
      by_cases h2 : k = t
      · rw [if_pos ⟨h2, by omega⟩, if_pos (by omega), h2]
      · rw [if_neg (by omega), ih]
        have e : (t < k ∨ l.length - 1 - t < k) ↔ (t < k + 1 ∨ l.length - 1 - t < k + 1) := by omega
        simp only [e]
theorem rvV_all (l : List V) (k : Nat) (h1 : 2 * k ≤ l.length) (h2 : l.length ≤ 2 * k + 1) : rvV l k = l.reverse := by
  apply List.ext_getElem
  · rw [rvV_len, List.length_reverse]
  · intro t ht1 ht2
    have ht : t < l.length := by rw [rvV_len] at ht1; exact ht1
    have h := rvV_at l k h1 t ht
    rw [List.getElem_reverse, ← ptL_get, ← ptL_get, h]
    split
    · rfl
    · rw [show l.length - 1 - t = t by omega]
theorem Own.at2 {w : World} {B g n cap : Nat} {l : List V} (h : Own w B (.slice (some ⟨g, 0, none⟩) n cap) l) {i : Nat} (hi : i < l.length) : w.cell? ⟨g, i * 2, none⟩ = some (.int .i64 (px l i)) ∧ w.cell? ⟨g, i * 2 + 1, none⟩ = some (.int .i64 (py l i)) ∧ (∀ j, w.frozen? ⟨g, j, none⟩ = false) ∧ g < w.heap.size := by
  rcases h.frm with ⟨e1, -⟩ | ⟨g', cap', e1, -, hgw, -, -, hfz, hc⟩
  · cases e1
  obtain ⟨rfl, rfl⟩ : g = g' ∧ cap = cap' := by injection e1 with e1 e2 e3; injection e1 with e1; injection e1 with e1; exact ⟨e1, e3⟩
  exact ⟨(hc i hi).1, (hc i hi).2, hfz, hgw⟩

set_option maxRecDepth 100000 in
set_option maxHeartbeats 4000000 in
theorem reverseV_calls (s : Value) (l : List V) (B : Nat) (w : World) (hO : Own w B s l) (hl : l.length ≤ 100000) : Calls Try.prog 124 #[s] w fun e w' => e = .returned (.tuple #[]) ∧ Own w' B s l.reverse ∧ w.grownBy w' s.ownBlock := by
  rcases hO.frm with ⟨rfl, rfl⟩ | ⟨g, c, rfl, hBg, hg, hn, hm, -, -⟩
  · go_enter Try.func124, Try.ntmps124
    go_wp2
    go_loopw [2, 3] (fun i j wr => i = .int .i64 0 ∧ j = .int .i64 (-1) ∧ wr = w) (fun i _ _ => 0)
    case atStart => exact ⟨rfl, rfl, rfl⟩
    case round =>
      obtain ⟨rfl, rfl, rfl⟩ := hrel
      go_wp2
      go_returns
      exact ⟨rfl, hO, World.grownBy.refl _ _⟩
  · have HO0 := hid hO
    clear hO
    have hw0 : IntKind.i64.wrap ((l.length : Int) - 1) = (l.length : Int) - 1 := IntWalk.i64_in _ (by omega)
    go_enter Try.func124, Try.ntmps124
    go_wp2
    go_loopw [2, 3] (fun i j wr => ∃ k : Nat, 2 * k ≤ l.length ∧ i = .int .i64 k ∧ j = .int .i64 ((l.length : Int) - 1 - (k : Int)) ∧ Own wr B (.slice (some ⟨g, 0, none⟩) l.length c) (rvV l k) ∧ w.grownBy wr (some g)) (fun i _ _ => l.length - (intOf i).toNat)
    case atStart => exact ⟨0, by omega, rfl, by simp, HO0.out, World.grownBy.refl _ _⟩
    case round =>
      clear HO0
      obtain ⟨k, hk, rfl, rfl, ho, hG⟩ := hrel
      obtain ⟨wo, rfl⟩ : ∃ wo : World, wo = wr := ⟨_, rfl⟩
      have HO0 := hid ho
      by_cases hlt : (k : Int) < (l.length : Int) - 1 - (k : Int)
      · have hkl : k < l.length := by omega
        obtain ⟨j, hj⟩ : ∃ j, j = l.length - 1 - k := ⟨_, rfl⟩
        have hjI : (l.length : Int) - 1 - (k : Int) = (j : Int) := by omega
        have hjL : j < l.length := by omega
        have hk' : (k : Int) < (l.length : Int) := by omega
        have hj' : (j : Int) < (l.length : Int) := by omega
        have hlt2 : (k : Int) < (j : Int) := by omega
        have hwk : IntKind.i64.wrap ((k : Int) + 1) = (k : Int) + 1 := IntWalk.i64_in _ (by omega)
        have hwj : IntKind.i64.wrap ((j : Int) - 1) = (j : Int) - 1 := IntWalk.i64_in _ (by omega)
        have hk2 : 2 * (k + 1) ≤ l.length := by omega
        have HNX : Hid (rvV l (k + 1) = ((rvV l k).set k (ptL l j)).set j (ptL l k)) := by rw [hj]; exact rfl
        have hlen := rvV_len l k
        have hxk := rvV_at l k (by omega) k hkl
        rw [if_neg (by omega)] at hxk
        have hyj := rvV_at l k (by omega) j hjL
        rw [if_neg (by omega)] at hyj
        obtain ⟨x_0, x_1, hfz, hgw⟩ := ho.at2 (i := k) (by omega)
        obtain ⟨y_0, y_1, -, -⟩ := ho.at2 (i := j) (by omega)
        have HF := hid hfz
        rw [show px (rvV l k) k = (ptL l k).1 from congrArg Prod.fst hxk] at x_0
        rw [show py (rvV l k) k = (ptL l k).2 from congrArg Prod.snd hxk] at x_1
        rw [show px (rvV l k) j = (ptL l j).1 from congrArg Prod.fst hyj] at y_0
        rw [show py (rvV l k) j = (ptL l j).2 from congrArg Prod.snd hyj] at y_1
        rw [hjI]
        have HK := hid (And.intro hk (And.intro hj hjI))
        have HGw := hid hG
        clear hG
        clear hxk hyj
        generalize rvV l k = M at *
        generalize ptL l k = pk at *
        generalize ptL l j = pj at *
        obtain ⟨x0, x1⟩ := pk
        obtain ⟨y0, y1⟩ := pj
        try dsimp only at x_0 x_1 y_0 y_1
        have hkL : k < M.length := by omega
        have hjL2 : j < (M.set k (y0, y1)).length := by rw [List.length_set]; omega
        clear ho hj hjI hk hlt hfz
        go_upto_region 3 with fail
        refine wp_region_noPanic ?_
        refine wp_region_U (S := (S2 (fun w' => w'.cell? ⟨g, k * 2, none⟩ = some (.int .i64 x0) ∧ w'.cell? ⟨g, k * 2 + 1, none⟩ = some (.int .i64 x1) ∧ w'.cell? ⟨g, j * 2, none⟩ = some (.int .i64 y0) ∧ w'.cell? ⟨g, j * 2 + 1, none⟩ = some (.int .i64 y1) ∧ Own w' B (.slice (some ⟨g, 0, none⟩) l.length c) M ∧ w.grownBy w' (some g)))) (T := (fun j => [0, 0, 0, 0, 0, 0, 0, 0, 0, 0, 0, 0, 0, 1].getD j 0)) (by kernel_rfl) (S2i0 ⟨x_0, x_1, y_0, y_1, HO0.out.drew, grown_drew HGw.out⟩) (fun hH => ?_)
        have hWr1 : Weaker (S2 (fun w' => w'.cell? ⟨g, k * 2, none⟩ = some (.int .i64 x0) ∧ w'.cell? ⟨g, k * 2 + 1, none⟩ = some (.int .i64 x1) ∧ w'.cell? ⟨g, j * 2, none⟩ = some (.int .i64 y0) ∧ w'.cell? ⟨g, j * 2 + 1, none⟩ = some (.int .i64 y1) ∧ Own w' B (.slice (some ⟨g, 0, none⟩) l.length c) M ∧ w.grownBy w' (some g))) := weaker2 _
        refine Ut 0 14 15 0 0 (v := ?vr1_1) rfl hWr1 hH ?yr1_1 ?_
        case yr1_1 => (intro w' hSw; clear hSw; go_simp; try (with_reducible rfl))
        simp only [sB, sC]
        refine Ut 1 15 14 0 0 (v := ?vr1_2) rfl hWr1 hH ?yr1_2 ?_
        case yr1_2 => (intro w' hSw; clear hSw; go_simp; try (with_reducible rfl))
        simp only [sB, sC]
        refine Ut 4 18 13 0 0 (v := ?vr1_3) rfl hWr1 hH ?yr1_3 ?_
        case yr1_3 => (intro w' hSw; clear hSw; go_simp; try (with_reducible rfl))
        simp only [sB, sC]
        refine Ut 5 19 12 0 0 (v := ?vr1_4) rfl hWr1 hH ?yr1_4 ?_
        case yr1_4 => (intro w' hSw; clear hSw; go_simp; try (with_reducible rfl))
        simp only [sB, sC]
        refine Ut 6 20 11 0 0 (v := ?vr1_5) rfl hWr1 hH ?yr1_5 ?_
        case yr1_5 => (intro w' hSw; clear hSw; go_simp; try (with_reducible rfl))
        simp only [sB, sC]
        refine Ut 7 21 10 0 0 (v := ?vr1_6) rfl hWr1 hH ?yr1_6 ?_
        case yr1_6 => (intro w' hSw; replace hSw := S2o0 hSw; (try dsimp only at hSw); have q0 := hSw.1; have q1 := hSw.2.1; have q2 := hSw.2.2.1; have q3 := hSw.2.2.2.1; have q4 := hSw.2.2.2.2.1; have q5 := hSw.2.2.2.2.2; go_simp; try (with_reducible rfl))
        simp only [sB, sC]
        refine Ut 8 22 9 0 0 (v := ?vr1_7) rfl hWr1 hH ?yr1_7 ?_
        case yr1_7 => (intro w' hSw; clear hSw; go_simp; try (with_reducible rfl))
        simp only [sB, sC]
        refine Ut 9 23 8 0 0 (v := ?vr1_8) rfl hWr1 hH ?yr1_8 ?_
        case yr1_8 => (intro w' hSw; clear hSw; go_simp; try (with_reducible rfl))
        simp only [sB, sC]
        refine Ut 10 24 7 0 0 (v := ?vr1_9) rfl hWr1 hH ?yr1_9 ?_
        case yr1_9 => (intro w' hSw; clear hSw; go_simp; try (with_reducible rfl))
        simp only [sB, sC]
        refine Ut 11 25 6 0 0 (v := ?vr1_10) rfl hWr1 hH ?yr1_10 ?_
        case yr1_10 => (intro w' hSw; replace hSw := S2o0 hSw; (try dsimp only at hSw); have q0 := hSw.1; have q1 := hSw.2.1; have q2 := hSw.2.2.1; have q3 := hSw.2.2.2.1; have q4 := hSw.2.2.2.2.1; have q5 := hSw.2.2.2.2.2; go_simp; try (with_reducible rfl))
        simp only [sB, sC]
        refine Ut 12 26 5 0 0 (v := ?vr1_11) rfl hWr1 hH ?yr1_11 ?_
        case yr1_11 => (intro w' hSw; clear hSw; go_simp; try (with_reducible rfl))
        simp only [sB, sC]
        refine Ut 2 16 4 1 0 (v := ?vr1_12) rfl hWr1 hH ?yr1_12 ?_
        case yr1_12 => (intro w' hSw; clear hSw; go_simp; try (with_reducible rfl))
        simp only [sB, sC]
        refine Ut 3 17 3 1 0 (v := ?vr1_13) rfl hWr1 hH ?yr1_13 ?_
        case yr1_13 => (intro w' hSw; clear hSw; go_simp; try (with_reducible rfl))
        simp only [sB, sC]
        refine U1 13 1 rfl (fun K hK => ?_)
        have hG := hH
        replace hG := S2o0 hG; (try dsimp only at hG); have q0 := hG.1; have q1 := hG.2.1; have q2 := hG.2.2.1; have q3 := hG.2.2.2.1; have q4 := hG.2.2.2.2.1; have q5 := hG.2.2.2.2.2
        have HO := hid HO0.out
        have HB := hid HGw.out
        have zf : ∀ j, wo.frozen? ⟨g, j, none⟩ = false := HF.out
        go_simp
        refine hK.out _ _ (S2i1) (fun hH2 => ?_)
        clear hK K hH
        rename _ => hH
        try simp only [Act.put, sA, sB, sC]
        have hf1 := hid (HO.out.put2 y0 y1 hkL)
        have hb1 := hid (HB.out.trans ((grown_setCell wo g (k * 2) (.int .i64 y0)).trans (grown_setCell _ g (k * 2 + 1) (.int .i64 y1))))
        obtain ⟨wy, hwy⟩ : ∃ w', w' = (((wo.setCell ⟨g, k * 2, none⟩ (.int .i64 y0)).setCell ⟨g, k * 2 + 1, none⟩ (.int .i64 y1))).drew := ⟨_, rfl⟩
        replace HO : Hid (Own wy B (.slice (some ⟨g, 0, none⟩) l.length c) (M.set k (y0, y1))) := by rw [hwy]; exact hf1.out.drew
        replace HB : Hid (w.grownBy wy (some g)) := by rw [hwy]; exact grown_drew hb1.out
        rw [← hwy]
        try rw [← hwy] at hH
        clear hwy hf1 hb1 q0 q1 q2 q3 q4 q5 zf
        refine Ut 14 27 1 1 1 (v := ?vr1_15) rfl hWr1 hH ?yr1_15 ?_
        case yr1_15 => (intro w' hSw; clear hSw; go_simp; try (with_reducible rfl))
        simp only [sB, sC]
        refine U1 15 1 rfl (fun K hK => ?_)
        obtain ⟨z0, z1, zf, hgw⟩ := HO.out.at2 hjL2
        go_simp
        refine hK.out _ _ (S2i1) (fun hH2 => ?_)
        clear hK K hH
        rename _ => hH
        try simp only [Act.put, sA, sB, sC]
        have hf1 := hid (HO.out.put2 x0 x1 hjL2)
        have hb1 := hid (HB.out.trans ((grown_setCell wy g (j * 2) (.int .i64 x0)).trans (grown_setCell _ g (j * 2 + 1) (.int .i64 x1))))
        obtain ⟨wz, hwz⟩ : ∃ w', w' = ((wy.setCell ⟨g, j * 2, none⟩ (.int .i64 x0)).setCell ⟨g, j * 2 + 1, none⟩ (.int .i64 x1)) := ⟨_, rfl⟩
        replace HO : Hid (Own wz B (.slice (some ⟨g, 0, none⟩) l.length c) ((M.set k (y0, y1)).set j (x0, x1))) := by rw [hwz]; exact hf1
        replace HB : Hid (w.grownBy wz (some g)) := by rw [hwz]; exact hb1
        rw [← hwz]
        clear hwz hf1 hb1 z0 z1 zf
        refine wpAnyU_done (by kernel_rfl) ?_ _ _
        refine NoPanic.normal ?_
        go_wp2
        go_roundw
        case rel => exact ⟨k + 1, hk2, by go_num, by have := HK.out.2.2; (go_num <;> omega), by rw [HNX.out]; exact HO.out, HB.out⟩
        case measure => simp [intOf]; omega
      · have hfin := rvV_all l k hk (by omega)
        rw [hfin] at HO0
        clear ho hfin
        go_wp2
        go_returns
        exact ⟨rfl, HO0.out, hG⟩

end Go.Proofs.Ytldlogcpnfmomaa
