/- The contract of the reference's Centre. -/
import Derived.Test.YtjoodpjndpdjnaaM11
import Derived.Test.YtjoodpjndpdjnaaG4
import Derived.Test.YtjoodpjndpdjnaaZ7
import Derived.Test.YtjoodpjndpdjnaaZ5
import Derived.Deep.DeepCutAuto
namespace Go.Proofs.Ytjoodpjndpdjnaa
set_option linter.unusedVariables false
set_option linter.unusedSimpArgs false
open Go.RowKit

set_option maxRecDepth 100000 in
set_option maxHeartbeats 4000000 in
theorem rcentre_calls (A : Option Addr) (n c : Nat) (l : List V) (w : World) (hS : Sl w A n c l) (hE : checkE l = 0) :
    Calls Try.prog 60 #[.slice A n c] w (Ret (vecV (cenQ l).1 (cenQ l).2) w) := by
  obtain ⟨h8, h3, hw, _⟩ := checkE_zero hE
  obtain ⟨bl, off, rfl, hC⟩ := hS.at_ (by intro h; subst h; simp at h3)
  have hn := hS.len
  subst hn
  have hb2 := hC.lt
  have hcap := hS.cap
  have HC := hid hC
  have HW := hid hw
  have hcen := cen_bd hw h8
  have HCB0 := hid hcen
  have har : 0 < areaZ l ∧ areaZ l ≤ 300000000000000000 := ⟨area_pos hE, by have := areaTo_bd hw (l.length - 2) (by omega); unfold areaZ; omega⟩
  have HAR := hid har
  have HAS := hid (crs_area l h3)
  clear hS hC hw hcen har hE
  go_enter Try.func60, Try.ntmps60
  go_wp2
  go_loopw [18] (fun i wr => ∃ k : Nat, k ≤ l.length ∧ i = .int .i64 k ∧ Blk8 wr (w.heap.size + 1) (digs (sumTo (cxL l) k)) ∧ Blk8 wr (w.heap.size + 2) (digs (sumTo (cyL l) k)) ∧ Blk8 wr (w.heap.size + 3) (digs (sumTo (crsL l) k)) ∧ There wr w.heap.size 2 ∧ Below w.heap.size w wr) (fun i _ => l.length - (intOf i).toNat)
  case atStart =>
    have hz : (fun _ => 0) = digs 0 := by funext j; simp [digs]
    refine ⟨0, by omega, rfl, ?_, ?_, ?_, ?_, by go_grown⟩
    · show Blk8 _ (w.heap.size + 1) (digs 0)
      rw [← hz]
      exact (((Blk8.fresh (by simp)).later _).later _)
    · show Blk8 _ (w.heap.size + 2) (digs 0)
      rw [← hz]
      exact ((Blk8.fresh (by simp)).later _)
    · show Blk8 _ (w.heap.size + 3) (digs 0)
      rw [← hz]
      exact Blk8.fresh (by simp)
    · exact (((There.fresh2 rfl rfl).alloc _).alloc _).alloc _
  case round =>
    obtain ⟨k, hk, rfl, hX, hY, hZ, hT, hB⟩ := hrel
    obtain ⟨wo, rfl⟩ : ∃ wo : World, wo = wr := ⟨_, rfl⟩
    by_cases hlt : k < l.length
    · obtain ⟨X, hXe⟩ : ∃ X, X = sumTo (cxL l) k := ⟨_, rfl⟩
      obtain ⟨Y, hYe⟩ : ∃ Y, Y = sumTo (cyL l) k := ⟨_, rfl⟩
      obtain ⟨Z, hZe⟩ : ∃ Z, Z = sumTo (crsL l) k := ⟨_, rfl⟩
      obtain ⟨j, hje⟩ : ∃ j, j = (k + 1) % l.length := ⟨_, rfl⟩
      have hj : j < l.length := by rw [hje]; exact Nat.mod_lt _ (by omega)
      have hji : ((k : Int) + 1) % (l.length : Int) = (j : Int) := by rw [hje]; simp
      have hji2 : (((k : Int) + 1) % (l.length : Int)).toNat = j := by omega
      have hji3 : ((k : Int) + 1) % (l.length : Int) < (l.length : Int) := by omega
      have hji4 : 0 ≤ ((k : Int) + 1) % (l.length : Int) := by omega
      obtain ⟨a, ha⟩ : ∃ a, a = px l k := ⟨_, rfl⟩
      obtain ⟨b, hb⟩ : ∃ b, b = py l k := ⟨_, rfl⟩
      obtain ⟨c', hc⟩ : ∃ c', c' = px l j := ⟨_, rfl⟩
      obtain ⟨d, hd⟩ : ∃ d, d = py l j := ⟨_, rfl⟩
      have hsX : Hid (sumTo (cxL l) (k + 1) = X + (a + c') * crsZ a b c' d) := by rw [hXe, ha, hb, hc, hd, hje]; rfl
      have hsY : Hid (sumTo (cyL l) (k + 1) = Y + (b + d) * crsZ a b c' d) := by rw [hYe, ha, hb, hc, hd, hje]; rfl
      have hsZ : Hid (sumTo (crsL l) (k + 1) = Z + crsZ a b c' d) := by rw [hZe, ha, hb, hc, hd, hje]; rfl
      rw [← hXe] at hX
      rw [← hYe] at hY
      rw [← hZe] at hZ
      have hCo := HC.out.below hB
      have hx := hCo.x k hlt
      have hy := hCo.y k hlt
      have hx2 := hCo.x j hj
      have hy2 := hCo.y j hj
      have hbo := hCo.lt
      obtain ⟨q1, q2, q3, q4⟩ := withinB_iff.1 (allWithin_at HW.out hlt)
      obtain ⟨q5, q6, q7, q8⟩ := withinB_iff.1 (allWithin_at HW.out hj)
      rw [← ha] at hx q1 q2
      rw [← hb] at hy q3 q4
      rw [← hc] at hx2 q5 q6
      rw [← hd] at hy2 q7 q8
      have hl0 := hX.lt
      have hl1 := hY.lt
      have hl2 := hZ.lt
      have HX0 := hid hX
      have HY0 := hid hY
      have HZ0 := hid hZ
      have HT0 := hid hT
      clear hCo hX hY hZ hT hXe hYe hZe hje ha hb hc hd
      go_wp2_with fail
      refine (rcross_calls a b c' d ⟨by omega, by omega⟩ ⟨by omega, by omega⟩ ⟨by omega, by omega⟩ ⟨by omega, by omega⟩ _).mono ?_
      rintro e w1 ⟨rfl, hb1⟩
      obtain ⟨t, ht⟩ : ∃ t, t = crsZ a b c' d := ⟨_, rfl⟩
      rw [← ht] at hsX hsY hsZ
      rw [show a * d - b * c' = t from ht.symm]
      have HTt := hid ht
      clear ht
      have p1 : w1.cell? ⟨wo.heap.size, 0, none⟩ = some (.int .i64 a) := keepCell hb1 (by go_simp)
      have p2 : w1.cell? ⟨wo.heap.size, 1, none⟩ = some (.int .i64 b) := keepCell hb1 (by go_simp)
      have p3 : w1.cell? ⟨wo.heap.size + 1, 0, none⟩ = some (.int .i64 c') := keepCell hb1 (by go_simp)
      have p4 : w1.cell? ⟨wo.heap.size + 1, 1, none⟩ = some (.int .i64 d) := keepCell hb1 (by go_simp)
      have HX1 := hid (keepBlk hb1 ((HX0.out.later _).later _))
      have HY1 := hid (keepBlk hb1 ((HY0.out.later _).later _))
      have HZ1 := hid (keepBlk hb1 ((HZ0.out.later _).later _))
      have HT1 := hid (There.below hb1 ((HT0.out.alloc _).alloc _))
      have hB1 : Below w.heap.size w w1 := ((hB.alloc hB.size _).alloc (by have := hB.size; simp; omega) _).trans (hb1.mono (by have := hB.size; simp; omega))
      have l1 := lt_of_cell p1
      have l2 := lt_of_cell p3
      clear hx hy hx2 hy2 hb1 HX0 HY0 HZ0 HT0
      have hz := hB1.size
      go_upto_region 8 with fail
      go_cut [] from 34 to 53 (fun wx => Blk8 wx (w.heap.size + 1) (digs (X + (a + c') * t)) ∧ Blk8 wx (w.heap.size + 2) (digs (Y + (b + d) * t)) ∧ Blk8 wx w1.heap.size (digs t) ∧ Blk8 wx (w.heap.size + 3) (digs Z) ∧ There wx w.heap.size 2 ∧ Below w.heap.size w wx)
      case first =>
        clear HTt hsX hsY hsZ
        have HX := hid (HX1.out.later (.cells #[.int .u32 (digs t 0), .int .u32 (digs t 1), .int .u32 (digs t 2), .int .u32 (digs t 3), .int .u32 (digs t 4), .int .u32 (digs t 5), .int .u32 (digs t 6), .int .u32 (digs t 7)] 52))
        have HY := hid (HY1.out.later (.cells #[.int .u32 (digs t 0), .int .u32 (digs t 1), .int .u32 (digs t 2), .int .u32 (digs t 3), .int .u32 (digs t 4), .int .u32 (digs t 5), .int .u32 (digs t 6), .int .u32 (digs t 7)] 52))
        have HZ := hid (HZ1.out.later (.cells #[.int .u32 (digs t 0), .int .u32 (digs t 1), .int .u32 (digs t 2), .int .u32 (digs t 3), .int .u32 (digs t 4), .int .u32 (digs t 5), .int .u32 (digs t 6), .int .u32 (digs t 7)] 52))
        have HT := hid (HT1.out.alloc (.cells #[.int .u32 (digs t 0), .int .u32 (digs t 1), .int .u32 (digs t 2), .int .u32 (digs t 3), .int .u32 (digs t 4), .int .u32 (digs t 5), .int .u32 (digs t 6), .int .u32 (digs t 7)] 52))
        have HCB := hid (Blk8.here w1 52 (digs t))
        have hB4 := hB1.alloc hB1.size (.cells #[.int .u32 (digs t 0), .int .u32 (digs t 1), .int .u32 (digs t 2), .int .u32 (digs t 3), .int .u32 (digs t 4), .int .u32 (digs t 5), .int .u32 (digs t 6), .int .u32 (digs t 7)] 52)
        replace p1 := keepCell ((Below.refl w1.heap.size w1).alloc (Nat.le_refl _) (.cells #[.int .u32 (digs t 0), .int .u32 (digs t 1), .int .u32 (digs t 2), .int .u32 (digs t 3), .int .u32 (digs t 4), .int .u32 (digs t 5), .int .u32 (digs t 6), .int .u32 (digs t 7)] 52)) p1
        replace p2 := keepCell ((Below.refl w1.heap.size w1).alloc (Nat.le_refl _) (.cells #[.int .u32 (digs t 0), .int .u32 (digs t 1), .int .u32 (digs t 2), .int .u32 (digs t 3), .int .u32 (digs t 4), .int .u32 (digs t 5), .int .u32 (digs t 6), .int .u32 (digs t 7)] 52)) p2
        replace p3 := keepCell ((Below.refl w1.heap.size w1).alloc (Nat.le_refl _) (.cells #[.int .u32 (digs t 0), .int .u32 (digs t 1), .int .u32 (digs t 2), .int .u32 (digs t 3), .int .u32 (digs t 4), .int .u32 (digs t 5), .int .u32 (digs t 6), .int .u32 (digs t 7)] 52)) p3
        replace p4 := keepCell ((Below.refl w1.heap.size w1).alloc (Nat.le_refl _) (.cells #[.int .u32 (digs t 0), .int .u32 (digs t 1), .int .u32 (digs t 2), .int .u32 (digs t 3), .int .u32 (digs t 4), .int .u32 (digs t 5), .int .u32 (digs t 6), .int .u32 (digs t 7)] 52)) p4
        generalize w1.alloc (.cells #[.int .u32 (digs t 0), .int .u32 (digs t 1), .int .u32 (digs t 2), .int .u32 (digs t 3), .int .u32 (digs t 4), .int .u32 (digs t 5), .int .u32 (digs t 6), .int .u32 (digs t 7)] 52) = wg at *
        generalize hgc : w1.heap.size = gc at *
        generalize hgp : wo.heap.size = gp at *
        clear HX1 HY1 HZ1 HT1 hB1 hB
        have wr1 : IntKind.i64.wrap (a + c') = a + c' := IntWalk.i64_in _ (by omega)
        have wr2 : IntKind.i64.wrap (b + d) = b + d := IntWalk.i64_in _ (by omega)
--R8--
        refine wp_region_noPanic ?_
        refine wp_region_U (S := (S2 (fun w' => Blk8 w' (w.heap.size + 1) (digs X) ∧ Blk8 w' (w.heap.size + 2) (digs Y) ∧ Blk8 w' (gc) (digs t) ∧ Blk8 w' (w.heap.size + 3) (digs Z) ∧ w'.cell? ⟨gp, 0, none⟩ = some (.int .i64 (a)) ∧ w'.cell? ⟨gp, 1, none⟩ = some (.int .i64 (b)) ∧ w'.cell? ⟨gp + 1, 0, none⟩ = some (.int .i64 (c')) ∧ w'.cell? ⟨gp + 1, 1, none⟩ = some (.int .i64 (d)) ∧ There w' (w.heap.size) 2 ∧ Below w.heap.size w w'))) (T := (fun j => [0, 0, 0, 0, 0, 0, 0, 0, 0, 0, 0, 0, 0, 0, 0, 0, 0, 0, 0, 0, 1, 1].getD j 0)) (by kernel_rfl) (S2i0 ⟨HX.out.drew, HY.out.drew, HCB.out.drew, HZ.out.drew, p1, p2, p3, p4, HT.out, hB4.drew⟩) (fun hH => ?_)
        have hWr1 : Weaker (S2 (fun w' => Blk8 w' (w.heap.size + 1) (digs X) ∧ Blk8 w' (w.heap.size + 2) (digs Y) ∧ Blk8 w' (gc) (digs t) ∧ Blk8 w' (w.heap.size + 3) (digs Z) ∧ w'.cell? ⟨gp, 0, none⟩ = some (.int .i64 (a)) ∧ w'.cell? ⟨gp, 1, none⟩ = some (.int .i64 (b)) ∧ w'.cell? ⟨gp + 1, 0, none⟩ = some (.int .i64 (c')) ∧ w'.cell? ⟨gp + 1, 1, none⟩ = some (.int .i64 (d)) ∧ There w' (w.heap.size) 2 ∧ Below w.heap.size w w')) := weaker2 _
        refine U_take 0 34 21 0 0 (v := ?vr1_1) rfl (by kernel_rfl) (by kernel_rfl) hWr1 (by kernel_rfl) (by kernel_rfl) (by kernel_rfl) (by kernel_rfl) (by kernel_rfl) (by kernel_rfl) (fun _ _ _ _ h => h) (by kernel_rfl) ?hyr1_1 (by omega) hH ?_
        case hyr1_1 => (intro w' hSw; replace hSw := S2o0 hSw; (try dsimp only at hSw); have q0 := hSw.1; have q1 := hSw.2.1; have q2 := hSw.2.2.1; have q3 := hSw.2.2.2.1; have q4 := hSw.2.2.2.2.1; have q5 := hSw.2.2.2.2.2.1; have q6 := hSw.2.2.2.2.2.2.1; have q7 := hSw.2.2.2.2.2.2.2.1; have q8 := hSw.2.2.2.2.2.2.2.2.1; have q9 := hSw.2.2.2.2.2.2.2.2.2; obtain ⟨qa0_0, qa0_1, qa0_2, qa0_3, qa0_4, qa0_5, qa0_6, qa0_7⟩ := Blk8.all q0; obtain ⟨qa1_0, qa1_1, qa1_2, qa1_3, qa1_4, qa1_5, qa1_6, qa1_7⟩ := Blk8.all q1; obtain ⟨qa2_0, qa2_1, qa2_2, qa2_3, qa2_4, qa2_5, qa2_6, qa2_7⟩ := Blk8.all q2; obtain ⟨qa3_0, qa3_1, qa3_2, qa3_3, qa3_4, qa3_5, qa3_6, qa3_7⟩ := Blk8.all q3; go_simp; try (with_reducible rfl))
        simp only [List.set_cons_zero, List.set_cons_succ]
        refine U_take 1 35 20 0 0 (v := ?vr1_2) rfl (by kernel_rfl) (by kernel_rfl) hWr1 (by kernel_rfl) (by kernel_rfl) (by kernel_rfl) (by kernel_rfl) (by kernel_rfl) (by kernel_rfl) (fun _ _ _ _ h => h) (by kernel_rfl) ?hyr1_2 (by omega) hH ?_
        case hyr1_2 => (intro w' hSw; clear hSw; go_simp; try (with_reducible rfl))
        simp only [List.set_cons_zero, List.set_cons_succ]
        refine U_take 2 36 19 0 0 (v := ?vr1_3) rfl (by kernel_rfl) (by kernel_rfl) hWr1 (by kernel_rfl) (by kernel_rfl) (by kernel_rfl) (by kernel_rfl) (by kernel_rfl) (by kernel_rfl) (fun _ _ _ _ h => h) (by kernel_rfl) ?hyr1_3 (by omega) hH ?_
        case hyr1_3 => (intro w' hSw; replace hSw := S2o0 hSw; (try dsimp only at hSw); have q0 := hSw.1; have q1 := hSw.2.1; have q2 := hSw.2.2.1; have q3 := hSw.2.2.2.1; have q4 := hSw.2.2.2.2.1; have q5 := hSw.2.2.2.2.2.1; have q6 := hSw.2.2.2.2.2.2.1; have q7 := hSw.2.2.2.2.2.2.2.1; have q8 := hSw.2.2.2.2.2.2.2.2.1; have q9 := hSw.2.2.2.2.2.2.2.2.2; obtain ⟨qa0_0, qa0_1, qa0_2, qa0_3, qa0_4, qa0_5, qa0_6, qa0_7⟩ := Blk8.all q0; obtain ⟨qa1_0, qa1_1, qa1_2, qa1_3, qa1_4, qa1_5, qa1_6, qa1_7⟩ := Blk8.all q1; obtain ⟨qa2_0, qa2_1, qa2_2, qa2_3, qa2_4, qa2_5, qa2_6, qa2_7⟩ := Blk8.all q2; obtain ⟨qa3_0, qa3_1, qa3_2, qa3_3, qa3_4, qa3_5, qa3_6, qa3_7⟩ := Blk8.all q3; go_simp; try (with_reducible rfl))
        simp only [List.set_cons_zero, List.set_cons_succ]
        refine U_take 3 37 18 0 0 (v := ?vr1_4) rfl (by kernel_rfl) (by kernel_rfl) hWr1 (by kernel_rfl) (by kernel_rfl) (by kernel_rfl) (by kernel_rfl) (by kernel_rfl) (by kernel_rfl) (fun _ _ _ _ h => h) (by kernel_rfl) ?hyr1_4 (by omega) hH ?_
        case hyr1_4 => (intro w' hSw; clear hSw; go_simp; try (with_reducible rfl))
        simp only [List.set_cons_zero, List.set_cons_succ]
        refine U_take 4 38 17 0 0 (v := ?vr1_5) rfl (by kernel_rfl) (by kernel_rfl) hWr1 (by kernel_rfl) (by kernel_rfl) (by kernel_rfl) (by kernel_rfl) (by kernel_rfl) (by kernel_rfl) (fun _ _ _ _ h => h) (by kernel_rfl) ?hyr1_5 (by omega) hH ?_
        case hyr1_5 => (intro w' hSw; replace hSw := S2o0 hSw; (try dsimp only at hSw); have q0 := hSw.1; have q1 := hSw.2.1; have q2 := hSw.2.2.1; have q3 := hSw.2.2.2.1; have q4 := hSw.2.2.2.2.1; have q5 := hSw.2.2.2.2.2.1; have q6 := hSw.2.2.2.2.2.2.1; have q7 := hSw.2.2.2.2.2.2.2.1; have q8 := hSw.2.2.2.2.2.2.2.2.1; have q9 := hSw.2.2.2.2.2.2.2.2.2; obtain ⟨qa0_0, qa0_1, qa0_2, qa0_3, qa0_4, qa0_5, qa0_6, qa0_7⟩ := Blk8.all q0; obtain ⟨qa1_0, qa1_1, qa1_2, qa1_3, qa1_4, qa1_5, qa1_6, qa1_7⟩ := Blk8.all q1; obtain ⟨qa2_0, qa2_1, qa2_2, qa2_3, qa2_4, qa2_5, qa2_6, qa2_7⟩ := Blk8.all q2; obtain ⟨qa3_0, qa3_1, qa3_2, qa3_3, qa3_4, qa3_5, qa3_6, qa3_7⟩ := Blk8.all q3; go_simp; try (with_reducible rfl))
        simp only [List.set_cons_zero, List.set_cons_succ]
        refine U_take 5 39 16 0 0 (v := ?vr1_6) rfl (by kernel_rfl) (by kernel_rfl) hWr1 (by kernel_rfl) (by kernel_rfl) (by kernel_rfl) (by kernel_rfl) (by kernel_rfl) (by kernel_rfl) (fun _ _ _ _ h => h) (by kernel_rfl) ?hyr1_6 (by omega) hH ?_
        case hyr1_6 => (intro w' hSw; clear hSw; go_simp; try (with_reducible rfl))
        simp only [List.set_cons_zero, List.set_cons_succ]
        refine U_take 7 41 15 0 0 (v := ?vr1_7) rfl (by kernel_rfl) (by kernel_rfl) hWr1 (by kernel_rfl) (by kernel_rfl) (by kernel_rfl) (by kernel_rfl) (by kernel_rfl) (by kernel_rfl) (fun _ _ _ _ h => h) (by kernel_rfl) ?hyr1_7 (by omega) hH ?_
        case hyr1_7 => (intro w' hSw; replace hSw := S2o0 hSw; (try dsimp only at hSw); have q0 := hSw.1; have q1 := hSw.2.1; have q2 := hSw.2.2.1; have q3 := hSw.2.2.2.1; have q4 := hSw.2.2.2.2.1; have q5 := hSw.2.2.2.2.2.1; have q6 := hSw.2.2.2.2.2.2.1; have q7 := hSw.2.2.2.2.2.2.2.1; have q8 := hSw.2.2.2.2.2.2.2.2.1; have q9 := hSw.2.2.2.2.2.2.2.2.2; obtain ⟨qa0_0, qa0_1, qa0_2, qa0_3, qa0_4, qa0_5, qa0_6, qa0_7⟩ := Blk8.all q0; obtain ⟨qa1_0, qa1_1, qa1_2, qa1_3, qa1_4, qa1_5, qa1_6, qa1_7⟩ := Blk8.all q1; obtain ⟨qa2_0, qa2_1, qa2_2, qa2_3, qa2_4, qa2_5, qa2_6, qa2_7⟩ := Blk8.all q2; obtain ⟨qa3_0, qa3_1, qa3_2, qa3_3, qa3_4, qa3_5, qa3_6, qa3_7⟩ := Blk8.all q3; go_simp; try (with_reducible rfl))
        simp only [List.set_cons_zero, List.set_cons_succ]
        refine U_take 10 44 14 0 0 (v := ?vr1_8) rfl (by kernel_rfl) (by kernel_rfl) hWr1 (by kernel_rfl) (by kernel_rfl) (by kernel_rfl) (by kernel_rfl) (by kernel_rfl) (by kernel_rfl) (fun _ _ _ _ h => h) (by kernel_rfl) ?hyr1_8 (by omega) hH ?_
        case hyr1_8 => (intro w' hSw; replace hSw := S2o0 hSw; (try dsimp only at hSw); have q0 := hSw.1; have q1 := hSw.2.1; have q2 := hSw.2.2.1; have q3 := hSw.2.2.2.1; have q4 := hSw.2.2.2.2.1; have q5 := hSw.2.2.2.2.2.1; have q6 := hSw.2.2.2.2.2.2.1; have q7 := hSw.2.2.2.2.2.2.2.1; have q8 := hSw.2.2.2.2.2.2.2.2.1; have q9 := hSw.2.2.2.2.2.2.2.2.2; obtain ⟨qa0_0, qa0_1, qa0_2, qa0_3, qa0_4, qa0_5, qa0_6, qa0_7⟩ := Blk8.all q0; obtain ⟨qa1_0, qa1_1, qa1_2, qa1_3, qa1_4, qa1_5, qa1_6, qa1_7⟩ := Blk8.all q1; obtain ⟨qa2_0, qa2_1, qa2_2, qa2_3, qa2_4, qa2_5, qa2_6, qa2_7⟩ := Blk8.all q2; obtain ⟨qa3_0, qa3_1, qa3_2, qa3_3, qa3_4, qa3_5, qa3_6, qa3_7⟩ := Blk8.all q3; go_simp; try (with_reducible rfl))
        simp only [List.set_cons_zero, List.set_cons_succ]
        refine U_take 11 45 13 0 0 (v := ?vr1_9) rfl (by kernel_rfl) (by kernel_rfl) hWr1 (by kernel_rfl) (by kernel_rfl) (by kernel_rfl) (by kernel_rfl) (by kernel_rfl) (by kernel_rfl) (fun _ _ _ _ h => h) (by kernel_rfl) ?hyr1_9 (by omega) hH ?_
        case hyr1_9 => (intro w' hSw; clear hSw; go_simp; try (with_reducible rfl))
        simp only [List.set_cons_zero, List.set_cons_succ]
        refine U_take 12 46 12 0 0 (v := ?vr1_10) rfl (by kernel_rfl) (by kernel_rfl) hWr1 (by kernel_rfl) (by kernel_rfl) (by kernel_rfl) (by kernel_rfl) (by kernel_rfl) (by kernel_rfl) (fun _ _ _ _ h => h) (by kernel_rfl) ?hyr1_10 (by omega) hH ?_
        case hyr1_10 => (intro w' hSw; replace hSw := S2o0 hSw; (try dsimp only at hSw); have q0 := hSw.1; have q1 := hSw.2.1; have q2 := hSw.2.2.1; have q3 := hSw.2.2.2.1; have q4 := hSw.2.2.2.2.1; have q5 := hSw.2.2.2.2.2.1; have q6 := hSw.2.2.2.2.2.2.1; have q7 := hSw.2.2.2.2.2.2.2.1; have q8 := hSw.2.2.2.2.2.2.2.2.1; have q9 := hSw.2.2.2.2.2.2.2.2.2; obtain ⟨qa0_0, qa0_1, qa0_2, qa0_3, qa0_4, qa0_5, qa0_6, qa0_7⟩ := Blk8.all q0; obtain ⟨qa1_0, qa1_1, qa1_2, qa1_3, qa1_4, qa1_5, qa1_6, qa1_7⟩ := Blk8.all q1; obtain ⟨qa2_0, qa2_1, qa2_2, qa2_3, qa2_4, qa2_5, qa2_6, qa2_7⟩ := Blk8.all q2; obtain ⟨qa3_0, qa3_1, qa3_2, qa3_3, qa3_4, qa3_5, qa3_6, qa3_7⟩ := Blk8.all q3; go_simp; try (with_reducible rfl))
        simp only [List.set_cons_zero, List.set_cons_succ]
        refine U_take 13 47 11 0 0 (v := ?vr1_11) rfl (by kernel_rfl) (by kernel_rfl) hWr1 (by kernel_rfl) (by kernel_rfl) (by kernel_rfl) (by kernel_rfl) (by kernel_rfl) (by kernel_rfl) (fun _ _ _ _ h => h) (by kernel_rfl) ?hyr1_11 (by omega) hH ?_
        case hyr1_11 => (intro w' hSw; clear hSw; go_simp; try (with_reducible rfl))
        simp only [List.set_cons_zero, List.set_cons_succ]
        refine U_take 14 48 10 0 0 (v := ?vr1_12) rfl (by kernel_rfl) (by kernel_rfl) hWr1 (by kernel_rfl) (by kernel_rfl) (by kernel_rfl) (by kernel_rfl) (by kernel_rfl) (by kernel_rfl) (fun _ _ _ _ h => h) (by kernel_rfl) ?hyr1_12 (by omega) hH ?_
        case hyr1_12 => (intro w' hSw; replace hSw := S2o0 hSw; (try dsimp only at hSw); have q0 := hSw.1; have q1 := hSw.2.1; have q2 := hSw.2.2.1; have q3 := hSw.2.2.2.1; have q4 := hSw.2.2.2.2.1; have q5 := hSw.2.2.2.2.2.1; have q6 := hSw.2.2.2.2.2.2.1; have q7 := hSw.2.2.2.2.2.2.2.1; have q8 := hSw.2.2.2.2.2.2.2.2.1; have q9 := hSw.2.2.2.2.2.2.2.2.2; obtain ⟨qa0_0, qa0_1, qa0_2, qa0_3, qa0_4, qa0_5, qa0_6, qa0_7⟩ := Blk8.all q0; obtain ⟨qa1_0, qa1_1, qa1_2, qa1_3, qa1_4, qa1_5, qa1_6, qa1_7⟩ := Blk8.all q1; obtain ⟨qa2_0, qa2_1, qa2_2, qa2_3, qa2_4, qa2_5, qa2_6, qa2_7⟩ := Blk8.all q2; obtain ⟨qa3_0, qa3_1, qa3_2, qa3_3, qa3_4, qa3_5, qa3_6, qa3_7⟩ := Blk8.all q3; go_simp; try (with_reducible rfl))
        simp only [List.set_cons_zero, List.set_cons_succ]
        refine U_take 15 49 9 0 0 (v := ?vr1_13) rfl (by kernel_rfl) (by kernel_rfl) hWr1 (by kernel_rfl) (by kernel_rfl) (by kernel_rfl) (by kernel_rfl) (by kernel_rfl) (by kernel_rfl) (fun _ _ _ _ h => h) (by kernel_rfl) ?hyr1_13 (by omega) hH ?_
        case hyr1_13 => (intro w' hSw; clear hSw; go_simp; try (with_reducible rfl))
        simp only [List.set_cons_zero, List.set_cons_succ]
        refine U_take 17 51 8 0 0 (v := ?vr1_14) rfl (by kernel_rfl) (by kernel_rfl) hWr1 (by kernel_rfl) (by kernel_rfl) (by kernel_rfl) (by kernel_rfl) (by kernel_rfl) (by kernel_rfl) (fun _ _ _ _ h => h) (by kernel_rfl) ?hyr1_14 (by omega) hH ?_
        case hyr1_14 => (intro w' hSw; replace hSw := S2o0 hSw; (try dsimp only at hSw); have q0 := hSw.1; have q1 := hSw.2.1; have q2 := hSw.2.2.1; have q3 := hSw.2.2.2.1; have q4 := hSw.2.2.2.2.1; have q5 := hSw.2.2.2.2.2.1; have q6 := hSw.2.2.2.2.2.2.1; have q7 := hSw.2.2.2.2.2.2.2.1; have q8 := hSw.2.2.2.2.2.2.2.2.1; have q9 := hSw.2.2.2.2.2.2.2.2.2; obtain ⟨qa0_0, qa0_1, qa0_2, qa0_3, qa0_4, qa0_5, qa0_6, qa0_7⟩ := Blk8.all q0; obtain ⟨qa1_0, qa1_1, qa1_2, qa1_3, qa1_4, qa1_5, qa1_6, qa1_7⟩ := Blk8.all q1; obtain ⟨qa2_0, qa2_1, qa2_2, qa2_3, qa2_4, qa2_5, qa2_6, qa2_7⟩ := Blk8.all q2; obtain ⟨qa3_0, qa3_1, qa3_2, qa3_3, qa3_4, qa3_5, qa3_6, qa3_7⟩ := Blk8.all q3; go_simp; try (with_reducible rfl))
        simp only [List.set_cons_zero, List.set_cons_succ]
        refine wpAnyU_ready (rs := [6]) (by kernel_rfl) (by simp) ?_
        refine AllReadyU.cons 0 (by kernel_rfl) (o := _) rfl (fun K hK => ?_) AllReadyU.nil
        try clear hb
        go_simp
        (go_at_call 36; refine (of_calls (a + c') (by omega) (by omega) _).mono ?_; rintro e wn ⟨rfl, hb⟩)
        refine hK.out _ _ ?hsr1_15 (fun hH2 => ?hrr1_15)
        case hsr1_15 => exact S2i0 (by have hG := hH; replace hG := S2o0 hG; (try dsimp only at hG); have q0 := hG.1; have q1 := hG.2.1; have q2 := hG.2.2.1; have q3 := hG.2.2.2.1; have q4 := hG.2.2.2.2.1; have q5 := hG.2.2.2.2.2.1; have q6 := hG.2.2.2.2.2.2.1; have q7 := hG.2.2.2.2.2.2.2.1; have q8 := hG.2.2.2.2.2.2.2.2.1; have q9 := hG.2.2.2.2.2.2.2.2.2; exact ⟨keepBlk hb q0, keepBlk hb q1, keepBlk hb q2, keepBlk hb q3, keepCell hb q4, keepCell hb q5, keepCell hb q6, keepCell hb q7, There.below hb q8, keepBelow hb q9⟩)
        clear hK K hH
        have hH := hH2
        clear hH2
        try simp only [Act.put, List.setIfInBounds_toArray, List.set_cons_zero, List.set_cons_succ]
        refine wpAnyU_ready (rs := [8]) (by kernel_rfl) (by simp) ?_
        refine AllReadyU.cons 0 (by kernel_rfl) (o := _) rfl (fun K hK => ?_) AllReadyU.nil
        try clear hb
        go_simp
        (go_at_call 37; refine (mul_calls (a + c') t _).mono ?_; rintro e wn ⟨rfl, hb⟩)
        refine hK.out _ _ ?hsr1_16 (fun hH2 => ?hrr1_16)
        case hsr1_16 => exact S2i0 (by have hG := hH; replace hG := S2o0 hG; (try dsimp only at hG); have q0 := hG.1; have q1 := hG.2.1; have q2 := hG.2.2.1; have q3 := hG.2.2.2.1; have q4 := hG.2.2.2.2.1; have q5 := hG.2.2.2.2.2.1; have q6 := hG.2.2.2.2.2.2.1; have q7 := hG.2.2.2.2.2.2.2.1; have q8 := hG.2.2.2.2.2.2.2.2.1; have q9 := hG.2.2.2.2.2.2.2.2.2; exact ⟨keepBlk hb q0, keepBlk hb q1, keepBlk hb q2, keepBlk hb q3, keepCell hb q4, keepCell hb q5, keepCell hb q6, keepCell hb q7, There.below hb q8, keepBelow hb q9⟩)
        clear hK K hH
        have hH := hH2
        clear hH2
        try simp only [Act.put, List.setIfInBounds_toArray, List.set_cons_zero, List.set_cons_succ]
        refine wpAnyU_ready (rs := [9]) (by kernel_rfl) (by simp) ?_
        refine AllReadyU.cons 0 (by kernel_rfl) (o := _) rfl (fun K hK => ?_) AllReadyU.nil
        try clear hb
        go_simp
        (go_at_call 39; refine (add_calls X ((a + c') * t) _).mono ?_; rintro e wn ⟨rfl, hb⟩)
        refine hK.out _ _ ?hsr1_17 (fun hH2 => ?hrr1_17)
        case hsr1_17 => exact S2i0 (by have hG := hH; replace hG := S2o0 hG; (try dsimp only at hG); have q0 := hG.1; have q1 := hG.2.1; have q2 := hG.2.2.1; have q3 := hG.2.2.2.1; have q4 := hG.2.2.2.2.1; have q5 := hG.2.2.2.2.2.1; have q6 := hG.2.2.2.2.2.2.1; have q7 := hG.2.2.2.2.2.2.2.1; have q8 := hG.2.2.2.2.2.2.2.2.1; have q9 := hG.2.2.2.2.2.2.2.2.2; exact ⟨keepBlk hb q0, keepBlk hb q1, keepBlk hb q2, keepBlk hb q3, keepCell hb q4, keepCell hb q5, keepCell hb q6, keepCell hb q7, There.below hb q8, keepBelow hb q9⟩)
        clear hK K hH
        have hH := hH2
        clear hH2
        try simp only [Act.put, List.setIfInBounds_toArray, List.set_cons_zero, List.set_cons_succ]
        refine wpAnyU_ready (rs := [16]) (by kernel_rfl) (by simp) ?_
        refine AllReadyU.cons 0 (by kernel_rfl) (o := _) rfl (fun K hK => ?_) AllReadyU.nil
        try clear hb
        go_simp
        (go_at_call 36; refine (of_calls (b + d) (by omega) (by omega) _).mono ?_; rintro e wn ⟨rfl, hb⟩)
        refine hK.out _ _ ?hsr1_18 (fun hH2 => ?hrr1_18)
        case hsr1_18 => exact S2i0 (by have hG := hH; replace hG := S2o0 hG; (try dsimp only at hG); have q0 := hG.1; have q1 := hG.2.1; have q2 := hG.2.2.1; have q3 := hG.2.2.2.1; have q4 := hG.2.2.2.2.1; have q5 := hG.2.2.2.2.2.1; have q6 := hG.2.2.2.2.2.2.1; have q7 := hG.2.2.2.2.2.2.2.1; have q8 := hG.2.2.2.2.2.2.2.2.1; have q9 := hG.2.2.2.2.2.2.2.2.2; exact ⟨keepBlk hb q0, keepBlk hb q1, keepBlk hb q2, keepBlk hb q3, keepCell hb q4, keepCell hb q5, keepCell hb q6, keepCell hb q7, There.below hb q8, keepBelow hb q9⟩)
        clear hK K hH
        have hH := hH2
        clear hH2
        try simp only [Act.put, List.setIfInBounds_toArray, List.set_cons_zero, List.set_cons_succ]
        refine wpAnyU_ready (rs := [18]) (by kernel_rfl) (by simp) ?_
        refine AllReadyU.cons 0 (by kernel_rfl) (o := _) rfl (fun K hK => ?_) AllReadyU.nil
        try clear hb
        go_simp
        (go_at_call 37; refine (mul_calls (b + d) t _).mono ?_; rintro e wn ⟨rfl, hb⟩)
        refine hK.out _ _ ?hsr1_19 (fun hH2 => ?hrr1_19)
        case hsr1_19 => exact S2i0 (by have hG := hH; replace hG := S2o0 hG; (try dsimp only at hG); have q0 := hG.1; have q1 := hG.2.1; have q2 := hG.2.2.1; have q3 := hG.2.2.2.1; have q4 := hG.2.2.2.2.1; have q5 := hG.2.2.2.2.2.1; have q6 := hG.2.2.2.2.2.2.1; have q7 := hG.2.2.2.2.2.2.2.1; have q8 := hG.2.2.2.2.2.2.2.2.1; have q9 := hG.2.2.2.2.2.2.2.2.2; exact ⟨keepBlk hb q0, keepBlk hb q1, keepBlk hb q2, keepBlk hb q3, keepCell hb q4, keepCell hb q5, keepCell hb q6, keepCell hb q7, There.below hb q8, keepBelow hb q9⟩)
        clear hK K hH
        have hH := hH2
        clear hH2
        try simp only [Act.put, List.setIfInBounds_toArray, List.set_cons_zero, List.set_cons_succ]
        refine wpAnyU_ready (rs := [19]) (by kernel_rfl) (by simp) ?_
        refine AllReadyU.cons 0 (by kernel_rfl) (o := _) rfl (fun K hK => ?_) AllReadyU.nil
        try clear hb
        go_simp
        (go_at_call 39; refine (add_calls Y ((b + d) * t) _).mono ?_; rintro e wn ⟨rfl, hb⟩)
        refine hK.out _ _ ?hsr1_20 (fun hH2 => ?hrr1_20)
        case hsr1_20 => exact S2i0 (by have hG := hH; replace hG := S2o0 hG; (try dsimp only at hG); have q0 := hG.1; have q1 := hG.2.1; have q2 := hG.2.2.1; have q3 := hG.2.2.2.1; have q4 := hG.2.2.2.2.1; have q5 := hG.2.2.2.2.2.1; have q6 := hG.2.2.2.2.2.2.1; have q7 := hG.2.2.2.2.2.2.2.1; have q8 := hG.2.2.2.2.2.2.2.2.1; have q9 := hG.2.2.2.2.2.2.2.2.2; exact ⟨keepBlk hb q0, keepBlk hb q1, keepBlk hb q2, keepBlk hb q3, keepCell hb q4, keepCell hb q5, keepCell hb q6, keepCell hb q7, There.below hb q8, keepBelow hb q9⟩)
        clear hK K hH
        have hH := hH2
        clear hH2
        try simp only [Act.put, List.setIfInBounds_toArray, List.set_cons_zero, List.set_cons_succ]
        refine wpAnyU_ready (rs := [20]) (by kernel_rfl) (by simp) ?_
        refine AllReadyU.cons 1 (by kernel_rfl) (o := _) rfl (fun K hK => ?_) AllReadyU.nil
        have hG := hH
        replace hG := S2o0 hG; (try dsimp only at hG); have q0 := hG.1; have q1 := hG.2.1; have q2 := hG.2.2.1; have q3 := hG.2.2.2.1; have q4 := hG.2.2.2.2.1; have q5 := hG.2.2.2.2.2.1; have q6 := hG.2.2.2.2.2.2.1; have q7 := hG.2.2.2.2.2.2.2.1; have q8 := hG.2.2.2.2.2.2.2.2.1; have q9 := hG.2.2.2.2.2.2.2.2.2; obtain ⟨qa0_0, qa0_1, qa0_2, qa0_3, qa0_4, qa0_5, qa0_6, qa0_7⟩ := Blk8.all q0; obtain ⟨qa1_0, qa1_1, qa1_2, qa1_3, qa1_4, qa1_5, qa1_6, qa1_7⟩ := Blk8.all q1
        have qf0 := q0.free
        have qf1 := q1.free
        go_simp
        refine hK.out _ _ ?hsr1_21 (fun hH2 => ?hrr1_21)
        case hsr1_21 => exact S2i1
        clear hK K hH
        have hH := hH2
        clear hH2
        try simp only [Act.put, List.setIfInBounds_toArray, List.set_cons_zero, List.set_cons_succ]
        refine wpAnyU_ready (rs := [21]) (by kernel_rfl) (by simp) ?_
        refine AllReadyU.cons 1 (by kernel_rfl) (o := _) rfl (fun K hK => ?_) AllReadyU.nil
        go_simp
        refine hK.out _ _ ?hsr1_22 (fun hH2 => ?hrr1_22)
        case hsr1_22 => exact S2i1
        clear hK K hH
        have hH := hH2
        clear hH2
        try simp only [Act.put, List.setIfInBounds_toArray, List.set_cons_zero, List.set_cons_succ]
        refine wpAnyU_done (by kernel_rfl) ?_ _ _
        refine NoPanic.normal ?_
        clear hWr1
--R8end--
        go_wp2_with fail
        go_meet
        exact ⟨(q0.sets8).far8 (by omega), (q1.far8 (by omega)).sets8, (q2.far8 (by omega)).far8 (by omega), (q3.far8 (by omega)).far8 (by omega), q8.sets8.sets8, by go_grown⟩
      case rest =>
        obtain ⟨h1, h2, h3', h4, h5, h6⟩ := hcut
        obtain ⟨z0, z1, z2, z3, z4, z5, z6, z7⟩ := h4.all
        obtain ⟨t0, t1, t2, t3, t4, t5, t6, t7⟩ := h3'.all
        have H1 := hid h1
        have H2 := hid h2
        have H4 := hid h4
        have H5 := hid h5
        clear h1 h2 h3' h4 h5 HX1 HY1 HZ1 HT1 p1 p2 p3 p4
        go_wp2_with fail
        refine (add_calls Z t _).mono ?_
        rintro e w2 ⟨rfl, hb2⟩
        have K1 := hid (keepBlk hb2 H1.out)
        have K2 := hid (keepBlk hb2 H2.out)
        have k4 := keepBlk hb2 H4.out
        have K5 := hid (There.below hb2 H5.out)
        have hB7 := keepBelow hb2 h6
        clear z0 z1 z2 z3 z4 z5 z6 z7 t0 t1 t2 t3 t4 t5 t6 t7 hb2 h6 H1 H2 H4 H5
        obtain ⟨z0, z1, z2, z3, z4, z5, z6, z7⟩ := k4.all
        have zf := k4.free
        have K4 := hid k4
        clear k4
        go_wp2_with fail
        refine ⟨⟨k + 1, hlt, by go_num, ?_, ?_, ?_, ?_, by go_grown⟩, by simp [intOf]; omega⟩
        · rw [hsX.out]; exact K1.out.far8 (by omega)
        · rw [hsY.out]; exact K2.out.far8 (by omega)
        · rw [hsZ.out]; exact K4.out.sets8
        · exact K5.out.sets8
    · obtain rfl : k = l.length := by omega
      obtain ⟨Ar, hAr⟩ : ∃ Ar, Ar = areaZ l := ⟨_, rfl⟩
      have hZ2 : Blk8 wo (w.heap.size + 3) (digs Ar) := by rw [hAr, ← HAS.out]; exact hZ
      have hX2 : Blk8 wo (w.heap.size + 1) (digs (cenX l)) := hX
      have hY2 : Blk8 wo (w.heap.size + 2) (digs (cenY l)) := hY
      obtain ⟨ar1, ar2⟩ := HAR.out
      rw [← hAr] at ar1 ar2
      have HX2 := hid hX2
      have HY2 := hid hY2
      have HT2 := hid hT
      have HAr := hid hAr
      obtain ⟨z0, z1, z2, z3, z4, z5, z6, z7⟩ := hZ2.all
      clear hX hY hZ hT hX2 hY2 hZ2 hAr
      go_wp2_with fail
      refine (wide_calls Ar _).mono ?_
      rintro e w1 ⟨rfl, hb1⟩
      have X1 := keepBlk hb1 HX2.out
      have Y1 := hid (keepBlk hb1 HY2.out)
      have T1 := hid (There.below hb1 HT2.out)
      have hB1 := keepBelow hb1 hB
      have hfld : ∀ w : World, (Instr.field 40 (wideV Ar) 1).run Try.prog w = .ok (.int .u64 (loW Ar)) w := fun w => by kernel_rfl
      have hlo : loW Ar = Ar := by unfold loW; omega
      have hwr : IntKind.i64.wrap Ar = Ar := IntWalk.i64_in _ (by omega)
      have hwr3 : IntKind.i64.wrap (3 * Ar) = 3 * Ar := IntWalk.i64_in _ (by omega)
      rw [hlo] at hfld
      clear z0 z1 z2 z3 z4 z5 z6 z7 HX2 HY2 HT2 hb1 hB
      obtain ⟨x0, x1, x2, x3, x4, x5, x6, x7⟩ := X1.all
      clear X1
      go_wp2_with fail
      refine (bover_calls (cenX l) (3 * Ar) (by have := HCB0.out; omega) (by have := HCB0.out; omega) (by omega) (by omega) _).mono ?_
      rintro e w2 ⟨rfl, hb2⟩
      have Y2 := keepBlk hb2 Y1.out
      have T2 := hid (There.below hb2 T1.out)
      have hB2 := keepBelow hb2 hB1
      clear x0 x1 x2 x3 x4 x5 x6 x7 Y1 T1 hB1 hb2
      obtain ⟨x0, x1, x2, x3, x4, x5, x6, x7⟩ := Y2.all
      clear Y2
      go_wp2_with fail
      refine (bover_calls (cenY l) (3 * Ar) (by have := HCB0.out; omega) (by have := HCB0.out; omega) (by omega) (by omega) _).mono ?_
      rintro e w3 ⟨rfl, hb3⟩
      obtain ⟨y0, y1, c0, c1, f0, f1⟩ := (There.below hb3 T2.out).get2
      have hB3 := keepBelow hb3 hB2
      have hl9 := lt_of_cell c0
      clear x0 x1 x2 x3 x4 x5 x6 x7 T2 hB2 hb3
      have HQ : Hid (vecV (overQ (cenX l) (3 * Ar)) (overQ (cenY l) (3 * Ar)) = vecV (cenQ l).1 (cenQ l).2) := by rw [HAr.out]; rfl
      go_wp2
      refine bodyPost_ret (v := vecV (overQ (cenX l) (3 * Ar)) (overQ (cenY l) (3 * Ar))) (by simp [results, Try.results60, go_sem, c0, c1, hl9]) rfl ⟨by rw [HQ.out], ?_⟩
      go_grown

end Go.Proofs.Ytjoodpjndpdjnaa
