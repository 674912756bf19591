/- Parts of a proof: contracts and laws. -/
import Derived.Test.YtbajmekmpgfpeaaB42
import Derived.Test.YtbajmekmpgfpeaaB43
import Derived.Test.YtbajmekmpgfpeaaB46
namespace Go.Proofs.Ytbajmekmpgfpeaa
section
set_option linter.unusedVariables false
set_option linter.unusedSimpArgs false
open Go.RowKit
theorem CellsE.drew' {w : World} {b off : Nat} {L : List BE} (h : CellsE layB w b off L) : CellsE layB w.drew b off L := CellsE.below (Below.refl _ _).drew h
set_option maxRecDepth 100000 in
set_option maxHeartbeats 8000000 in
theorem jointSays_walk (A B : Option Addr) (n c n' c' : Nat) (L : List BE) (J : List Jt) (st r : Int) (w : World) (hS : SlB w A n c L) (hJ : SlE layJ w B n' c' J) :
    Calls Try.prog 5 #[.slice A n c, .slice B n' c', .int .i64 st, .int .i64 r] w (Ret (.bool true) w) := by
  have hn := hS.sl.len
  have hcap := hS.sl.cap
  have hbig := hS.sl.big
  have hn' := hJ.len
  have hcap' := hJ.cap
  have hbig' := hJ.big
  subst hn hn'
  have HS := hid hS
  have HJ := hid hJ
  clear hS hJ
  go_enter Try.func5, Try.ntmps5
  go_wp2_with fail
  refine (jointBegun_calls _).mono ?_
  rintro e w1 ⟨rfl, hB1⟩
  obtain ⟨m, hm⟩ : ∃ m : Nat, m = min J.length 8 := ⟨_, rfl⟩
  have hmJ : m ≤ J.length := by omega
  have hrmin : ∀ (ts : Array TypeId) (t : TypeId) (w : World), (Builtin.min_ ts t #[.int .i64 (J.length : Int), .int .i64 8]).run Try.prog w = .ok (.int .i64 (m : Int)) w := fun ts t w => by
    rw [run_min_int2]
    congr 2
    omega
  have hmc : (m : Int) ≤ (c' : Int) := by omega
  have hm0 : 0 ≤ (m : Int) := by omega
  clear hm
  go_wp2
  go_loopw [31] (fun i wr => ∃ k : Nat, k ≤ m ∧ i = .int .i64 k ∧ Below w.heap.size w wr) (fun i _ => m - (intOf i).toNat)
  case atStart => exact ⟨0, Nat.zero_le _, rfl, hB1⟩
  case round =>
    clear hB1
    obtain ⟨k, hk, rfl, hB⟩ := hrel
    obtain ⟨wo, rfl⟩ : ∃ wo : World, wo = wr := ⟨_, rfl⟩
    by_cases hlt : k < m
    · have hltJ : k < J.length := by omega
      obtain ⟨bj, oj, hA, hCj⟩ := (HJ.out.below hB).at_ (by intro h; subst h; simp at hltJ)
      subst hA
      obtain ⟨x, hx⟩ : ∃ x, x = J[k] := ⟨_, rfl⟩
      obtain ⟨t0, t1, t2, t3, t4, t5, t6⟩ := cells_jt hCj hltJ hx
      have hbj := hCj.lt
      have hlt' : (k : Int) < (m : Int) := by omega
      have hkw : IntKind.i64.wrap ((k : Int) + 1) = (k : Int) + 1 := IntWalk.i64_in _ (by omega)
      obtain ⟨wj, hwj⟩ : ∃ wj, wj = wo.alloc (.cells #[.int .i64 x.a, .int .i64 x.b, .int .i64 x.p1, .int .i64 x.p2, .int .i64 x.q1, .int .i64 x.q2, .int .i64 x.len] 49) := ⟨_, rfl⟩
      obtain ⟨gx, hgx⟩ : ∃ gx, gx = wo.heap.size := ⟨_, rfl⟩
      have HJG := hid (show Jg wj gx x by rw [hwj, hgx]; exact ⟨by go_simp, by go_simp, by go_simp, by go_simp, by go_simp, by go_simp, by go_simp⟩)
      have hBj : Below w.heap.size w wj := by rw [hwj]; exact hB.alloc hB.size _
      obtain ⟨w2, hw2⟩ : ∃ w2, w2 = wj.alloc (.cells #[.int .i64 x.a, .int .i64 x.b, .int .i64 x.p1, .int .i64 x.p2, .int .i64 x.q1, .int .i64 x.q2, .int .i64 x.len] 49) := ⟨_, rfl⟩
      have hb2 : Below wj.heap.size wj w2 := by rw [hw2]; go_grown
      have hB2 := keepBelow hb2 hBj
      have hjo : CellsE layJ w2 wj.heap.size 0 [x] := by rw [hw2]; exact cells_jt_one (by go_simp) (by go_simp) (by go_simp) (by go_simp) (by go_simp) (by go_simp) (by go_simp)
      have HRJ := hid (rjoints_calls A (some ⟨wj.heap.size, 0, none⟩) L.length c 1 1 L [x] w2 (HS.out.below hB2) (jt_one hjo))
      have HEC : Hid (∀ w', Below w.heap.size w w' → Calls Try.prog 21 #[.slice A L.length c, jtV x] w' (Ret (endsV L x) w')) := fun w' hb => jends_calls A L.length c L x w' (HS.out.below hb)
      have HGC : Hid (∀ w', Below w.heap.size w w' → Calls Try.prog 22 #[.slice A L.length c, jtV x] w' (Ret (gapV L x) w')) := fun w' hb => jgap_calls A L.length c L x w' (HS.out.below hb)
      have hgw : w.heap.size ≤ gx := by rw [hgx]; exact hB.size
      clear hCj hx hjo hB
      go_upto_region 6 with fail
      rw [← hwj, ← hgx]
      clear hwj t0 t1 t2 t3 t4 t5 t6 hbj
      clear hgx
      obtain ⟨j0, j1, j2, j3, j4, j5, j6⟩ := HJG.out
      go_wp2_with fail
      rw [← hw2]
      refine HRJ.out.mono ?_
      rintro e w3 ⟨rfl, hb3⟩
      have hB3 := keepBelow hb3 hB2
      replace HJG := hid (keepJg hb3 (keepJg hb2 HJG.out))
      clear hw2 HRJ hb3 hb2 hB2 hBj j0 j1 j2 j3 j4 j5 j6
      obtain ⟨j0, j1, j2, j3, j4, j5, j6⟩ := HJG.out
      by_cases hE : jointsE L [x] = 0
      case neg =>
        have h1 : endsV L x = .tuple #[vecV 0 0, vecV 0 0, .int .i64 (jointsE L [x])] := by unfold endsV; rw [if_pos hE]
        have h2 : gapV L x = .tuple #[.int .i64 0, .int .i64 (jointsE L [x])] := by unfold gapV; rw [if_pos hE]
        rw [h1] at HEC
        rw [h2] at HGC
        clear h1 h2
        have hne : (jointsE L [x] != 0) = true := by simp [hE]
        generalize jointsE L [x] = z at *
        go_wp2_with fail
        refine (HEC.out _ hB3).mono ?_
        rintro e w4 ⟨rfl, hb4⟩
        have hB4 := keepBelow hb4 hB3
        replace HJG := hid (keepJg hb4 HJG.out)
        obtain ⟨gp, hgp⟩ : ∃ gp, gp = w4.heap.size := ⟨_, rfl⟩
        obtain ⟨w5, hw5⟩ : ∃ w5, w5 = (w4.alloc (.cells #[.int .i64 0, .int .i64 0] 24)).alloc (.cells #[.int .i64 0, .int .i64 0] 24) := ⟨_, rfl⟩
        have hb5 : Below w4.heap.size w4 w5 := by rw [hw5]; go_grown
        have HVP := hid (show Vg w5 gp 0 0 by rw [hw5, hgp]; exact ⟨by go_simp, by go_simp⟩)
        have HVQ := hid (show Vg w5 (gp + 1) 0 0 by rw [hw5, hgp]; exact ⟨by go_simp, by go_simp⟩)
        have hB5 := keepBelow hb5 hB4
        replace HJG := hid (keepJg hb5 HJG.out)
        clear hb4 hB4 hb5 hB3 j0 j1 j2 j3 j4 j5 j6
        go_upto_region 8 with fail
        rw [← hw5, ← hgp]
        clear hw5 hgp
        obtain ⟨j0, j1, j2, j3, j4, j5, j6⟩ := HJG.out
        go_wp2_with fail
        refine (HGC.out _ hB5).mono ?_
        rintro e w6 ⟨rfl, hb6⟩
        have hB6 := keepBelow hb6 hB5
        obtain ⟨k0, k1⟩ := keepVg hb6 HVP.out
        obtain ⟨k2, k3⟩ := keepVg hb6 HVQ.out
        have HEA := run_eqVJ 0 0 0 0
        simp only [beq_self_eq_true, Bool.and_self] at HEA
        clear hb6 hB5 HVP HVQ HJG j0 j1 j2 j3 j4 j5 j6 HEC HGC
        go_wp2
        go_roundw
        case rel => exact ⟨k + 1, by omega, by go_num, hB6⟩
        case measure => simp [intOf] <;> omega
      obtain ⟨hbe, -, hjs⟩ := jointsE_zero hE
      obtain ⟨⟨ha0, hab, hbl⟩, -, -, ⟨hl0, hl1⟩, -⟩ := jtE_zero (hjs x (by simp))
      obtain ⟨-, hval⟩ := bodiesE_zero hbe
      obtain ⟨ka, hka'⟩ : ∃ ka : Nat, x.a = ka := ⟨x.a.toNat, by omega⟩
      obtain ⟨kb, hkb'⟩ : ∃ kb : Nat, x.b = kb := ⟨x.b.toNat, by omega⟩
      have hka : ka < L.length := by omega
      have hkb : kb < L.length := by omega
      obtain ⟨xa, hxa⟩ : ∃ y, y = L[ka] := ⟨_, rfl⟩
      obtain ⟨xb, hxb⟩ : ∃ y, y = L[kb] := ⟨_, rfl⟩
      have HXA := hid hxa
      have HXB := hid hxb
      have mva := (numE_zero (bodyE_zero (hval xa (by rw [hxa]; exact List.getElem_mem hka))).2).2.2.2.1
      have mvb := (numE_zero (bodyE_zero (hval xb (by rw [hxb]; exact List.getElem_mem hkb))).2).2.2.2.1
      have q1 : bdOf L x.a = xa.b := by unfold bdOf; rw [hka', Int.toNat_natCast, List.getElem?_eq_getElem hka, hxa]
      have q2 : bdOf L x.b = xb.b := by unfold bdOf; rw [hkb', Int.toNat_natCast, List.getElem?_eq_getElem hkb, hxb]
      obtain ⟨e1, he1⟩ : ∃ z, z = wX xa.b x.p1 x.p2 := ⟨_, rfl⟩
      obtain ⟨e2, he2⟩ : ∃ z, z = wY xa.b x.p1 x.p2 := ⟨_, rfl⟩
      obtain ⟨e3, he3⟩ : ∃ z, z = wX xb.b x.q1 x.q2 := ⟨_, rfl⟩
      obtain ⟨e4, he4⟩ : ∃ z, z = wY xb.b x.q1 x.q2 := ⟨_, rfl⟩
      have HWA := hid (rworld_calls xa.b xa.A xa.n xa.c x.p1 x.p2 (by omega) (by omega))
      have HWB := hid (rworld_calls xb.b xb.A xb.n xb.c x.q1 x.q2 (by omega) (by omega))
      rw [← he1, ← he2] at HWA
      rw [← he3, ← he4] at HWB
      have h1 : endsV L x = .tuple #[vecV e1 e2, vecV e3 e4, .int .i64 0] := by unfold endsV; rw [if_neg (by simp [hE]), q1, q2, ← he1, ← he2, ← he3, ← he4]
      obtain ⟨d1, hd1⟩ : ∃ z, z = subF e3 e1 := ⟨_, rfl⟩
      obtain ⟨d2, hd2⟩ : ∃ z, z = subF e4 e2 := ⟨_, rfl⟩
      have HSUB := hid (vsub_calls e3 e4 e1 e2)
      rw [← hd1, ← hd2] at HSUB
      obtain ⟨lz, hlz⟩ : ∃ z, z = lenV d1 d2 := ⟨_, rfl⟩
      have HLE2 : Hid (∀ w', Calls Try.prog 24 #[vecV d1 d2] w' (Ret (.int .i64 lz) w')) := fun w' => by have := vlen_calls d1 d2 w'; rw [hlz]; exact this
      have hlzb : -1099511627776 ≤ lz ∧ lz ≤ 1099511627776 := by rw [hlz]; exact clampF_bd _
      obtain ⟨gz, hgz⟩ : ∃ z, z = absZ (lz - x.len) := ⟨_, rfl⟩
      have h2 : gapV L x = .tuple #[.int .i64 gz, .int .i64 0] := by unfold gapV gapZ; rw [if_neg (by simp [hE]), q1, q2, ← he1, ← he2, ← he3, ← he4, ← hd1, ← hd2, ← hlz, ← hgz]
      have hwl : IntKind.i64.wrap (lz - x.len) = lz - x.len := IntWalk.i64_in _ (by omega)
      have hwn : IntKind.i64.wrap (-(lz - x.len)) = -(lz - x.len) := IntWalk.i64_in _ (by omega)
      have hmx : max (lz - x.len) (-(lz - x.len)) = gz := by rw [hgz]; unfold absZ; split <;> omega
      rw [h1] at HEC
      rw [h2] at HGC
      obtain ⟨bA, oA, hAA, hCA⟩ := (HS.out.below hB3).sl.at_ (by intro h; subst h; simp at hka)
      subst hAA
      have HCE := hid hCA
      have hac : (ka : Int) < (L.length : Int) := by omega
      have hbc : (kb : Int) < (L.length : Int) := by omega
      have HXI := hid (And.intro hka' hkb')
      rw [hE]
      clear h1 h2 q1 q2 hE hbe hjs hval hxa hxb mva mvb he1 he2 he3 he4 hd1 hd2 hlz hlzb hgz hka' hkb' hCA
      go_wp2_with fail
      refine (HEC.out _ hB3).mono ?_
      rintro e w4 ⟨rfl, hb4⟩
      have hB4 := keepBelow hb4 hB3
      replace HJG := hid (keepJg hb4 HJG.out)
      replace HCE := hid (CellsE.below hb4 HCE.out)
      obtain ⟨gp, hgp⟩ : ∃ gp, gp = w4.heap.size := ⟨_, rfl⟩
      obtain ⟨w5, hw5⟩ : ∃ w5, w5 = (w4.alloc (.cells #[.int .i64 e1, .int .i64 e2] 24)).alloc (.cells #[.int .i64 e3, .int .i64 e4] 24) := ⟨_, rfl⟩
      have hb5 : Below w4.heap.size w4 w5 := by rw [hw5]; go_grown
      have HVP := hid (show Vg w5 gp e1 e2 by rw [hw5, hgp]; exact ⟨by go_simp, by go_simp⟩)
      have HVQ := hid (show Vg w5 (gp + 1) e3 e4 by rw [hw5, hgp]; exact ⟨by go_simp, by go_simp⟩)
      have hB5 := keepBelow hb5 hB4
      have hxp : gx < gp := by rw [hgp]; exact lt_of_cell HJG.out.c0
      have hwp : w.heap.size ≤ gp := by rw [hgp]; exact hB4.size
      replace HJG := hid (keepJg hb5 HJG.out)
      replace HCE := hid (CellsE.below hb5 HCE.out)
      clear hb4 hB4 hb5 hB3 j0 j1 j2 j3 j4 j5 j6
      go_upto_region 8 with fail
      rw [← hw5, ← hgp]
      clear hw5 hgp
      obtain ⟨j0, j1, j2, j3, j4, j5, j6⟩ := HJG.out
      go_wp2_with fail
      refine (HGC.out _ hB5).mono ?_
      rintro e wz ⟨rfl, hb6⟩
      have HBW0 := hid (keepBelow hb6 hB5)
      have HVP0 := hid (keepVg hb6 HVP.out)
      have HVQ0 := hid (keepVg hb6 HVQ.out)
      have HJG0 := hid (keepJg hb6 HJG.out)
      have HCE0 := hid (CellsE.below hb6 HCE.out)
      clear hb6 hB5 HVP HVQ HJG HCE j0 j1 j2 j3 j4 j5 j6 HEC HGC
      go_upto_region 14 with fail
      obtain ⟨hxa, hxb⟩ := HXI.out
      clear HXI
      refine (fun (hNr13 : Hid (?Tr13 : Prop)) => ?mainr13) (hid ?prfr13)
      case mainr13 =>
        refine wp_region_noPanic ?_
        refine wp_region_U (S := (S2 (fun w' => CellsE layB w' bA oA L ∧ Jg w' gx x ∧ Vg w' gp e1 e2 ∧ Vg w' (gp + 1) e3 e4 ∧ Below w.heap.size w w'))) (T := (fun j => [0, 0, 0, 0, 0, 0, 0, 0, 0, 0, 0, 0, 0, 0, 0, 0, 0, 0, 1, 1].getD j 0)) (by kernel_rfl) (S2i0 ⟨HCE0.out.drew', HJG0.out.drew, HVP0.out.drew, HVQ0.out.drew, HBW0.out.drew⟩) (fun hH => ?_)
        have hWr13 : Weaker (S2 (fun w' => CellsE layB w' bA oA L ∧ Jg w' gx x ∧ Vg w' gp e1 e2 ∧ Vg w' (gp + 1) e3 e4 ∧ Below w.heap.size w w')) := weaker2 _
        refine U_take 0 74 19 0 0 (v := ?vr13_1) rfl (by kernel_rfl) (by kernel_rfl) hWr13 (by kernel_rfl) (by kernel_rfl) (by kernel_rfl) (by kernel_rfl) (by kernel_rfl) (by kernel_rfl) (fun _ _ _ _ h => h) (by kernel_rfl) ?hyr13_1 (by omega) hH ?_
        case hyr13_1 => (intro w' hSw; clear hSw; go_simp; try (with_reducible rfl))
        simp only [List.set_cons_zero, List.set_cons_succ]
        refine U_take 1 75 18 0 0 (v := ?vr13_2) rfl (by kernel_rfl) (by kernel_rfl) hWr13 (by kernel_rfl) (by kernel_rfl) (by kernel_rfl) (by kernel_rfl) (by kernel_rfl) (by kernel_rfl) (fun _ _ _ _ h => h) (by kernel_rfl) ?hyr13_2 (by omega) hH ?_
        case hyr13_2 => (intro w' hSw; clear hSw; go_simp; try (with_reducible rfl))
        simp only [List.set_cons_zero, List.set_cons_succ]
        refine U_take 2 76 17 0 0 (v := ?vr13_3) rfl (by kernel_rfl) (by kernel_rfl) hWr13 (by kernel_rfl) (by kernel_rfl) (by kernel_rfl) (by kernel_rfl) (by kernel_rfl) (by kernel_rfl) (fun _ _ _ _ h => h) (by kernel_rfl) ?hyr13_3 (by omega) hH ?_
        case hyr13_3 => (intro w' hSw; replace hSw := S2o0 hSw; (try dsimp only at hSw); have q0 := hSw.1; have q1 := hSw.2.1; have q2 := hSw.2.2.1; have q3 := hSw.2.2.2.1; have q4 := hSw.2.2.2.2; obtain ⟨b0_0, b0_1, b0_2, b0_3, b0_4, b0_5, b0_6, b0_7, b0_8, b0_9, b0_10, b0_11, b0_12⟩ := cells_bd (q0) hka HXA.out; obtain ⟨c0_0, c0_1, c0_2, c0_3, c0_4, c0_5, c0_6, c0_7, c0_8, c0_9, c0_10, c0_11, c0_12⟩ := cells_bd (q0) hkb HXB.out; obtain ⟨qa1_0, qa1_1, qa1_2, qa1_3, qa1_4, qa1_5, qa1_6⟩ := id q1; obtain ⟨qa2_0, qa2_1⟩ := id q2; obtain ⟨qa3_0, qa3_1⟩ := id q3; go_simp; try (with_reducible rfl))
        simp only [List.set_cons_zero, List.set_cons_succ]
        refine U_take 3 77 16 0 0 (v := ?vr13_4) rfl (by kernel_rfl) (by kernel_rfl) hWr13 (by kernel_rfl) (by kernel_rfl) (by kernel_rfl) (by kernel_rfl) (by kernel_rfl) (by kernel_rfl) (fun _ _ _ _ h => h) (by kernel_rfl) ?hyr13_4 (by omega) hH ?_
        case hyr13_4 => (intro w' hSw; clear hSw; go_simp; try (with_reducible rfl))
        simp only [List.set_cons_zero, List.set_cons_succ]
        refine U_take 4 78 15 0 0 (v := ?vr13_5) rfl (by kernel_rfl) (by kernel_rfl) hWr13 (by kernel_rfl) (by kernel_rfl) (by kernel_rfl) (by kernel_rfl) (by kernel_rfl) (by kernel_rfl) (fun _ _ _ _ h => h) (by kernel_rfl) ?hyr13_5 (by omega) hH ?_
        case hyr13_5 => (intro w' hSw; replace hSw := S2o0 hSw; (try dsimp only at hSw); have q0 := hSw.1; have q1 := hSw.2.1; have q2 := hSw.2.2.1; have q3 := hSw.2.2.2.1; have q4 := hSw.2.2.2.2; obtain ⟨b0_0, b0_1, b0_2, b0_3, b0_4, b0_5, b0_6, b0_7, b0_8, b0_9, b0_10, b0_11, b0_12⟩ := cells_bd (q0) hka HXA.out; obtain ⟨c0_0, c0_1, c0_2, c0_3, c0_4, c0_5, c0_6, c0_7, c0_8, c0_9, c0_10, c0_11, c0_12⟩ := cells_bd (q0) hkb HXB.out; obtain ⟨qa1_0, qa1_1, qa1_2, qa1_3, qa1_4, qa1_5, qa1_6⟩ := id q1; obtain ⟨qa2_0, qa2_1⟩ := id q2; obtain ⟨qa3_0, qa3_1⟩ := id q3; go_simp; try (with_reducible rfl))
        simp only [List.set_cons_zero, List.set_cons_succ]
        refine U_take 5 79 14 0 0 (v := ?vr13_6) rfl (by kernel_rfl) (by kernel_rfl) hWr13 (by kernel_rfl) (by kernel_rfl) (by kernel_rfl) (by kernel_rfl) (by kernel_rfl) (by kernel_rfl) (fun _ _ _ _ h => h) (by kernel_rfl) ?hyr13_6 (by omega) hH ?_
        case hyr13_6 => (intro w' hSw; clear hSw; go_simp; try (with_reducible rfl))
        simp only [List.set_cons_zero, List.set_cons_succ]
        refine U_take 6 80 13 0 0 (v := ?vr13_7) rfl (by kernel_rfl) (by kernel_rfl) hWr13 (by kernel_rfl) (by kernel_rfl) (by kernel_rfl) (by kernel_rfl) (by kernel_rfl) (by kernel_rfl) (fun _ _ _ _ h => h) (by kernel_rfl) ?hyr13_7 (by omega) hH ?_
        case hyr13_7 => (intro w' hSw; replace hSw := S2o0 hSw; (try dsimp only at hSw); have q0 := hSw.1; have q1 := hSw.2.1; have q2 := hSw.2.2.1; have q3 := hSw.2.2.2.1; have q4 := hSw.2.2.2.2; obtain ⟨b0_0, b0_1, b0_2, b0_3, b0_4, b0_5, b0_6, b0_7, b0_8, b0_9, b0_10, b0_11, b0_12⟩ := cells_bd (q0) hka HXA.out; obtain ⟨c0_0, c0_1, c0_2, c0_3, c0_4, c0_5, c0_6, c0_7, c0_8, c0_9, c0_10, c0_11, c0_12⟩ := cells_bd (q0) hkb HXB.out; obtain ⟨qa1_0, qa1_1, qa1_2, qa1_3, qa1_4, qa1_5, qa1_6⟩ := id q1; obtain ⟨qa2_0, qa2_1⟩ := id q2; obtain ⟨qa3_0, qa3_1⟩ := id q3; go_simp; try (with_reducible rfl))
        simp only [List.set_cons_zero, List.set_cons_succ]
        refine U_take 8 82 12 0 0 (v := ?vr13_8) rfl (by kernel_rfl) (by kernel_rfl) hWr13 (by kernel_rfl) (by kernel_rfl) (by kernel_rfl) (by kernel_rfl) (by kernel_rfl) (by kernel_rfl) (fun _ _ _ _ h => h) (by kernel_rfl) ?hyr13_8 (by omega) hH ?_
        case hyr13_8 => (intro w' hSw; clear hSw; go_simp; try (with_reducible rfl))
        simp only [List.set_cons_zero, List.set_cons_succ]
        refine U_take 9 83 11 0 0 (v := ?vr13_9) rfl (by kernel_rfl) (by kernel_rfl) hWr13 (by kernel_rfl) (by kernel_rfl) (by kernel_rfl) (by kernel_rfl) (by kernel_rfl) (by kernel_rfl) (fun _ _ _ _ h => h) (by kernel_rfl) ?hyr13_9 (by omega) hH ?_
        case hyr13_9 => (intro w' hSw; clear hSw; go_simp; try (with_reducible rfl))
        simp only [List.set_cons_zero, List.set_cons_succ]
        refine U_take 10 84 10 0 0 (v := ?vr13_10) rfl (by kernel_rfl) (by kernel_rfl) hWr13 (by kernel_rfl) (by kernel_rfl) (by kernel_rfl) (by kernel_rfl) (by kernel_rfl) (by kernel_rfl) (fun _ _ _ _ h => h) (by kernel_rfl) ?hyr13_10 (by omega) hH ?_
        case hyr13_10 => (intro w' hSw; replace hSw := S2o0 hSw; (try dsimp only at hSw); have q0 := hSw.1; have q1 := hSw.2.1; have q2 := hSw.2.2.1; have q3 := hSw.2.2.2.1; have q4 := hSw.2.2.2.2; obtain ⟨b0_0, b0_1, b0_2, b0_3, b0_4, b0_5, b0_6, b0_7, b0_8, b0_9, b0_10, b0_11, b0_12⟩ := cells_bd (q0) hka HXA.out; obtain ⟨c0_0, c0_1, c0_2, c0_3, c0_4, c0_5, c0_6, c0_7, c0_8, c0_9, c0_10, c0_11, c0_12⟩ := cells_bd (q0) hkb HXB.out; obtain ⟨qa1_0, qa1_1, qa1_2, qa1_3, qa1_4, qa1_5, qa1_6⟩ := id q1; obtain ⟨qa2_0, qa2_1⟩ := id q2; obtain ⟨qa3_0, qa3_1⟩ := id q3; go_simp; try (with_reducible rfl))
        simp only [List.set_cons_zero, List.set_cons_succ]
        refine U_take 11 85 9 0 0 (v := ?vr13_11) rfl (by kernel_rfl) (by kernel_rfl) hWr13 (by kernel_rfl) (by kernel_rfl) (by kernel_rfl) (by kernel_rfl) (by kernel_rfl) (by kernel_rfl) (fun _ _ _ _ h => h) (by kernel_rfl) ?hyr13_11 (by omega) hH ?_
        case hyr13_11 => (intro w' hSw; clear hSw; go_simp; try (with_reducible rfl))
        simp only [List.set_cons_zero, List.set_cons_succ]
        refine U_take 12 86 8 0 0 (v := ?vr13_12) rfl (by kernel_rfl) (by kernel_rfl) hWr13 (by kernel_rfl) (by kernel_rfl) (by kernel_rfl) (by kernel_rfl) (by kernel_rfl) (by kernel_rfl) (fun _ _ _ _ h => h) (by kernel_rfl) ?hyr13_12 (by omega) hH ?_
        case hyr13_12 => (intro w' hSw; replace hSw := S2o0 hSw; (try dsimp only at hSw); have q0 := hSw.1; have q1 := hSw.2.1; have q2 := hSw.2.2.1; have q3 := hSw.2.2.2.1; have q4 := hSw.2.2.2.2; obtain ⟨b0_0, b0_1, b0_2, b0_3, b0_4, b0_5, b0_6, b0_7, b0_8, b0_9, b0_10, b0_11, b0_12⟩ := cells_bd (q0) hka HXA.out; obtain ⟨c0_0, c0_1, c0_2, c0_3, c0_4, c0_5, c0_6, c0_7, c0_8, c0_9, c0_10, c0_11, c0_12⟩ := cells_bd (q0) hkb HXB.out; obtain ⟨qa1_0, qa1_1, qa1_2, qa1_3, qa1_4, qa1_5, qa1_6⟩ := id q1; obtain ⟨qa2_0, qa2_1⟩ := id q2; obtain ⟨qa3_0, qa3_1⟩ := id q3; go_simp; try (with_reducible rfl))
        simp only [List.set_cons_zero, List.set_cons_succ]
        refine U_take 13 87 7 0 0 (v := ?vr13_13) rfl (by kernel_rfl) (by kernel_rfl) hWr13 (by kernel_rfl) (by kernel_rfl) (by kernel_rfl) (by kernel_rfl) (by kernel_rfl) (by kernel_rfl) (fun _ _ _ _ h => h) (by kernel_rfl) ?hyr13_13 (by omega) hH ?_
        case hyr13_13 => (intro w' hSw; clear hSw; go_simp; try (with_reducible rfl))
        simp only [List.set_cons_zero, List.set_cons_succ]
        refine U_take 14 88 6 0 0 (v := ?vr13_14) rfl (by kernel_rfl) (by kernel_rfl) hWr13 (by kernel_rfl) (by kernel_rfl) (by kernel_rfl) (by kernel_rfl) (by kernel_rfl) (by kernel_rfl) (fun _ _ _ _ h => h) (by kernel_rfl) ?hyr13_14 (by omega) hH ?_
        case hyr13_14 => (intro w' hSw; replace hSw := S2o0 hSw; (try dsimp only at hSw); have q0 := hSw.1; have q1 := hSw.2.1; have q2 := hSw.2.2.1; have q3 := hSw.2.2.2.1; have q4 := hSw.2.2.2.2; obtain ⟨b0_0, b0_1, b0_2, b0_3, b0_4, b0_5, b0_6, b0_7, b0_8, b0_9, b0_10, b0_11, b0_12⟩ := cells_bd (q0) hka HXA.out; obtain ⟨c0_0, c0_1, c0_2, c0_3, c0_4, c0_5, c0_6, c0_7, c0_8, c0_9, c0_10, c0_11, c0_12⟩ := cells_bd (q0) hkb HXB.out; obtain ⟨qa1_0, qa1_1, qa1_2, qa1_3, qa1_4, qa1_5, qa1_6⟩ := id q1; obtain ⟨qa2_0, qa2_1⟩ := id q2; obtain ⟨qa3_0, qa3_1⟩ := id q3; go_simp; try (with_reducible rfl))
        simp only [List.set_cons_zero, List.set_cons_succ]
        refine wpAnyU_ready (rs := [7, 16, 17]) (by kernel_rfl) (by simp) ?_
        refine AllReadyU.cons 0 (by kernel_rfl) (o := _) rfl (fun K hK => ?_) ?_
        · try clear hb
          go_simp
          (go_at_call 23; refine (HWA.out _).mono ?_; rintro e wn ⟨rfl, hb⟩)
          refine hK.out _ _ ?hsr13_15 (fun hH2 => ?hrr13_15)
          case hsr13_15 => exact S2i0 (by have hG := hH; replace hG := S2o0 hG; (try dsimp only at hG); have q0 := hG.1; have q1 := hG.2.1; have q2 := hG.2.2.1; have q3 := hG.2.2.2.1; have q4 := hG.2.2.2.2; exact ⟨CellsE.below hb q0, keepJg hb q1, keepVg hb q2, keepVg hb q3, keepBelow hb q4⟩)
          clear hK K hH
          have hH := hH2
          clear hH2
          try simp only [Act.put, List.setIfInBounds_toArray, List.set_cons_zero, List.set_cons_succ]
          refine wpAnyU_ready (rs := [15, 16, 17]) (by kernel_rfl) (by simp) ?_
          refine AllReadyU.cons 0 (by kernel_rfl) (o := _) rfl (fun K hK => ?_) ?_
          · try clear hb
            go_simp
            (go_at_call 23; refine (HWB.out _).mono ?_; rintro e wn ⟨rfl, hb⟩)
            refine hK.out _ _ ?hsr13_16 (fun hH2 => ?hrr13_16)
            case hsr13_16 => exact S2i0 (by have hG := hH; replace hG := S2o0 hG; (try dsimp only at hG); have q0 := hG.1; have q1 := hG.2.1; have q2 := hG.2.2.1; have q3 := hG.2.2.2.1; have q4 := hG.2.2.2.2; exact ⟨CellsE.below hb q0, keepJg hb q1, keepVg hb q2, keepVg hb q3, keepBelow hb q4⟩)
            clear hK K hH
            have hH := hH2
            clear hH2
            try simp only [Act.put, List.setIfInBounds_toArray, List.set_cons_zero, List.set_cons_succ]
            refine wpAnyU_ready (rs := [16, 17]) (by kernel_rfl) (by simp) ?_
            refine AllReadyU.cons 0 (by kernel_rfl) (o := _) rfl (fun K hK => ?_) ?_
            · try clear hb
              have hG := hH
              replace hG := S2o0 hG; (try dsimp only at hG); have q0 := hG.1; have q1 := hG.2.1; have q2 := hG.2.2.1; have q3 := hG.2.2.2.1; have q4 := hG.2.2.2.2
              go_simp
              refine hK.out _ _ ?hsr13_17 (fun hH2 => ?hrr13_17)
              case hsr13_17 => exact S2i0 (by have hG := hH; replace hG := S2o0 hG; (try dsimp only at hG); have q0 := hG.1; have q1 := hG.2.1; have q2 := hG.2.2.1; have q3 := hG.2.2.2.1; have q4 := hG.2.2.2.2; exact ⟨CellsE.below ((Below.refl _ _).alloc (Nat.le_refl _) _) q0, keepJg ((Below.refl _ _).alloc (Nat.le_refl _) _) q1, keepVg ((Below.refl _ _).alloc (Nat.le_refl _) _) q2, keepVg ((Below.refl _ _).alloc (Nat.le_refl _) _) q3, keepBelow ((Below.refl _ _).alloc (Nat.le_refl _) _) q4⟩)
              clear hK K hH
              have hH := hH2
              clear hH2
              try simp only [Act.put, List.setIfInBounds_toArray, List.set_cons_zero, List.set_cons_succ]
              have hP : VZ (wn.alloc (.cells #[.int .i64 0, .int .i64 0] 24)) wn.heap.size := VZ.here wn 0 0 24
              obtain ⟨gP, hgP⟩ : ∃ g, g = wn.heap.size := ⟨_, rfl⟩
              have hlP : gp + 1 < gP := by rw [hgP]; have h9 := VGlt q3; exact h9
              rw [← hgP] at hP
              try rw [← hgP]
              clear hgP q0 q1 q2 q3 q4
              generalize wn.alloc (.cells #[.int .i64 0, .int .i64 0] 24) = wx16 at *
              refine wpAnyU_ready (rs := [17]) (by kernel_rfl) (by simp) ?_
              refine AllReadyU.cons 0 (by kernel_rfl) (o := _) rfl (fun K hK => ?_) AllReadyU.nil
              try clear hb
              have hG := hH
              replace hG := S2o0 hG; (try dsimp only at hG); have q0 := hG.1; have q1 := hG.2.1; have q2 := hG.2.2.1; have q3 := hG.2.2.2.1; have q4 := hG.2.2.2.2
              have hZP := VZ.lt hP
              go_simp
              refine hK.out _ _ ?hsr13_18 (fun hH2 => ?hrr13_18)
              case hsr13_18 => exact S2i0 (by have hG := hH; replace hG := S2o0 hG; (try dsimp only at hG); have q0 := hG.1; have q1 := hG.2.1; have q2 := hG.2.2.1; have q3 := hG.2.2.2.1; have q4 := hG.2.2.2.2; exact ⟨CellsE.below ((Below.refl _ _).alloc (Nat.le_refl _) _) q0, keepJg ((Below.refl _ _).alloc (Nat.le_refl _) _) q1, keepVg ((Below.refl _ _).alloc (Nat.le_refl _) _) q2, keepVg ((Below.refl _ _).alloc (Nat.le_refl _) _) q3, keepBelow ((Below.refl _ _).alloc (Nat.le_refl _) _) q4⟩)
              clear hK K hH
              have hH := hH2
              clear hH2
              try simp only [Act.put, List.setIfInBounds_toArray, List.set_cons_zero, List.set_cons_succ]
              have hQ : VZ (wx16.alloc (.cells #[.int .i64 0, .int .i64 0] 24)) wx16.heap.size := VZ.here wx16 0 0 24
              replace hP := keepVZ ((Below.refl _ _).alloc (Nat.le_refl _) (.cells #[.int .i64 0, .int .i64 0] 24)) hP
              obtain ⟨gQ, hgQ⟩ : ∃ g, g = wx16.heap.size := ⟨_, rfl⟩
              have hlQ : gp + 1 < gQ ∧ gP < gQ := by rw [hgQ]; have h9 := VGlt q3; exact ⟨h9, hZP⟩
              rw [← hgQ] at hQ
              try rw [← hgQ]
              clear hgQ q0 q1 q2 q3 q4
              generalize wx16.alloc (.cells #[.int .i64 0, .int .i64 0] 24) = wx17 at *
              refine wpAnyU_lst (l' := #[true, true, true, true, true, true, true, true, true, true, true, true, true, true, true, true, true, true, false, false]) (by kernel_rfl) ?_
              have hl2 : gp + 1 < gP ∧ gp + 1 < gQ ∧ gP ≠ gQ := by omega
              clear hlP hlQ
              try clear hZP
              try clear hZQ
              try clear hb
              revert hH
              revert hQ; revert hP
              revert hl2
              revert gQ; revert gP
              revert wx17
              exact hNr13.out
            refine AllReadyU.cons 0 (by kernel_rfl) (o := _) rfl (fun K hK => ?_) ?_
            · try clear hb
              have hG := hH
              replace hG := S2o0 hG; (try dsimp only at hG); have q0 := hG.1; have q1 := hG.2.1; have q2 := hG.2.2.1; have q3 := hG.2.2.2.1; have q4 := hG.2.2.2.2
              go_simp
              refine hK.out _ _ ?hsr13_21 (fun hH2 => ?hrr13_21)
              case hsr13_21 => exact S2i0 (by have hG := hH; replace hG := S2o0 hG; (try dsimp only at hG); have q0 := hG.1; have q1 := hG.2.1; have q2 := hG.2.2.1; have q3 := hG.2.2.2.1; have q4 := hG.2.2.2.2; exact ⟨CellsE.below ((Below.refl _ _).alloc (Nat.le_refl _) _) q0, keepJg ((Below.refl _ _).alloc (Nat.le_refl _) _) q1, keepVg ((Below.refl _ _).alloc (Nat.le_refl _) _) q2, keepVg ((Below.refl _ _).alloc (Nat.le_refl _) _) q3, keepBelow ((Below.refl _ _).alloc (Nat.le_refl _) _) q4⟩)
              clear hK K hH
              have hH := hH2
              clear hH2
              try simp only [Act.put, List.setIfInBounds_toArray, List.set_cons_zero, List.set_cons_succ]
              have hQ : VZ (wn.alloc (.cells #[.int .i64 0, .int .i64 0] 24)) wn.heap.size := VZ.here wn 0 0 24
              obtain ⟨gQ, hgQ⟩ : ∃ g, g = wn.heap.size := ⟨_, rfl⟩
              have hlQ : gp + 1 < gQ := by rw [hgQ]; have h9 := VGlt q3; exact h9
              rw [← hgQ] at hQ
              try rw [← hgQ]
              clear hgQ q0 q1 q2 q3 q4
              generalize wn.alloc (.cells #[.int .i64 0, .int .i64 0] 24) = wx17 at *
              refine wpAnyU_ready (rs := [16]) (by kernel_rfl) (by simp) ?_
              refine AllReadyU.cons 0 (by kernel_rfl) (o := _) rfl (fun K hK => ?_) AllReadyU.nil
              try clear hb
              have hG := hH
              replace hG := S2o0 hG; (try dsimp only at hG); have q0 := hG.1; have q1 := hG.2.1; have q2 := hG.2.2.1; have q3 := hG.2.2.2.1; have q4 := hG.2.2.2.2
              have hZQ := VZ.lt hQ
              go_simp
              refine hK.out _ _ ?hsr13_22 (fun hH2 => ?hrr13_22)
              case hsr13_22 => exact S2i0 (by have hG := hH; replace hG := S2o0 hG; (try dsimp only at hG); have q0 := hG.1; have q1 := hG.2.1; have q2 := hG.2.2.1; have q3 := hG.2.2.2.1; have q4 := hG.2.2.2.2; exact ⟨CellsE.below ((Below.refl _ _).alloc (Nat.le_refl _) _) q0, keepJg ((Below.refl _ _).alloc (Nat.le_refl _) _) q1, keepVg ((Below.refl _ _).alloc (Nat.le_refl _) _) q2, keepVg ((Below.refl _ _).alloc (Nat.le_refl _) _) q3, keepBelow ((Below.refl _ _).alloc (Nat.le_refl _) _) q4⟩)
              clear hK K hH
              have hH := hH2
              clear hH2
              try simp only [Act.put, List.setIfInBounds_toArray, List.set_cons_zero, List.set_cons_succ]
              have hP : VZ (wx17.alloc (.cells #[.int .i64 0, .int .i64 0] 24)) wx17.heap.size := VZ.here wx17 0 0 24
              replace hQ := keepVZ ((Below.refl _ _).alloc (Nat.le_refl _) (.cells #[.int .i64 0, .int .i64 0] 24)) hQ
              obtain ⟨gP, hgP⟩ : ∃ g, g = wx17.heap.size := ⟨_, rfl⟩
              have hlP : gp + 1 < gP ∧ gQ < gP := by rw [hgP]; have h9 := VGlt q3; exact ⟨h9, hZQ⟩
              rw [← hgP] at hP
              try rw [← hgP]
              clear hgP q0 q1 q2 q3 q4
              generalize wx17.alloc (.cells #[.int .i64 0, .int .i64 0] 24) = wx16 at *
              refine wpAnyU_lst (l' := #[true, true, true, true, true, true, true, true, true, true, true, true, true, true, true, true, true, true, false, false]) (by kernel_rfl) ?_
              have hl2 : gp + 1 < gP ∧ gp + 1 < gQ ∧ gP ≠ gQ := by omega
              clear hlP hlQ
              try clear hZP
              try clear hZQ
              try clear hb
              revert hH
              revert hQ; revert hP
              revert hl2
              revert gQ; revert gP
              revert wx16
              exact hNr13.out
            exact AllReadyU.nil
          refine AllReadyU.cons 0 (by kernel_rfl) (o := _) rfl (fun K hK => ?_) ?_
          · try clear hb
            have hG := hH
            replace hG := S2o0 hG; (try dsimp only at hG); have q0 := hG.1; have q1 := hG.2.1; have q2 := hG.2.2.1; have q3 := hG.2.2.2.1; have q4 := hG.2.2.2.2
            go_simp
            refine hK.out _ _ ?hsr13_23 (fun hH2 => ?hrr13_23)
            case hsr13_23 => exact S2i0 (by have hG := hH; replace hG := S2o0 hG; (try dsimp only at hG); have q0 := hG.1; have q1 := hG.2.1; have q2 := hG.2.2.1; have q3 := hG.2.2.2.1; have q4 := hG.2.2.2.2; exact ⟨CellsE.below ((Below.refl _ _).alloc (Nat.le_refl _) _) q0, keepJg ((Below.refl _ _).alloc (Nat.le_refl _) _) q1, keepVg ((Below.refl _ _).alloc (Nat.le_refl _) _) q2, keepVg ((Below.refl _ _).alloc (Nat.le_refl _) _) q3, keepBelow ((Below.refl _ _).alloc (Nat.le_refl _) _) q4⟩)
            clear hK K hH
            have hH := hH2
            clear hH2
            try simp only [Act.put, List.setIfInBounds_toArray, List.set_cons_zero, List.set_cons_succ]
            have hP : VZ (wn.alloc (.cells #[.int .i64 0, .int .i64 0] 24)) wn.heap.size := VZ.here wn 0 0 24
            obtain ⟨gP, hgP⟩ : ∃ g, g = wn.heap.size := ⟨_, rfl⟩
            have hlP : gp + 1 < gP := by rw [hgP]; have h9 := VGlt q3; exact h9
            rw [← hgP] at hP
            try rw [← hgP]
            clear hgP q0 q1 q2 q3 q4
            generalize wn.alloc (.cells #[.int .i64 0, .int .i64 0] 24) = wx16 at *
            refine wpAnyU_ready (rs := [15, 17]) (by kernel_rfl) (by simp) ?_
            refine AllReadyU.cons 0 (by kernel_rfl) (o := _) rfl (fun K hK => ?_) ?_
            · try clear hb
              go_simp
              (go_at_call 23; refine (HWB.out _).mono ?_; rintro e wn ⟨rfl, hb⟩)
              refine hK.out _ _ ?hsr13_24 (fun hH2 => ?hrr13_24)
              case hsr13_24 => exact S2i0 (by have hG := hH; replace hG := S2o0 hG; (try dsimp only at hG); have q0 := hG.1; have q1 := hG.2.1; have q2 := hG.2.2.1; have q3 := hG.2.2.2.1; have q4 := hG.2.2.2.2; exact ⟨CellsE.below hb q0, keepJg hb q1, keepVg hb q2, keepVg hb q3, keepBelow hb q4⟩)
              clear hK K hH
              have hH := hH2
              clear hH2
              try simp only [Act.put, List.setIfInBounds_toArray, List.set_cons_zero, List.set_cons_succ]
              replace hP := keepVZ hb hP
              refine wpAnyU_ready (rs := [17]) (by kernel_rfl) (by simp) ?_
              refine AllReadyU.cons 0 (by kernel_rfl) (o := _) rfl (fun K hK => ?_) AllReadyU.nil
              try clear hb
              have hG := hH
              replace hG := S2o0 hG; (try dsimp only at hG); have q0 := hG.1; have q1 := hG.2.1; have q2 := hG.2.2.1; have q3 := hG.2.2.2.1; have q4 := hG.2.2.2.2
              have hZP := VZ.lt hP
              go_simp
              refine hK.out _ _ ?hsr13_25 (fun hH2 => ?hrr13_25)
              case hsr13_25 => exact S2i0 (by have hG := hH; replace hG := S2o0 hG; (try dsimp only at hG); have q0 := hG.1; have q1 := hG.2.1; have q2 := hG.2.2.1; have q3 := hG.2.2.2.1; have q4 := hG.2.2.2.2; exact ⟨CellsE.below ((Below.refl _ _).alloc (Nat.le_refl _) _) q0, keepJg ((Below.refl _ _).alloc (Nat.le_refl _) _) q1, keepVg ((Below.refl _ _).alloc (Nat.le_refl _) _) q2, keepVg ((Below.refl _ _).alloc (Nat.le_refl _) _) q3, keepBelow ((Below.refl _ _).alloc (Nat.le_refl _) _) q4⟩)
              clear hK K hH
              have hH := hH2
              clear hH2
              try simp only [Act.put, List.setIfInBounds_toArray, List.set_cons_zero, List.set_cons_succ]
              have hQ : VZ (wn.alloc (.cells #[.int .i64 0, .int .i64 0] 24)) wn.heap.size := VZ.here wn 0 0 24
              replace hP := keepVZ ((Below.refl _ _).alloc (Nat.le_refl _) (.cells #[.int .i64 0, .int .i64 0] 24)) hP
              obtain ⟨gQ, hgQ⟩ : ∃ g, g = wn.heap.size := ⟨_, rfl⟩
              have hlQ : gp + 1 < gQ ∧ gP < gQ := by rw [hgQ]; have h9 := VGlt q3; exact ⟨h9, hZP⟩
              rw [← hgQ] at hQ
              try rw [← hgQ]
              clear hgQ q0 q1 q2 q3 q4
              generalize wn.alloc (.cells #[.int .i64 0, .int .i64 0] 24) = wx17 at *
              refine wpAnyU_lst (l' := #[true, true, true, true, true, true, true, true, true, true, true, true, true, true, true, true, true, true, false, false]) (by kernel_rfl) ?_
              have hl2 : gp + 1 < gP ∧ gp + 1 < gQ ∧ gP ≠ gQ := by omega
              clear hlP hlQ
              try clear hZP
              try clear hZQ
              try clear hb
              revert hH
              revert hQ; revert hP
              revert hl2
              revert gQ; revert gP
              revert wx17
              exact hNr13.out
            refine AllReadyU.cons 0 (by kernel_rfl) (o := _) rfl (fun K hK => ?_) ?_
            · try clear hb
              have hG := hH
              replace hG := S2o0 hG; (try dsimp only at hG); have q0 := hG.1; have q1 := hG.2.1; have q2 := hG.2.2.1; have q3 := hG.2.2.2.1; have q4 := hG.2.2.2.2
              have hZP := VZ.lt hP
              go_simp
              refine hK.out _ _ ?hsr13_26 (fun hH2 => ?hrr13_26)
              case hsr13_26 => exact S2i0 (by have hG := hH; replace hG := S2o0 hG; (try dsimp only at hG); have q0 := hG.1; have q1 := hG.2.1; have q2 := hG.2.2.1; have q3 := hG.2.2.2.1; have q4 := hG.2.2.2.2; exact ⟨CellsE.below ((Below.refl _ _).alloc (Nat.le_refl _) _) q0, keepJg ((Below.refl _ _).alloc (Nat.le_refl _) _) q1, keepVg ((Below.refl _ _).alloc (Nat.le_refl _) _) q2, keepVg ((Below.refl _ _).alloc (Nat.le_refl _) _) q3, keepBelow ((Below.refl _ _).alloc (Nat.le_refl _) _) q4⟩)
              clear hK K hH
              have hH := hH2
              clear hH2
              try simp only [Act.put, List.setIfInBounds_toArray, List.set_cons_zero, List.set_cons_succ]
              have hQ : VZ (wx16.alloc (.cells #[.int .i64 0, .int .i64 0] 24)) wx16.heap.size := VZ.here wx16 0 0 24
              replace hP := keepVZ ((Below.refl _ _).alloc (Nat.le_refl _) (.cells #[.int .i64 0, .int .i64 0] 24)) hP
              obtain ⟨gQ, hgQ⟩ : ∃ g, g = wx16.heap.size := ⟨_, rfl⟩
              have hlQ : gp + 1 < gQ ∧ gP < gQ := by rw [hgQ]; have h9 := VGlt q3; exact ⟨h9, hZP⟩
              rw [← hgQ] at hQ
              try rw [← hgQ]
              clear hgQ q0 q1 q2 q3 q4
              generalize wx16.alloc (.cells #[.int .i64 0, .int .i64 0] 24) = wx17 at *
              refine wpAnyU_ready (rs := [15]) (by kernel_rfl) (by simp) ?_
              refine AllReadyU.cons 0 (by kernel_rfl) (o := _) rfl (fun K hK => ?_) AllReadyU.nil
              try clear hb
              go_simp
              (go_at_call 23; refine (HWB.out _).mono ?_; rintro e wn ⟨rfl, hb⟩)
              refine hK.out _ _ ?hsr13_27 (fun hH2 => ?hrr13_27)
              case hsr13_27 => exact S2i0 (by have hG := hH; replace hG := S2o0 hG; (try dsimp only at hG); have q0 := hG.1; have q1 := hG.2.1; have q2 := hG.2.2.1; have q3 := hG.2.2.2.1; have q4 := hG.2.2.2.2; exact ⟨CellsE.below hb q0, keepJg hb q1, keepVg hb q2, keepVg hb q3, keepBelow hb q4⟩)
              clear hK K hH
              have hH := hH2
              clear hH2
              try simp only [Act.put, List.setIfInBounds_toArray, List.set_cons_zero, List.set_cons_succ]
              replace hP := keepVZ hb hP
              replace hQ := keepVZ hb hQ
              refine wpAnyU_lst (l' := #[true, true, true, true, true, true, true, true, true, true, true, true, true, true, true, true, true, true, false, false]) (by kernel_rfl) ?_
              have hl2 : gp + 1 < gP ∧ gp + 1 < gQ ∧ gP ≠ gQ := by omega
              clear hlP hlQ
              try clear hZP
              try clear hZQ
              try clear hb
              revert hH
              revert hQ; revert hP
              revert hl2
              revert gQ; revert gP
              revert wn
              exact hNr13.out
            exact AllReadyU.nil
          refine AllReadyU.cons 0 (by kernel_rfl) (o := _) rfl (fun K hK => ?_) ?_
          · try clear hb
            have hG := hH
            replace hG := S2o0 hG; (try dsimp only at hG); have q0 := hG.1; have q1 := hG.2.1; have q2 := hG.2.2.1; have q3 := hG.2.2.2.1; have q4 := hG.2.2.2.2
            go_simp
            refine hK.out _ _ ?hsr13_28 (fun hH2 => ?hrr13_28)
            case hsr13_28 => exact S2i0 (by have hG := hH; replace hG := S2o0 hG; (try dsimp only at hG); have q0 := hG.1; have q1 := hG.2.1; have q2 := hG.2.2.1; have q3 := hG.2.2.2.1; have q4 := hG.2.2.2.2; exact ⟨CellsE.below ((Below.refl _ _).alloc (Nat.le_refl _) _) q0, keepJg ((Below.refl _ _).alloc (Nat.le_refl _) _) q1, keepVg ((Below.refl _ _).alloc (Nat.le_refl _) _) q2, keepVg ((Below.refl _ _).alloc (Nat.le_refl _) _) q3, keepBelow ((Below.refl _ _).alloc (Nat.le_refl _) _) q4⟩)
            clear hK K hH
            have hH := hH2
            clear hH2
            try simp only [Act.put, List.setIfInBounds_toArray, List.set_cons_zero, List.set_cons_succ]
            have hQ : VZ (wn.alloc (.cells #[.int .i64 0, .int .i64 0] 24)) wn.heap.size := VZ.here wn 0 0 24
            obtain ⟨gQ, hgQ⟩ : ∃ g, g = wn.heap.size := ⟨_, rfl⟩
            have hlQ : gp + 1 < gQ := by rw [hgQ]; have h9 := VGlt q3; exact h9
            rw [← hgQ] at hQ
            try rw [← hgQ]
            clear hgQ q0 q1 q2 q3 q4
            generalize wn.alloc (.cells #[.int .i64 0, .int .i64 0] 24) = wx17 at *
            refine wpAnyU_ready (rs := [15, 16]) (by kernel_rfl) (by simp) ?_
            refine AllReadyU.cons 0 (by kernel_rfl) (o := _) rfl (fun K hK => ?_) ?_
            · try clear hb
              go_simp
              (go_at_call 23; refine (HWB.out _).mono ?_; rintro e wn ⟨rfl, hb⟩)
              refine hK.out _ _ ?hsr13_29 (fun hH2 => ?hrr13_29)
              case hsr13_29 => exact S2i0 (by have hG := hH; replace hG := S2o0 hG; (try dsimp only at hG); have q0 := hG.1; have q1 := hG.2.1; have q2 := hG.2.2.1; have q3 := hG.2.2.2.1; have q4 := hG.2.2.2.2; exact ⟨CellsE.below hb q0, keepJg hb q1, keepVg hb q2, keepVg hb q3, keepBelow hb q4⟩)
              clear hK K hH
              have hH := hH2
              clear hH2
              try simp only [Act.put, List.setIfInBounds_toArray, List.set_cons_zero, List.set_cons_succ]
              replace hQ := keepVZ hb hQ
              refine wpAnyU_ready (rs := [16]) (by kernel_rfl) (by simp) ?_
              refine AllReadyU.cons 0 (by kernel_rfl) (o := _) rfl (fun K hK => ?_) AllReadyU.nil
              try clear hb
              have hG := hH
              replace hG := S2o0 hG; (try dsimp only at hG); have q0 := hG.1; have q1 := hG.2.1; have q2 := hG.2.2.1; have q3 := hG.2.2.2.1; have q4 := hG.2.2.2.2
              have hZQ := VZ.lt hQ
              go_simp
              refine hK.out _ _ ?hsr13_30 (fun hH2 => ?hrr13_30)
              case hsr13_30 => exact S2i0 (by have hG := hH; replace hG := S2o0 hG; (try dsimp only at hG); have q0 := hG.1; have q1 := hG.2.1; have q2 := hG.2.2.1; have q3 := hG.2.2.2.1; have q4 := hG.2.2.2.2; exact ⟨CellsE.below ((Below.refl _ _).alloc (Nat.le_refl _) _) q0, keepJg ((Below.refl _ _).alloc (Nat.le_refl _) _) q1, keepVg ((Below.refl _ _).alloc (Nat.le_refl _) _) q2, keepVg ((Below.refl _ _).alloc (Nat.le_refl _) _) q3, keepBelow ((Below.refl _ _).alloc (Nat.le_refl _) _) q4⟩)
              clear hK K hH
              have hH := hH2
              clear hH2
              try simp only [Act.put, List.setIfInBounds_toArray, List.set_cons_zero, List.set_cons_succ]
              have hP : VZ (wn.alloc (.cells #[.int .i64 0, .int .i64 0] 24)) wn.heap.size := VZ.here wn 0 0 24
              replace hQ := keepVZ ((Below.refl _ _).alloc (Nat.le_refl _) (.cells #[.int .i64 0, .int .i64 0] 24)) hQ
              obtain ⟨gP, hgP⟩ : ∃ g, g = wn.heap.size := ⟨_, rfl⟩
              have hlP : gp + 1 < gP ∧ gQ < gP := by rw [hgP]; have h9 := VGlt q3; exact ⟨h9, hZQ⟩
              rw [← hgP] at hP
              try rw [← hgP]
              clear hgP q0 q1 q2 q3 q4
              generalize wn.alloc (.cells #[.int .i64 0, .int .i64 0] 24) = wx16 at *
              refine wpAnyU_lst (l' := #[true, true, true, true, true, true, true, true, true, true, true, true, true, true, true, true, true, true, false, false]) (by kernel_rfl) ?_
              have hl2 : gp + 1 < gP ∧ gp + 1 < gQ ∧ gP ≠ gQ := by omega
              clear hlP hlQ
              try clear hZP
              try clear hZQ
              try clear hb
              revert hH
              revert hQ; revert hP
              revert hl2
              revert gQ; revert gP
              revert wx16
              exact hNr13.out
            refine AllReadyU.cons 0 (by kernel_rfl) (o := _) rfl (fun K hK => ?_) ?_
            · try clear hb
              have hG := hH
              replace hG := S2o0 hG; (try dsimp only at hG); have q0 := hG.1; have q1 := hG.2.1; have q2 := hG.2.2.1; have q3 := hG.2.2.2.1; have q4 := hG.2.2.2.2
              have hZQ := VZ.lt hQ
              go_simp
              refine hK.out _ _ ?hsr13_31 (fun hH2 => ?hrr13_31)
              case hsr13_31 => exact S2i0 (by have hG := hH; replace hG := S2o0 hG; (try dsimp only at hG); have q0 := hG.1; have q1 := hG.2.1; have q2 := hG.2.2.1; have q3 := hG.2.2.2.1; have q4 := hG.2.2.2.2; exact ⟨CellsE.below ((Below.refl _ _).alloc (Nat.le_refl _) _) q0, keepJg ((Below.refl _ _).alloc (Nat.le_refl _) _) q1, keepVg ((Below.refl _ _).alloc (Nat.le_refl _) _) q2, keepVg ((Below.refl _ _).alloc (Nat.le_refl _) _) q3, keepBelow ((Below.refl _ _).alloc (Nat.le_refl _) _) q4⟩)
              clear hK K hH
              have hH := hH2
              clear hH2
              try simp only [Act.put, List.setIfInBounds_toArray, List.set_cons_zero, List.set_cons_succ]
              have hP : VZ (wx17.alloc (.cells #[.int .i64 0, .int .i64 0] 24)) wx17.heap.size := VZ.here wx17 0 0 24
              replace hQ := keepVZ ((Below.refl _ _).alloc (Nat.le_refl _) (.cells #[.int .i64 0, .int .i64 0] 24)) hQ
              obtain ⟨gP, hgP⟩ : ∃ g, g = wx17.heap.size := ⟨_, rfl⟩
              have hlP : gp + 1 < gP ∧ gQ < gP := by rw [hgP]; have h9 := VGlt q3; exact ⟨h9, hZQ⟩
              rw [← hgP] at hP
              try rw [← hgP]
              clear hgP q0 q1 q2 q3 q4
              generalize wx17.alloc (.cells #[.int .i64 0, .int .i64 0] 24) = wx16 at *
              refine wpAnyU_ready (rs := [15]) (by kernel_rfl) (by simp) ?_
              refine AllReadyU.cons 0 (by kernel_rfl) (o := _) rfl (fun K hK => ?_) AllReadyU.nil
              try clear hb
              go_simp
              (go_at_call 23; refine (HWB.out _).mono ?_; rintro e wn ⟨rfl, hb⟩)
              refine hK.out _ _ ?hsr13_32 (fun hH2 => ?hrr13_32)
              case hsr13_32 => exact S2i0 (by have hG := hH; replace hG := S2o0 hG; (try dsimp only at hG); have q0 := hG.1; have q1 := hG.2.1; have q2 := hG.2.2.1; have q3 := hG.2.2.2.1; have q4 := hG.2.2.2.2; exact ⟨CellsE.below hb q0, keepJg hb q1, keepVg hb q2, keepVg hb q3, keepBelow hb q4⟩)
              clear hK K hH
              have hH := hH2
              clear hH2
              try simp only [Act.put, List.setIfInBounds_toArray, List.set_cons_zero, List.set_cons_succ]
              replace hP := keepVZ hb hP
              replace hQ := keepVZ hb hQ
              refine wpAnyU_lst (l' := #[true, true, true, true, true, true, true, true, true, true, true, true, true, true, true, true, true, true, false, false]) (by kernel_rfl) ?_
              have hl2 : gp + 1 < gP ∧ gp + 1 < gQ ∧ gP ≠ gQ := by omega
              clear hlP hlQ
              try clear hZP
              try clear hZQ
              try clear hb
              revert hH
              revert hQ; revert hP
              revert hl2
              revert gQ; revert gP
              revert wn
              exact hNr13.out
            exact AllReadyU.nil
          exact AllReadyU.nil
        refine AllReadyU.cons 0 (by kernel_rfl) (o := _) rfl (fun K hK => ?_) ?_
        · try clear hb
          have hG := hH
          replace hG := S2o0 hG; (try dsimp only at hG); have q0 := hG.1; have q1 := hG.2.1; have q2 := hG.2.2.1; have q3 := hG.2.2.2.1; have q4 := hG.2.2.2.2
          go_simp
          refine hK.out _ _ ?hsr13_33 (fun hH2 => ?hrr13_33)
          case hsr13_33 => exact S2i0 (by have hG := hH; replace hG := S2o0 hG; (try dsimp only at hG); have q0 := hG.1; have q1 := hG.2.1; have q2 := hG.2.2.1; have q3 := hG.2.2.2.1; have q4 := hG.2.2.2.2; exact ⟨CellsE.below ((Below.refl _ _).alloc (Nat.le_refl _) _) q0, keepJg ((Below.refl _ _).alloc (Nat.le_refl _) _) q1, keepVg ((Below.refl _ _).alloc (Nat.le_refl _) _) q2, keepVg ((Below.refl _ _).alloc (Nat.le_refl _) _) q3, keepBelow ((Below.refl _ _).alloc (Nat.le_refl _) _) q4⟩)
          clear hK K hH
          have hH := hH2
          clear hH2
          try simp only [Act.put, List.setIfInBounds_toArray, List.set_cons_zero, List.set_cons_succ]
          have hP : VZ ((wz.alloc (.cells #[.int .i64 0, .int .i64 0] 24)).drew) wz.heap.size := VZ.drew (VZ.here wz 0 0 24)
          obtain ⟨gP, hgP⟩ : ∃ g, g = wz.heap.size := ⟨_, rfl⟩
          have hlP : gp + 1 < gP := by rw [hgP]; have h9 := VGlt q3; exact h9
          rw [← hgP] at hP
          try rw [← hgP]
          clear hgP q0 q1 q2 q3 q4
          generalize (wz.alloc (.cells #[.int .i64 0, .int .i64 0] 24)).drew = wx16 at *
          refine wpAnyU_ready (rs := [7, 17]) (by kernel_rfl) (by simp) ?_
          refine AllReadyU.cons 0 (by kernel_rfl) (o := _) rfl (fun K hK => ?_) ?_
          · try clear hb
            go_simp
            (go_at_call 23; refine (HWA.out _).mono ?_; rintro e wn ⟨rfl, hb⟩)
            refine hK.out _ _ ?hsr13_34 (fun hH2 => ?hrr13_34)
            case hsr13_34 => exact S2i0 (by have hG := hH; replace hG := S2o0 hG; (try dsimp only at hG); have q0 := hG.1; have q1 := hG.2.1; have q2 := hG.2.2.1; have q3 := hG.2.2.2.1; have q4 := hG.2.2.2.2; exact ⟨CellsE.below hb q0, keepJg hb q1, keepVg hb q2, keepVg hb q3, keepBelow hb q4⟩)
            clear hK K hH
            have hH := hH2
            clear hH2
            try simp only [Act.put, List.setIfInBounds_toArray, List.set_cons_zero, List.set_cons_succ]
            replace hP := keepVZ hb hP
            refine wpAnyU_ready (rs := [15, 17]) (by kernel_rfl) (by simp) ?_
            refine AllReadyU.cons 0 (by kernel_rfl) (o := _) rfl (fun K hK => ?_) ?_
            · try clear hb
              go_simp
              (go_at_call 23; refine (HWB.out _).mono ?_; rintro e wn ⟨rfl, hb⟩)
              refine hK.out _ _ ?hsr13_35 (fun hH2 => ?hrr13_35)
              case hsr13_35 => exact S2i0 (by have hG := hH; replace hG := S2o0 hG; (try dsimp only at hG); have q0 := hG.1; have q1 := hG.2.1; have q2 := hG.2.2.1; have q3 := hG.2.2.2.1; have q4 := hG.2.2.2.2; exact ⟨CellsE.below hb q0, keepJg hb q1, keepVg hb q2, keepVg hb q3, keepBelow hb q4⟩)
              clear hK K hH
              have hH := hH2
              clear hH2
              try simp only [Act.put, List.setIfInBounds_toArray, List.set_cons_zero, List.set_cons_succ]
              replace hP := keepVZ hb hP
              refine wpAnyU_ready (rs := [17]) (by kernel_rfl) (by simp) ?_
              refine AllReadyU.cons 0 (by kernel_rfl) (o := _) rfl (fun K hK => ?_) AllReadyU.nil
              try clear hb
              have hG := hH
              replace hG := S2o0 hG; (try dsimp only at hG); have q0 := hG.1; have q1 := hG.2.1; have q2 := hG.2.2.1; have q3 := hG.2.2.2.1; have q4 := hG.2.2.2.2
              have hZP := VZ.lt hP
              go_simp
              refine hK.out _ _ ?hsr13_36 (fun hH2 => ?hrr13_36)
              case hsr13_36 => exact S2i0 (by have hG := hH; replace hG := S2o0 hG; (try dsimp only at hG); have q0 := hG.1; have q1 := hG.2.1; have q2 := hG.2.2.1; have q3 := hG.2.2.2.1; have q4 := hG.2.2.2.2; exact ⟨CellsE.below ((Below.refl _ _).alloc (Nat.le_refl _) _) q0, keepJg ((Below.refl _ _).alloc (Nat.le_refl _) _) q1, keepVg ((Below.refl _ _).alloc (Nat.le_refl _) _) q2, keepVg ((Below.refl _ _).alloc (Nat.le_refl _) _) q3, keepBelow ((Below.refl _ _).alloc (Nat.le_refl _) _) q4⟩)
              clear hK K hH
              have hH := hH2
              clear hH2
              try simp only [Act.put, List.setIfInBounds_toArray, List.set_cons_zero, List.set_cons_succ]
              have hQ : VZ (wn.alloc (.cells #[.int .i64 0, .int .i64 0] 24)) wn.heap.size := VZ.here wn 0 0 24
              replace hP := keepVZ ((Below.refl _ _).alloc (Nat.le_refl _) (.cells #[.int .i64 0, .int .i64 0] 24)) hP
              obtain ⟨gQ, hgQ⟩ : ∃ g, g = wn.heap.size := ⟨_, rfl⟩
              have hlQ : gp + 1 < gQ ∧ gP < gQ := by rw [hgQ]; have h9 := VGlt q3; exact ⟨h9, hZP⟩
              rw [← hgQ] at hQ
              try rw [← hgQ]
              clear hgQ q0 q1 q2 q3 q4
              generalize wn.alloc (.cells #[.int .i64 0, .int .i64 0] 24) = wx17 at *
              refine wpAnyU_lst (l' := #[true, true, true, true, true, true, true, true, true, true, true, true, true, true, true, true, true, true, false, false]) (by kernel_rfl) ?_
              have hl2 : gp + 1 < gP ∧ gp + 1 < gQ ∧ gP ≠ gQ := by omega
              clear hlP hlQ
              try clear hZP
              try clear hZQ
              try clear hb
              revert hH
              revert hQ; revert hP
              revert hl2
              revert gQ; revert gP
              revert wx17
              exact hNr13.out
            refine AllReadyU.cons 0 (by kernel_rfl) (o := _) rfl (fun K hK => ?_) ?_
            · try clear hb
              have hG := hH
              replace hG := S2o0 hG; (try dsimp only at hG); have q0 := hG.1; have q1 := hG.2.1; have q2 := hG.2.2.1; have q3 := hG.2.2.2.1; have q4 := hG.2.2.2.2
              have hZP := VZ.lt hP
              go_simp
              refine hK.out _ _ ?hsr13_37 (fun hH2 => ?hrr13_37)
              case hsr13_37 => exact S2i0 (by have hG := hH; replace hG := S2o0 hG; (try dsimp only at hG); have q0 := hG.1; have q1 := hG.2.1; have q2 := hG.2.2.1; have q3 := hG.2.2.2.1; have q4 := hG.2.2.2.2; exact ⟨CellsE.below ((Below.refl _ _).alloc (Nat.le_refl _) _) q0, keepJg ((Below.refl _ _).alloc (Nat.le_refl _) _) q1, keepVg ((Below.refl _ _).alloc (Nat.le_refl _) _) q2, keepVg ((Below.refl _ _).alloc (Nat.le_refl _) _) q3, keepBelow ((Below.refl _ _).alloc (Nat.le_refl _) _) q4⟩)
              clear hK K hH
              have hH := hH2
              clear hH2
              try simp only [Act.put, List.setIfInBounds_toArray, List.set_cons_zero, List.set_cons_succ]
              have hQ : VZ (wn.alloc (.cells #[.int .i64 0, .int .i64 0] 24)) wn.heap.size := VZ.here wn 0 0 24
              replace hP := keepVZ ((Below.refl _ _).alloc (Nat.le_refl _) (.cells #[.int .i64 0, .int .i64 0] 24)) hP
              obtain ⟨gQ, hgQ⟩ : ∃ g, g = wn.heap.size := ⟨_, rfl⟩
              have hlQ : gp + 1 < gQ ∧ gP < gQ := by rw [hgQ]; have h9 := VGlt q3; exact ⟨h9, hZP⟩
              rw [← hgQ] at hQ
              try rw [← hgQ]
              clear hgQ q0 q1 q2 q3 q4
              generalize wn.alloc (.cells #[.int .i64 0, .int .i64 0] 24) = wx17 at *
              refine wpAnyU_ready (rs := [15]) (by kernel_rfl) (by simp) ?_
              refine AllReadyU.cons 0 (by kernel_rfl) (o := _) rfl (fun K hK => ?_) AllReadyU.nil
              try clear hb
              go_simp
              (go_at_call 23; refine (HWB.out _).mono ?_; rintro e wn ⟨rfl, hb⟩)
              refine hK.out _ _ ?hsr13_38 (fun hH2 => ?hrr13_38)
              case hsr13_38 => exact S2i0 (by have hG := hH; replace hG := S2o0 hG; (try dsimp only at hG); have q0 := hG.1; have q1 := hG.2.1; have q2 := hG.2.2.1; have q3 := hG.2.2.2.1; have q4 := hG.2.2.2.2; exact ⟨CellsE.below hb q0, keepJg hb q1, keepVg hb q2, keepVg hb q3, keepBelow hb q4⟩)
              clear hK K hH
              have hH := hH2
              clear hH2
              try simp only [Act.put, List.setIfInBounds_toArray, List.set_cons_zero, List.set_cons_succ]
              replace hP := keepVZ hb hP
              replace hQ := keepVZ hb hQ
              refine wpAnyU_lst (l' := #[true, true, true, true, true, true, true, true, true, true, true, true, true, true, true, true, true, true, false, false]) (by kernel_rfl) ?_
              have hl2 : gp + 1 < gP ∧ gp + 1 < gQ ∧ gP ≠ gQ := by omega
              clear hlP hlQ
              try clear hZP
              try clear hZQ
              try clear hb
              revert hH
              revert hQ; revert hP
              revert hl2
              revert gQ; revert gP
              revert wn
              exact hNr13.out
            exact AllReadyU.nil
          refine AllReadyU.cons 0 (by kernel_rfl) (o := _) rfl (fun K hK => ?_) ?_
          · try clear hb
            have hG := hH
            replace hG := S2o0 hG; (try dsimp only at hG); have q0 := hG.1; have q1 := hG.2.1; have q2 := hG.2.2.1; have q3 := hG.2.2.2.1; have q4 := hG.2.2.2.2
            have hZP := VZ.lt hP
            go_simp
            refine hK.out _ _ ?hsr13_39 (fun hH2 => ?hrr13_39)
            case hsr13_39 => exact S2i0 (by have hG := hH; replace hG := S2o0 hG; (try dsimp only at hG); have q0 := hG.1; have q1 := hG.2.1; have q2 := hG.2.2.1; have q3 := hG.2.2.2.1; have q4 := hG.2.2.2.2; exact ⟨CellsE.below ((Below.refl _ _).alloc (Nat.le_refl _) _) q0, keepJg ((Below.refl _ _).alloc (Nat.le_refl _) _) q1, keepVg ((Below.refl _ _).alloc (Nat.le_refl _) _) q2, keepVg ((Below.refl _ _).alloc (Nat.le_refl _) _) q3, keepBelow ((Below.refl _ _).alloc (Nat.le_refl _) _) q4⟩)
            clear hK K hH
            have hH := hH2
            clear hH2
            try simp only [Act.put, List.setIfInBounds_toArray, List.set_cons_zero, List.set_cons_succ]
            have hQ : VZ (wx16.alloc (.cells #[.int .i64 0, .int .i64 0] 24)) wx16.heap.size := VZ.here wx16 0 0 24
            replace hP := keepVZ ((Below.refl _ _).alloc (Nat.le_refl _) (.cells #[.int .i64 0, .int .i64 0] 24)) hP
            obtain ⟨gQ, hgQ⟩ : ∃ g, g = wx16.heap.size := ⟨_, rfl⟩
            have hlQ : gp + 1 < gQ ∧ gP < gQ := by rw [hgQ]; have h9 := VGlt q3; exact ⟨h9, hZP⟩
            rw [← hgQ] at hQ
            try rw [← hgQ]
            clear hgQ q0 q1 q2 q3 q4
            generalize wx16.alloc (.cells #[.int .i64 0, .int .i64 0] 24) = wx17 at *
            refine wpAnyU_ready (rs := [7]) (by kernel_rfl) (by simp) ?_
            refine AllReadyU.cons 0 (by kernel_rfl) (o := _) rfl (fun K hK => ?_) AllReadyU.nil
            try clear hb
            go_simp
            (go_at_call 23; refine (HWA.out _).mono ?_; rintro e wn ⟨rfl, hb⟩)
            refine hK.out _ _ ?hsr13_40 (fun hH2 => ?hrr13_40)
            case hsr13_40 => exact S2i0 (by have hG := hH; replace hG := S2o0 hG; (try dsimp only at hG); have q0 := hG.1; have q1 := hG.2.1; have q2 := hG.2.2.1; have q3 := hG.2.2.2.1; have q4 := hG.2.2.2.2; exact ⟨CellsE.below hb q0, keepJg hb q1, keepVg hb q2, keepVg hb q3, keepBelow hb q4⟩)
            clear hK K hH
            have hH := hH2
            clear hH2
            try simp only [Act.put, List.setIfInBounds_toArray, List.set_cons_zero, List.set_cons_succ]
            replace hP := keepVZ hb hP
            replace hQ := keepVZ hb hQ
            refine wpAnyU_ready (rs := [15]) (by kernel_rfl) (by simp) ?_
            refine AllReadyU.cons 0 (by kernel_rfl) (o := _) rfl (fun K hK => ?_) AllReadyU.nil
            try clear hb
            go_simp
            (go_at_call 23; refine (HWB.out _).mono ?_; rintro e wn ⟨rfl, hb⟩)
            refine hK.out _ _ ?hsr13_41 (fun hH2 => ?hrr13_41)
            case hsr13_41 => exact S2i0 (by have hG := hH; replace hG := S2o0 hG; (try dsimp only at hG); have q0 := hG.1; have q1 := hG.2.1; have q2 := hG.2.2.1; have q3 := hG.2.2.2.1; have q4 := hG.2.2.2.2; exact ⟨CellsE.below hb q0, keepJg hb q1, keepVg hb q2, keepVg hb q3, keepBelow hb q4⟩)
            clear hK K hH
            have hH := hH2
            clear hH2
            try simp only [Act.put, List.setIfInBounds_toArray, List.set_cons_zero, List.set_cons_succ]
            replace hP := keepVZ hb hP
            replace hQ := keepVZ hb hQ
            refine wpAnyU_lst (l' := #[true, true, true, true, true, true, true, true, true, true, true, true, true, true, true, true, true, true, false, false]) (by kernel_rfl) ?_
            have hl2 : gp + 1 < gP ∧ gp + 1 < gQ ∧ gP ≠ gQ := by omega
            clear hlP hlQ
            try clear hZP
            try clear hZQ
            try clear hb
            revert hH
            revert hQ; revert hP
            revert hl2
            revert gQ; revert gP
            revert wn
            exact hNr13.out
          exact AllReadyU.nil
        refine AllReadyU.cons 0 (by kernel_rfl) (o := _) rfl (fun K hK => ?_) ?_
        · try clear hb
          have hG := hH
          replace hG := S2o0 hG; (try dsimp only at hG); have q0 := hG.1; have q1 := hG.2.1; have q2 := hG.2.2.1; have q3 := hG.2.2.2.1; have q4 := hG.2.2.2.2
          go_simp
          refine hK.out _ _ ?hsr13_42 (fun hH2 => ?hrr13_42)
          case hsr13_42 => exact S2i0 (by have hG := hH; replace hG := S2o0 hG; (try dsimp only at hG); have q0 := hG.1; have q1 := hG.2.1; have q2 := hG.2.2.1; have q3 := hG.2.2.2.1; have q4 := hG.2.2.2.2; exact ⟨CellsE.below ((Below.refl _ _).alloc (Nat.le_refl _) _) q0, keepJg ((Below.refl _ _).alloc (Nat.le_refl _) _) q1, keepVg ((Below.refl _ _).alloc (Nat.le_refl _) _) q2, keepVg ((Below.refl _ _).alloc (Nat.le_refl _) _) q3, keepBelow ((Below.refl _ _).alloc (Nat.le_refl _) _) q4⟩)
          clear hK K hH
          have hH := hH2
          clear hH2
          try simp only [Act.put, List.setIfInBounds_toArray, List.set_cons_zero, List.set_cons_succ]
          have hQ : VZ ((wz.alloc (.cells #[.int .i64 0, .int .i64 0] 24)).drew) wz.heap.size := VZ.drew (VZ.here wz 0 0 24)
          obtain ⟨gQ, hgQ⟩ : ∃ g, g = wz.heap.size := ⟨_, rfl⟩
          have hlQ : gp + 1 < gQ := by rw [hgQ]; have h9 := VGlt q3; exact h9
          rw [← hgQ] at hQ
          try rw [← hgQ]
          clear hgQ q0 q1 q2 q3 q4
          generalize (wz.alloc (.cells #[.int .i64 0, .int .i64 0] 24)).drew = wx17 at *
          refine wpAnyU_ready (rs := [7, 16]) (by kernel_rfl) (by simp) ?_
          refine AllReadyU.cons 0 (by kernel_rfl) (o := _) rfl (fun K hK => ?_) ?_
          · try clear hb
            go_simp
            (go_at_call 23; refine (HWA.out _).mono ?_; rintro e wn ⟨rfl, hb⟩)
            refine hK.out _ _ ?hsr13_43 (fun hH2 => ?hrr13_43)
            case hsr13_43 => exact S2i0 (by have hG := hH; replace hG := S2o0 hG; (try dsimp only at hG); have q0 := hG.1; have q1 := hG.2.1; have q2 := hG.2.2.1; have q3 := hG.2.2.2.1; have q4 := hG.2.2.2.2; exact ⟨CellsE.below hb q0, keepJg hb q1, keepVg hb q2, keepVg hb q3, keepBelow hb q4⟩)
            clear hK K hH
            have hH := hH2
            clear hH2
            try simp only [Act.put, List.setIfInBounds_toArray, List.set_cons_zero, List.set_cons_succ]
            replace hQ := keepVZ hb hQ
            refine wpAnyU_ready (rs := [15, 16]) (by kernel_rfl) (by simp) ?_
            refine AllReadyU.cons 0 (by kernel_rfl) (o := _) rfl (fun K hK => ?_) ?_
            · try clear hb
              go_simp
              (go_at_call 23; refine (HWB.out _).mono ?_; rintro e wn ⟨rfl, hb⟩)
              refine hK.out _ _ ?hsr13_44 (fun hH2 => ?hrr13_44)
              case hsr13_44 => exact S2i0 (by have hG := hH; replace hG := S2o0 hG; (try dsimp only at hG); have q0 := hG.1; have q1 := hG.2.1; have q2 := hG.2.2.1; have q3 := hG.2.2.2.1; have q4 := hG.2.2.2.2; exact ⟨CellsE.below hb q0, keepJg hb q1, keepVg hb q2, keepVg hb q3, keepBelow hb q4⟩)
              clear hK K hH
              have hH := hH2
              clear hH2
              try simp only [Act.put, List.setIfInBounds_toArray, List.set_cons_zero, List.set_cons_succ]
              replace hQ := keepVZ hb hQ
              refine wpAnyU_ready (rs := [16]) (by kernel_rfl) (by simp) ?_
              refine AllReadyU.cons 0 (by kernel_rfl) (o := _) rfl (fun K hK => ?_) AllReadyU.nil
              try clear hb
              have hG := hH
              replace hG := S2o0 hG; (try dsimp only at hG); have q0 := hG.1; have q1 := hG.2.1; have q2 := hG.2.2.1; have q3 := hG.2.2.2.1; have q4 := hG.2.2.2.2
              have hZQ := VZ.lt hQ
              go_simp
              refine hK.out _ _ ?hsr13_45 (fun hH2 => ?hrr13_45)
              case hsr13_45 => exact S2i0 (by have hG := hH; replace hG := S2o0 hG; (try dsimp only at hG); have q0 := hG.1; have q1 := hG.2.1; have q2 := hG.2.2.1; have q3 := hG.2.2.2.1; have q4 := hG.2.2.2.2; exact ⟨CellsE.below ((Below.refl _ _).alloc (Nat.le_refl _) _) q0, keepJg ((Below.refl _ _).alloc (Nat.le_refl _) _) q1, keepVg ((Below.refl _ _).alloc (Nat.le_refl _) _) q2, keepVg ((Below.refl _ _).alloc (Nat.le_refl _) _) q3, keepBelow ((Below.refl _ _).alloc (Nat.le_refl _) _) q4⟩)
              clear hK K hH
              have hH := hH2
              clear hH2
              try simp only [Act.put, List.setIfInBounds_toArray, List.set_cons_zero, List.set_cons_succ]
              have hP : VZ (wn.alloc (.cells #[.int .i64 0, .int .i64 0] 24)) wn.heap.size := VZ.here wn 0 0 24
              replace hQ := keepVZ ((Below.refl _ _).alloc (Nat.le_refl _) (.cells #[.int .i64 0, .int .i64 0] 24)) hQ
              obtain ⟨gP, hgP⟩ : ∃ g, g = wn.heap.size := ⟨_, rfl⟩
              have hlP : gp + 1 < gP ∧ gQ < gP := by rw [hgP]; have h9 := VGlt q3; exact ⟨h9, hZQ⟩
              rw [← hgP] at hP
              try rw [← hgP]
              clear hgP q0 q1 q2 q3 q4
              generalize wn.alloc (.cells #[.int .i64 0, .int .i64 0] 24) = wx16 at *
              refine wpAnyU_lst (l' := #[true, true, true, true, true, true, true, true, true, true, true, true, true, true, true, true, true, true, false, false]) (by kernel_rfl) ?_
              have hl2 : gp + 1 < gP ∧ gp + 1 < gQ ∧ gP ≠ gQ := by omega
              clear hlP hlQ
              try clear hZP
              try clear hZQ
              try clear hb
              revert hH
              revert hQ; revert hP
              revert hl2
              revert gQ; revert gP
              revert wx16
              exact hNr13.out
            refine AllReadyU.cons 0 (by kernel_rfl) (o := _) rfl (fun K hK => ?_) ?_
            · try clear hb
              have hG := hH
              replace hG := S2o0 hG; (try dsimp only at hG); have q0 := hG.1; have q1 := hG.2.1; have q2 := hG.2.2.1; have q3 := hG.2.2.2.1; have q4 := hG.2.2.2.2
              have hZQ := VZ.lt hQ
              go_simp
              refine hK.out _ _ ?hsr13_46 (fun hH2 => ?hrr13_46)
              case hsr13_46 => exact S2i0 (by have hG := hH; replace hG := S2o0 hG; (try dsimp only at hG); have q0 := hG.1; have q1 := hG.2.1; have q2 := hG.2.2.1; have q3 := hG.2.2.2.1; have q4 := hG.2.2.2.2; exact ⟨CellsE.below ((Below.refl _ _).alloc (Nat.le_refl _) _) q0, keepJg ((Below.refl _ _).alloc (Nat.le_refl _) _) q1, keepVg ((Below.refl _ _).alloc (Nat.le_refl _) _) q2, keepVg ((Below.refl _ _).alloc (Nat.le_refl _) _) q3, keepBelow ((Below.refl _ _).alloc (Nat.le_refl _) _) q4⟩)
              clear hK K hH
              have hH := hH2
              clear hH2
              try simp only [Act.put, List.setIfInBounds_toArray, List.set_cons_zero, List.set_cons_succ]
              have hP : VZ (wn.alloc (.cells #[.int .i64 0, .int .i64 0] 24)) wn.heap.size := VZ.here wn 0 0 24
              replace hQ := keepVZ ((Below.refl _ _).alloc (Nat.le_refl _) (.cells #[.int .i64 0, .int .i64 0] 24)) hQ
              obtain ⟨gP, hgP⟩ : ∃ g, g = wn.heap.size := ⟨_, rfl⟩
              have hlP : gp + 1 < gP ∧ gQ < gP := by rw [hgP]; have h9 := VGlt q3; exact ⟨h9, hZQ⟩
              rw [← hgP] at hP
              try rw [← hgP]
              clear hgP q0 q1 q2 q3 q4
              generalize wn.alloc (.cells #[.int .i64 0, .int .i64 0] 24) = wx16 at *
              refine wpAnyU_ready (rs := [15]) (by kernel_rfl) (by simp) ?_
              refine AllReadyU.cons 0 (by kernel_rfl) (o := _) rfl (fun K hK => ?_) AllReadyU.nil
              try clear hb
              go_simp
              (go_at_call 23; refine (HWB.out _).mono ?_; rintro e wn ⟨rfl, hb⟩)
              refine hK.out _ _ ?hsr13_47 (fun hH2 => ?hrr13_47)
              case hsr13_47 => exact S2i0 (by have hG := hH; replace hG := S2o0 hG; (try dsimp only at hG); have q0 := hG.1; have q1 := hG.2.1; have q2 := hG.2.2.1; have q3 := hG.2.2.2.1; have q4 := hG.2.2.2.2; exact ⟨CellsE.below hb q0, keepJg hb q1, keepVg hb q2, keepVg hb q3, keepBelow hb q4⟩)
              clear hK K hH
              have hH := hH2
              clear hH2
              try simp only [Act.put, List.setIfInBounds_toArray, List.set_cons_zero, List.set_cons_succ]
              replace hP := keepVZ hb hP
              replace hQ := keepVZ hb hQ
              refine wpAnyU_lst (l' := #[true, true, true, true, true, true, true, true, true, true, true, true, true, true, true, true, true, true, false, false]) (by kernel_rfl) ?_
              have hl2 : gp + 1 < gP ∧ gp + 1 < gQ ∧ gP ≠ gQ := by omega
              clear hlP hlQ
              try clear hZP
              try clear hZQ
              try clear hb
              revert hH
              revert hQ; revert hP
              revert hl2
              revert gQ; revert gP
              revert wn
              exact hNr13.out
            exact AllReadyU.nil
          refine AllReadyU.cons 0 (by kernel_rfl) (o := _) rfl (fun K hK => ?_) ?_
          · try clear hb
            have hG := hH
            replace hG := S2o0 hG; (try dsimp only at hG); have q0 := hG.1; have q1 := hG.2.1; have q2 := hG.2.2.1; have q3 := hG.2.2.2.1; have q4 := hG.2.2.2.2
            have hZQ := VZ.lt hQ
            go_simp
            refine hK.out _ _ ?hsr13_48 (fun hH2 => ?hrr13_48)
            case hsr13_48 => exact S2i0 (by have hG := hH; replace hG := S2o0 hG; (try dsimp only at hG); have q0 := hG.1; have q1 := hG.2.1; have q2 := hG.2.2.1; have q3 := hG.2.2.2.1; have q4 := hG.2.2.2.2; exact ⟨CellsE.below ((Below.refl _ _).alloc (Nat.le_refl _) _) q0, keepJg ((Below.refl _ _).alloc (Nat.le_refl _) _) q1, keepVg ((Below.refl _ _).alloc (Nat.le_refl _) _) q2, keepVg ((Below.refl _ _).alloc (Nat.le_refl _) _) q3, keepBelow ((Below.refl _ _).alloc (Nat.le_refl _) _) q4⟩)
            clear hK K hH
            have hH := hH2
            clear hH2
            try simp only [Act.put, List.setIfInBounds_toArray, List.set_cons_zero, List.set_cons_succ]
            have hP : VZ (wx17.alloc (.cells #[.int .i64 0, .int .i64 0] 24)) wx17.heap.size := VZ.here wx17 0 0 24
            replace hQ := keepVZ ((Below.refl _ _).alloc (Nat.le_refl _) (.cells #[.int .i64 0, .int .i64 0] 24)) hQ
            obtain ⟨gP, hgP⟩ : ∃ g, g = wx17.heap.size := ⟨_, rfl⟩
            have hlP : gp + 1 < gP ∧ gQ < gP := by rw [hgP]; have h9 := VGlt q3; exact ⟨h9, hZQ⟩
            rw [← hgP] at hP
            try rw [← hgP]
            clear hgP q0 q1 q2 q3 q4
            generalize wx17.alloc (.cells #[.int .i64 0, .int .i64 0] 24) = wx16 at *
            refine wpAnyU_ready (rs := [7]) (by kernel_rfl) (by simp) ?_
            refine AllReadyU.cons 0 (by kernel_rfl) (o := _) rfl (fun K hK => ?_) AllReadyU.nil
            try clear hb
            go_simp
            (go_at_call 23; refine (HWA.out _).mono ?_; rintro e wn ⟨rfl, hb⟩)
            refine hK.out _ _ ?hsr13_49 (fun hH2 => ?hrr13_49)
            case hsr13_49 => exact S2i0 (by have hG := hH; replace hG := S2o0 hG; (try dsimp only at hG); have q0 := hG.1; have q1 := hG.2.1; have q2 := hG.2.2.1; have q3 := hG.2.2.2.1; have q4 := hG.2.2.2.2; exact ⟨CellsE.below hb q0, keepJg hb q1, keepVg hb q2, keepVg hb q3, keepBelow hb q4⟩)
            clear hK K hH
            have hH := hH2
            clear hH2
            try simp only [Act.put, List.setIfInBounds_toArray, List.set_cons_zero, List.set_cons_succ]
            replace hP := keepVZ hb hP
            replace hQ := keepVZ hb hQ
            refine wpAnyU_ready (rs := [15]) (by kernel_rfl) (by simp) ?_
            refine AllReadyU.cons 0 (by kernel_rfl) (o := _) rfl (fun K hK => ?_) AllReadyU.nil
            try clear hb
            go_simp
            (go_at_call 23; refine (HWB.out _).mono ?_; rintro e wn ⟨rfl, hb⟩)
            refine hK.out _ _ ?hsr13_50 (fun hH2 => ?hrr13_50)
            case hsr13_50 => exact S2i0 (by have hG := hH; replace hG := S2o0 hG; (try dsimp only at hG); have q0 := hG.1; have q1 := hG.2.1; have q2 := hG.2.2.1; have q3 := hG.2.2.2.1; have q4 := hG.2.2.2.2; exact ⟨CellsE.below hb q0, keepJg hb q1, keepVg hb q2, keepVg hb q3, keepBelow hb q4⟩)
            clear hK K hH
            have hH := hH2
            clear hH2
            try simp only [Act.put, List.setIfInBounds_toArray, List.set_cons_zero, List.set_cons_succ]
            replace hP := keepVZ hb hP
            replace hQ := keepVZ hb hQ
            refine wpAnyU_lst (l' := #[true, true, true, true, true, true, true, true, true, true, true, true, true, true, true, true, true, true, false, false]) (by kernel_rfl) ?_
            have hl2 : gp + 1 < gP ∧ gp + 1 < gQ ∧ gP ≠ gQ := by omega
            clear hlP hlQ
            try clear hZP
            try clear hZQ
            try clear hb
            revert hH
            revert hQ; revert hP
            revert hl2
            revert gQ; revert gP
            revert wn
            exact hNr13.out
          exact AllReadyU.nil
        exact AllReadyU.nil
      case prfr13 =>
        intro wX gP gQ hl2 hP hQ hH
        have hWr13 : Weaker (S2 (fun w' => CellsE layB w' bA oA L ∧ Jg w' gx x ∧ Vg w' gp e1 e2 ∧ Vg w' (gp + 1) e3 e4 ∧ Below w.heap.size w w')) := weaker2 _
        refine wpAnyU_ready (rs := [18]) (by kernel_rfl) (by simp) ?_
        refine AllReadyU.cons 1 (by kernel_rfl) (o := _) rfl (fun K hK => ?_) AllReadyU.nil
        try clear hb
        have hG := hH
        replace hG := S2o0 hG; (try dsimp only at hG); have q0 := hG.1; have q1 := hG.2.1; have q2 := hG.2.2.1; have q3 := hG.2.2.2.1; have q4 := hG.2.2.2.2
        have HCE1 := hid q0
        have HJG1 := hid q1
        have HVP1 := hid q2
        have HVQ1 := hid q3
        have HBW1 := hid q4
        obtain ⟨⟨vv0, vv1, y0, y1⟩, yf⟩ := hP
        obtain ⟨⟨vv2, vv3, y2, y3⟩, yf2⟩ := hQ
        have hne : ¬ gP = gQ := hl2.2.2
        have hne' : ¬ gQ = gP := fun h => hl2.2.2 h.symm
        clear hG q0 q1 q2 q3 q4
        go_simp
        refine hK.out _ _ ?hsr13_19 (fun hH2 => ?hrr13_19)
        case hsr13_19 => exact S2i1
        clear hK K hH
        have hH := hH2
        clear hH2
        try simp only [Act.put, List.setIfInBounds_toArray, List.set_cons_zero, List.set_cons_succ]
        refine wpAnyU_ready (rs := [19]) (by kernel_rfl) (by simp) ?_
        refine AllReadyU.cons 1 (by kernel_rfl) (o := _) rfl (fun K hK => ?_) AllReadyU.nil
        go_simp
        refine hK.out _ _ ?hsr13_20 (fun hH2 => ?hrr13_20)
        case hsr13_20 => exact S2i1
        clear hK K hH
        have hH := hH2
        clear hH2
        try simp only [Act.put, List.setIfInBounds_toArray, List.set_cons_zero, List.set_cons_succ]
        refine wpAnyU_done (by kernel_rfl) ?_ _ _
        refine NoPanic.normal ?_
        obtain ⟨w5, hw5⟩ : ∃ w5, w5 = (((wX.setCell ⟨gP, 0, none⟩ (.int .i64 e1)).setCell ⟨gP, 1, none⟩ (.int .i64 e2)).setCell ⟨gQ, 0, none⟩ (.int .i64 e3)).setCell ⟨gQ, 1, none⟩ (.int .i64 e4) := ⟨_, rfl⟩
        have HJG2 := hid ((((HJG1.out.next (grown_setCell _ gP 0 (.int .i64 e1)) (by omega)).next (grown_setCell _ gP 1 (.int .i64 e2)) (by omega)).next (grown_setCell _ gQ 0 (.int .i64 e3)) (by omega)).next (grown_setCell _ gQ 1 (.int .i64 e4)) (by omega))
        have HVP2 := hid ((((HVP1.out.next (grown_setCell _ gP 0 (.int .i64 e1)) (by omega)).next (grown_setCell _ gP 1 (.int .i64 e2)) (by omega)).next (grown_setCell _ gQ 0 (.int .i64 e3)) (by omega)).next (grown_setCell _ gQ 1 (.int .i64 e4)) (by omega))
        have HVQ2 := hid ((((HVQ1.out.next (grown_setCell _ gP 0 (.int .i64 e1)) (by omega)).next (grown_setCell _ gP 1 (.int .i64 e2)) (by omega)).next (grown_setCell _ gQ 0 (.int .i64 e3)) (by omega)).next (grown_setCell _ gQ 1 (.int .i64 e4)) (by omega))
        have HWP2 : Hid (Vg w5 gP e1 e2) := by show Vg _ _ _ _; rw [hw5]; exact ⟨by go_simp, by go_simp⟩
        have HWQ2 : Hid (Vg w5 gQ e3 e4) := by show Vg _ _ _ _; rw [hw5]; exact ⟨by go_simp, by go_simp⟩
        have HBW2 := hid ((((HBW1.out.setCell (p := ⟨gP, 0, none⟩) (by show w.heap.size ≤ gP; omega) (.int .i64 e1)).setCell (p := ⟨gP, 1, none⟩) (by show w.heap.size ≤ gP; omega) (.int .i64 e2)).setCell (p := ⟨gQ, 0, none⟩) (by show w.heap.size ≤ gQ; omega) (.int .i64 e3)).setCell (p := ⟨gQ, 1, none⟩) (by show w.heap.size ≤ gQ; omega) (.int .i64 e4))
        rw [← hw5] at HJG2 HVP2 HVQ2 HBW2
        clear HCE1 HJG1 HVP1 HVQ1 HBW1 y0 y1 yf y2 y3 yf2
        try clear hH
        go_upto_region 15 with fail
        rw [← hw5]
        clear hw5
        refine wp_region_noPanic ?_
        refine wp_region_U (S := (S2 (fun w' => Jg w' gx x ∧ Vg w' gp e1 e2 ∧ Vg w' (gp + 1) e3 e4 ∧ Vg w' gP e1 e2 ∧ Vg w' gQ e3 e4 ∧ Below w.heap.size w w'))) (T := (fun _ => 0)) (by kernel_rfl) (S2i0 ⟨HJG2.out.drew, HVP2.out.drew, HVQ2.out.drew, HWP2.out.drew, HWQ2.out.drew, HBW2.out.drew⟩) (fun hH => ?_)
        have hWr12 : Weaker (S2 (fun w' => Jg w' gx x ∧ Vg w' gp e1 e2 ∧ Vg w' (gp + 1) e3 e4 ∧ Vg w' gP e1 e2 ∧ Vg w' gQ e3 e4 ∧ Below w.heap.size w w')) := weaker2 _
        refine U_take 0 90 7 0 0 (v := ?vr12_1) rfl (by kernel_rfl) (by kernel_rfl) hWr12 (by kernel_rfl) (by kernel_rfl) (by kernel_rfl) (by kernel_rfl) (by kernel_rfl) (by kernel_rfl) (fun _ _ _ _ h => h) (by kernel_rfl) ?hyr12_1 (by omega) hH ?_
        case hyr12_1 => (intro w' hSw; replace hSw := S2o0 hSw; (try dsimp only at hSw); have q0 := hSw.1; have q1 := hSw.2.1; have q2 := hSw.2.2.1; have q3 := hSw.2.2.2.1; have q4 := hSw.2.2.2.2.1; have q5 := hSw.2.2.2.2.2; obtain ⟨qa0_0, qa0_1, qa0_2, qa0_3, qa0_4, qa0_5, qa0_6⟩ := id q0; obtain ⟨qa1_0, qa1_1⟩ := id q1; obtain ⟨qa2_0, qa2_1⟩ := id q2; obtain ⟨qa3_0, qa3_1⟩ := id q3; obtain ⟨qa4_0, qa4_1⟩ := id q4; go_simp; try (with_reducible rfl))
        simp only [List.set_cons_zero, List.set_cons_succ]
        refine U_take 1 91 6 0 0 (v := ?vr12_2) rfl (by kernel_rfl) (by kernel_rfl) hWr12 (by kernel_rfl) (by kernel_rfl) (by kernel_rfl) (by kernel_rfl) (by kernel_rfl) (by kernel_rfl) (fun _ _ _ _ h => h) (by kernel_rfl) ?hyr12_2 (by omega) hH ?_
        case hyr12_2 => (intro w' hSw; replace hSw := S2o0 hSw; (try dsimp only at hSw); have q0 := hSw.1; have q1 := hSw.2.1; have q2 := hSw.2.2.1; have q3 := hSw.2.2.2.1; have q4 := hSw.2.2.2.2.1; have q5 := hSw.2.2.2.2.2; obtain ⟨qa0_0, qa0_1, qa0_2, qa0_3, qa0_4, qa0_5, qa0_6⟩ := id q0; obtain ⟨qa1_0, qa1_1⟩ := id q1; obtain ⟨qa2_0, qa2_1⟩ := id q2; obtain ⟨qa3_0, qa3_1⟩ := id q3; obtain ⟨qa4_0, qa4_1⟩ := id q4; go_simp; try (with_reducible rfl))
        simp only [List.set_cons_zero, List.set_cons_succ]
        refine U_take 4 94 5 0 0 (v := ?vr12_3) rfl (by kernel_rfl) (by kernel_rfl) hWr12 (by kernel_rfl) (by kernel_rfl) (by kernel_rfl) (by kernel_rfl) (by kernel_rfl) (by kernel_rfl) (fun _ _ _ _ h => h) (by kernel_rfl) ?hyr12_3 (by omega) hH ?_
        case hyr12_3 => (intro w' hSw; clear hSw; go_simp; try (with_reducible rfl))
        simp only [List.set_cons_zero, List.set_cons_succ]
        refine U_take 5 95 4 0 0 (v := ?vr12_4) rfl (by kernel_rfl) (by kernel_rfl) hWr12 (by kernel_rfl) (by kernel_rfl) (by kernel_rfl) (by kernel_rfl) (by kernel_rfl) (by kernel_rfl) (fun _ _ _ _ h => h) (by kernel_rfl) ?hyr12_4 (by omega) hH ?_
        case hyr12_4 => (intro w' hSw; replace hSw := S2o0 hSw; (try dsimp only at hSw); have q0 := hSw.1; have q1 := hSw.2.1; have q2 := hSw.2.2.1; have q3 := hSw.2.2.2.1; have q4 := hSw.2.2.2.2.1; have q5 := hSw.2.2.2.2.2; obtain ⟨qa0_0, qa0_1, qa0_2, qa0_3, qa0_4, qa0_5, qa0_6⟩ := id q0; obtain ⟨qa1_0, qa1_1⟩ := id q1; obtain ⟨qa2_0, qa2_1⟩ := id q2; obtain ⟨qa3_0, qa3_1⟩ := id q3; obtain ⟨qa4_0, qa4_1⟩ := id q4; go_simp; try (with_reducible rfl))
        simp only [List.set_cons_zero, List.set_cons_succ]
        refine wpAnyU_ready (rs := [2]) (by kernel_rfl) (by simp) ?_
        refine AllReadyU.cons 0 (by kernel_rfl) (o := _) rfl (fun K hK => ?_) AllReadyU.nil
        try clear hb
        go_simp
        (go_at_call 25; refine (HSUB.out _).mono ?_; rintro e wn ⟨rfl, hb⟩)
        refine hK.out _ _ ?hsr12_5 (fun hH2 => ?hrr12_5)
        case hsr12_5 => exact S2i0 (by have hG := hH; replace hG := S2o0 hG; (try dsimp only at hG); have q0 := hG.1; have q1 := hG.2.1; have q2 := hG.2.2.1; have q3 := hG.2.2.2.1; have q4 := hG.2.2.2.2.1; have q5 := hG.2.2.2.2.2; exact ⟨keepJg hb q0, keepVg hb q1, keepVg hb q2, keepVg hb q3, keepVg hb q4, keepBelow hb q5⟩)
        clear hK K hH
        have hH := hH2
        clear hH2
        try simp only [Act.put, List.setIfInBounds_toArray, List.set_cons_zero, List.set_cons_succ]
        refine wpAnyU_ready (rs := [3]) (by kernel_rfl) (by simp) ?_
        refine AllReadyU.cons 0 (by kernel_rfl) (o := _) rfl (fun K hK => ?_) AllReadyU.nil
        try clear hb
        go_simp
        (go_at_call 24; refine (HLE2.out _).mono ?_; rintro e wn ⟨rfl, hb⟩)
        refine hK.out _ _ ?hsr12_6 (fun hH2 => ?hrr12_6)
        case hsr12_6 => exact S2i0 (by have hG := hH; replace hG := S2o0 hG; (try dsimp only at hG); have q0 := hG.1; have q1 := hG.2.1; have q2 := hG.2.2.1; have q3 := hG.2.2.2.1; have q4 := hG.2.2.2.2.1; have q5 := hG.2.2.2.2.2; exact ⟨keepJg hb q0, keepVg hb q1, keepVg hb q2, keepVg hb q3, keepVg hb q4, keepBelow hb q5⟩)
        clear hK K hH
        have hH := hH2
        clear hH2
        try simp only [Act.put, List.setIfInBounds_toArray, List.set_cons_zero, List.set_cons_succ]
        refine U_take 6 96 1 0 0 (v := ?vr12_7) rfl (by kernel_rfl) (by kernel_rfl) hWr12 (by kernel_rfl) (by kernel_rfl) (by kernel_rfl) (by kernel_rfl) (by kernel_rfl) (by kernel_rfl) (fun _ _ _ _ h => h) (by kernel_rfl) ?hyr12_7 (by omega) hH ?_
        case hyr12_7 => (intro w' hSw; clear hSw; go_simp; try (with_reducible rfl))
        simp only [List.set_cons_zero, List.set_cons_succ]
        refine U_take 7 19 0 0 0 (v := ?vr12_8) rfl (by kernel_rfl) (by kernel_rfl) hWr12 (by kernel_rfl) (by kernel_rfl) (by kernel_rfl) (by kernel_rfl) (by kernel_rfl) (by kernel_rfl) (fun _ _ _ _ h => h) (by kernel_rfl) ?hyr12_8 (by omega) hH ?_
        case hyr12_8 => (intro w' hSw; clear hSw; go_simp; try (with_reducible rfl))
        simp only [List.set_cons_zero, List.set_cons_succ]
        refine wpAnyU_done (by kernel_rfl) ?_ _ _
        refine NoPanic.normal ?_
        clear hWr12
        replace hH := S2o0 hH
        (try dsimp only at hH)
        have t0 := hH.1
        have t1 := hH.2.1
        have t2 := hH.2.2.1
        have t3 := hH.2.2.2.1
        have t4 := hH.2.2.2.2.1
        have t5 := hH.2.2.2.2.2
        obtain ⟨q1, q2⟩ := t1
        obtain ⟨q3, q4⟩ := t2
        obtain ⟨q5, q6⟩ := t3
        obtain ⟨q7, q8⟩ := t4
        have HBE := hid t5
        clear hH t0 t5
        try clear hb
        have HEA := run_eqVJ e1 e2 e1 e2
        have HEB := run_eqVJ e3 e4 e3 e4
        simp only [beq_self_eq_true, Bool.and_self] at HEA HEB
        go_wp2
        go_roundw
        case rel => exact ⟨k + 1, by omega, by go_num, HBE.out⟩
        case measure => simp [intOf] <;> omega
    · have hkn : k = m := by omega
      subst hkn
      have HRE1 : Hid (jointsE L J ≠ 0 → runE L J st r = jointsE L J) := fun h => by unfold runE; rw [if_pos h]
      have HRE2 : Hid (jointsE L J = 0 → (st < 1 ∨ 65536 < st ∨ r < 0 ∨ 32 < r) → runE L J st r = 1) := fun h h2 => by unfold runE; rw [if_neg (by simp [h]), if_pos h2]
      have HRE3 : Hid (jointsE L J = 0 → ¬ (st < 1 ∨ 65536 < st ∨ r < 0 ∨ 32 < r) → runE L J st r = 0) := fun h h2 => by unfold runE; rw [if_neg (by simp [h]), if_neg h2]
      have HPL : Hid (jointsE L J = 0 → (1 ≤ st ∧ st ≤ 65536) → (0 ≤ r ∧ r ≤ 32) → ∀ w', Below w.heap.size w w' → Calls Try.prog 28 #[.slice A L.length c, .slice B J.length c', .int .i64 st, .int .i64 r] w' fun e w'' => ∃ A' n' c' L', e = .returned (.slice A' n' c') ∧ SlB w'' A' n' c' L' ∧ L'.map valB = runQ L J st r ∧ Below w'.heap.size w' w'') := fun hE h1 h2 w' hb => by
        obtain ⟨hbe, hj32, hjs⟩ := jointsE_zero hE
        obtain ⟨h64, hval⟩ := bodiesE_zero hbe
        have := rPull_calls A B L.length c J.length c' L J st r.toNat w' (HS.out.below hb) (HJ.out.below hb) h64 hval hj32 hjs (by omega)
        rw [show runQ L J st r = roundsQ (L.map valB) J st r.toNat by unfold runQ; rw [if_pos (HRE3.out hE (by omega))]]
        rwa [Int.toNat_of_nonneg h2.1] at this
      have HRQ : Hid (runE L J st r ≠ 0 → runQ L J st r = []) := fun h => by unfold runQ; rw [if_neg h]
      go_wp2_with fail
      refine (jrun_calls A B L.length c J.length c' L J st r _ (HS.out.below hB) (HJ.out.below hB)).mono ?_
      rintro e w2 ⟨A2, n2, c2, L2, rfl, hs2, hm2, hb2⟩
      have HS2 := hid hs2
      have HM2 := hid hm2
      have hB2 := keepBelow hb2 hB
      have hn2 := hs2.sl.len
      subst hn2
      clear hb2 hs2 hm2 hB
      go_wp2_with fail
      refine (rjoints_calls A B L.length c J.length c' L J _ (HS.out.below hB2) (HJ.out.below hB2)).mono ?_
      rintro e w3 ⟨rfl, hb3⟩
      have hB3 := keepBelow hb3 hB2
      replace HS2 := hid (HS2.out.below hb3)
      clear hb3 hB2
      go_wp2_with fail
      refine (jcheck_calls A B L.length c J.length c' L J _ (HS.out.below hB3) (HJ.out.below hB3)).mono ?_
      rintro e w4 ⟨rfl, hb4⟩
      have hB4 := keepBelow hb4 hB3
      replace HS2 := hid (HS2.out.below hb4)
      clear hb4 hB3
      have HN0 : Hid (runE L J st r ≠ 0 → L2 = []) := fun h => by have h1 := HM2.out; rw [HRQ.out h] at h1; simpa using h1
      by_cases hE : jointsE L J = 0
      case neg =>
        have hre := HRE1.out hE
        have hn0 := HN0.out (by rw [hre]; exact hE)
        have hne : (jointsE L J != 0) = true := by simp [hE]
        have hne2 : (jointsE L J == 0) = false := by simp [hE]
        rw [hre]
        clear hre HRE1 HRE2 HRE3 HRQ HPL HN0 HM2 HS2
        subst hn0
        generalize jointsE L J = z at *
        go_wp2
        go_returns
        exact ret_bool (by simp) hB4
      by_cases hbad : st < 1 ∨ 65536 < st ∨ r < 0 ∨ 32 < r
      · have hre := HRE2.out hE hbad
        have hn0 := HN0.out (by rw [hre]; decide)
        rw [hre, hE]
        clear hre HRE1 HRE2 HRE3 HRQ HPL HN0 HM2 HS2 hE
        subst hn0
        by_cases c1 : st < 1
        · go_wp2
          go_returns
          exact ret_bool (by simp) hB4
        by_cases c2 : 65536 < st
        · go_wp2
          go_returns
          exact ret_bool (by simp) hB4
        by_cases c3 : r < 0
        · go_wp2
          go_returns
          exact ret_bool (by simp) hB4
        have c4 : 32 < r := by omega
        go_wp2
        go_returns
        exact ret_bool (by simp) hB4
      have hre := HRE3.out hE hbad
      have g1 : ¬ st < 1 := fun h => hbad (.inl h)
      have g2 : ¬ 65536 < st := fun h => hbad (.inr (.inl h))
      have g3 : ¬ r < 0 := fun h => hbad (.inr (.inr (.inl h)))
      have g4 : ¬ 32 < r := fun h => hbad (.inr (.inr (.inr h)))
      have HPC := hid (HPL.out hE ⟨by omega, by omega⟩ ⟨by omega, by omega⟩)
      rw [hre, hE]
      clear hre HRE1 HRE2 HRE3 HRQ HPL HN0 hE hbad
      go_wp2_with fail
      refine (HPC.out _ hB4).mono ?_
      rintro e w5 ⟨A3, n3, c3, L3, rfl, hs3, hm3, hb5⟩
      have hB5 := keepBelow hb5 hB4
      have HSB := hid (rsameBodies_calls A2 A3 L2.length c2 n3 c3 L2 L3 w5 (HS2.out.below hb5) hs3 (by rw [HM2.out, hm3]))
      clear hb5 hs3 hm3 hB4
      go_wp2_with fail
      refine HSB.out.mono ?_
      rintro e w6 ⟨rfl, hb6⟩
      have hB6 := keepBelow hb6 hB5
      clear hb6 hB5 HSB
      go_wp2
      go_returns
      exact ret_bool (by simp) hB6
end
end Go.Proofs.Ytbajmekmpgfpeaa
