/- Parts of a proof: contracts and laws. -/
import Derived.Test.YtienmhgbildhhaaA40
import Derived.Test.YtienmhgbildhhaaA51
namespace Go.Proofs.Ytienmhgbildhhaa
section
set_option linter.unusedVariables false
set_option linter.unusedSimpArgs false
open Go.RowKit
set_option maxRecDepth 100000 in
set_option maxHeartbeats 16000000 in
theorem rayShapes_walk (B A : Option Addr) (m d n c : Nat) (L : List BE) (p : List V) (ux uy : Int) (w : World) (hS0 : SlB w B m d L) (hS1 : Sl w A n c p) : Calls Try.prog 7 #[.slice B m d, .slice A n c, vecV ux uy] w (Ret (.bool true) w) := by
  obtain rfl : m = L.length := hS0.sl.len
  have HSB := hid hS0
  have HSP := hid hS1
  clear hS0 hS1
  obtain ⟨W, hW⟩ : ∃ W, W = (w.alloc (.cells #[.slice A n c] 25)).alloc (.cells #[.int .i64 ux, .int .i64 uy] 24) := ⟨_, rfl⟩
  have p0 : W.cell? ⟨w.heap.size, 0, none⟩ = some (.slice A n c) := by rw [hW]; go_simp
  have u0 : W.cell? ⟨w.heap.size + 1, 0, none⟩ = some (.int .i64 ux) := by rw [hW]; go_simp
  have u1 : W.cell? ⟨w.heap.size + 1, 1, none⟩ = some (.int .i64 uy) := by rw [hW]; go_simp
  have hB : Below w.heap.size w W := by rw [hW]; go_grown
  have HSH := hid (fun (w' : World) (hb : Below w.heap.size w w') => rayShape_calls B A L.length d n c L p ux uy w' (HSB.out.below hb) (HSP.out.below hb))
  have HME := hid (fun (w' : World) (hb : Below w.heap.size w w') => rayMeet_calls B A L.length d n c L p w' (HSB.out.below hb) (HSP.out.below hb))
  have HPO : Hid (∀ w' : World, Below w.heap.size w w' → Calls Try.prog 42 #[.slice A n c] w' (Ret (.int .i64 (checkE p)) w')) := fun w' hb => by rw [check_eq_poly]; exact rpoly_calls A n c p w' (HSP.out.below hb)
  have HBO := hid (fun (w' : World) (hb : Below w.heap.size w w') => rbodies_calls B L.length d L w' (HSB.out.below hb))
  have HFR : Hid (∀ w' : World, Below w.heap.size w w' → bodiesE L = 0 → checkE p = 0 → withinB 65536000 ux uy = true → w'.cell? ⟨w.heap.size, 0, none⟩ = some (.slice A n c) → w'.cell? ⟨w.heap.size + 1, 0, none⟩ = some (.int .i64 ux) → w'.cell? ⟨w.heap.size + 1, 1, none⟩ = some (.int .i64 uy) → Calls Try.prog 47 #[.slice B L.length d, .func (.func 48) #[] #[.pointer (some ⟨w.heap.size, 0, none⟩), .pointer (some ⟨w.heap.size + 1, 0, none⟩)]] w' (Ret (frV (shapeO L p (ux, uy))) w')) := fun w' hb hE2 hE1 h2 g0 g2 g3 => by
    obtain ⟨h64, hval⟩ := bodiesE_zero hE2
    refine rfirst_calls 48 _ _ cf_shapes1_calls (fun q => lineR (minusL q p) (0, 0) (ux, uy)) B L.length d L w' (HSB.out.below hb) hval h64 (fun q t h => lineR_pos h) (fun x hx A1 n1 c1 w1 hb1 hs => ?_)
    exact shapes1_calls A1 A n1 c1 n c (placeL x.b x.l) p w.heap.size (w.heap.size + 1) ux uy w1 ⟨keepCell hb1 g0, (HSP.out.below hb).below hb1⟩ ⟨keepCell hb1 g2, keepCell hb1 g3⟩ hs (placed_ok (hval x hx)) hE1 h2
  go_enter Try.func7, Try.ntmps7
  go_upto_region 1 with fail
  rw [← hW]
  clear hW
  by_cases hE2 : bodiesE L = 0
  case neg =>
    have HSV : Hid (shapeV L p (ux, uy) = .tuple #[.int .i64 0, .int .i64 0, .int .i64 (bodiesE L)]) := by show _ = _; unfold shapeV; rw [if_pos hE2]
    have HMV : Hid (meetE L p = bodiesE L ∧ meetL L p = []) := by
      have e : meetE L p = bodiesE L := by unfold meetE; rw [if_pos hE2]
      exact ⟨e, by unfold meetL; rw [e, if_neg hE2]⟩
    rw [HSV.out] at HSH
    rw [HMV.out.1, HMV.out.2] at HME
    have hne : (bodiesE L != 0) = true := by simp [hE2]
    clear HSV HMV HFR
    generalize bodiesE L = z at *
    go_wp2_with (first | (go_at_call 39; refine (rayBegun_calls _).mono ?_; rintro e wk ⟨rfl, hb⟩; (try replace HI := hid (HI.out.below hb)); replace p0 := keepCell hb p0; replace u0 := keepCell hb u0; replace u1 := keepCell hb u1; replace hB := keepBelow hb hB; clear hb) | (go_at_call 40; refine (HSH.out _ hB).mono ?_; rintro e wk ⟨rfl, hb⟩; (try replace HI := hid (HI.out.below hb)); replace p0 := keepCell hb p0; replace u0 := keepCell hb u0; replace u1 := keepCell hb u1; replace hB := keepBelow hb hB; clear hb) | (go_at_call 32; refine (HME.out _ hB).mono ?_; rintro e wk ⟨A9, n9, c9, rfl, hI, hb⟩; (try replace HI := hid (HI.out.below hb)); replace p0 := keepCell hb p0; replace u0 := keepCell hb u0; replace u1 := keepCell hb u1; replace hB := keepBelow hb hB; obtain rfl : n9 = 0 := hI.len; clear hI hb) | (go_at_call 41; refine (HBO.out _ hB).mono ?_; rintro e wk ⟨rfl, hb⟩; (try replace HI := hid (HI.out.below hb)); replace p0 := keepCell hb p0; replace u0 := keepCell hb u0; replace u1 := keepCell hb u1; replace hB := keepBelow hb hB; clear hb))
    go_returns
    exact ret_bool (by simp) hB
  by_cases hE1 : checkE p = 0
  case neg =>
    have HSV : Hid (shapeV L p (ux, uy) = .tuple #[.int .i64 0, .int .i64 0, .int .i64 (checkE p)]) := by show _ = _; unfold shapeV; rw [if_neg (by simp [hE2]), if_pos hE1]
    have HMV : Hid (meetE L p = checkE p ∧ meetL L p = []) := by
      have e : meetE L p = checkE p := by unfold meetE; rw [if_neg (by simp [hE2])]
      exact ⟨e, by unfold meetL; rw [e, if_neg hE1]⟩
    rw [HSV.out] at HSH
    rw [HMV.out.1, HMV.out.2] at HME
    have hne : (checkE p != 0) = true := by simp [hE1]
    rw [hE2] at HBO
    clear HSV HMV HFR
    generalize checkE p = z at *
    go_wp2_with (first | (go_at_call 39; refine (rayBegun_calls _).mono ?_; rintro e wk ⟨rfl, hb⟩; (try replace HI := hid (HI.out.below hb)); replace p0 := keepCell hb p0; replace u0 := keepCell hb u0; replace u1 := keepCell hb u1; replace hB := keepBelow hb hB; clear hb) | (go_at_call 40; refine (HSH.out _ hB).mono ?_; rintro e wk ⟨rfl, hb⟩; (try replace HI := hid (HI.out.below hb)); replace p0 := keepCell hb p0; replace u0 := keepCell hb u0; replace u1 := keepCell hb u1; replace hB := keepBelow hb hB; clear hb) | (go_at_call 32; refine (HME.out _ hB).mono ?_; rintro e wk ⟨A9, n9, c9, rfl, hI, hb⟩; (try replace HI := hid (HI.out.below hb)); replace p0 := keepCell hb p0; replace u0 := keepCell hb u0; replace u1 := keepCell hb u1; replace hB := keepBelow hb hB; obtain rfl : n9 = 0 := hI.len; clear hI hb) | (go_at_call 41; refine (HBO.out _ hB).mono ?_; rintro e wk ⟨rfl, hb⟩; (try replace HI := hid (HI.out.below hb)); replace p0 := keepCell hb p0; replace u0 := keepCell hb u0; replace u1 := keepCell hb u1; replace hB := keepBelow hb hB; clear hb) | (go_at_call 42; refine (HPO.out _ hB).mono ?_; rintro e wk ⟨rfl, hb⟩; (try replace HI := hid (HI.out.below hb)); replace p0 := keepCell hb p0; replace u0 := keepCell hb u0; replace u1 := keepCell hb u1; replace hB := keepBelow hb hB; clear hb))
    go_returns
    exact ret_bool (by simp) hB
  obtain ⟨h64, hval⟩ := bodiesE_zero hE2
  have HV := hid hval
  obtain ⟨mw, hmw⟩ : ∃ mw, mw = meetTo (fun q => rmeetB q p) L L.length := ⟨_, rfl⟩
  have HMW := hid hmw
  have HMV : Hid (meetE L p = 0 ∧ meetL L p = mw) := by
    have e : meetE L p = 0 := by unfold meetE; rw [if_neg (by simp [hE2]), hE1]
    exact ⟨e, by unfold meetL; rw [e, if_pos rfl, hmw]; exact meetTo_eq hE2 hE1 _ (Nat.le_refl _)⟩
  rw [HMV.out.1, HMV.out.2] at HME
  obtain ⟨r1, r2, r3, hs, hs1, hs2⟩ : ∃ r1 r2 r3 : Int, shapeV L p (ux, uy) = .tuple #[.int .i64 r1, .int .i64 r2, .int .i64 r3] ∧ (withinB 65536000 ux uy = false → r1 = 0 ∧ r2 = 0 ∧ r3 = 1) ∧ (withinB 65536000 ux uy = true → frV (shapeO L p (ux, uy)) = .tuple #[.int .i64 r1, .int .i64 r2, .int .i64 r3]) := by
    unfold shapeV
    rw [if_neg (by simp [hE2]), if_neg (by simp [hE1])]
    cases h2 : withinB 65536000 ux uy with
    | false => exact ⟨0, 0, 1, by simp, fun _ => ⟨rfl, rfl, rfl⟩, (fun h => by cases h)⟩
    | true => exact ⟨_, _, _, (by simp; rfl), (fun h => by cases h), fun _ => rfl⟩
  rw [hs] at HSH
  have HR1 := hid hs1
  have HR2 := hid hs2
  have HZ1 := hid hE1
  have HZ2 := hid hE2
  rw [hE2] at HBO
  rw [hE1] at HPO
  clear hmw HMV hs hs1 hs2 hE1 hE2 hval
  go_wp2_with (first | (go_at_call 39; refine (rayBegun_calls _).mono ?_; rintro e wk ⟨rfl, hb⟩; (try replace HI := hid (HI.out.below hb)); replace p0 := keepCell hb p0; replace u0 := keepCell hb u0; replace u1 := keepCell hb u1; replace hB := keepBelow hb hB; clear hb) | (go_at_call 40; refine (HSH.out _ hB).mono ?_; rintro e wk ⟨rfl, hb⟩; (try replace HI := hid (HI.out.below hb)); replace p0 := keepCell hb p0; replace u0 := keepCell hb u0; replace u1 := keepCell hb u1; replace hB := keepBelow hb hB; clear hb) | (go_at_call 32; refine (HME.out _ hB).mono ?_; rintro e wk ⟨A9, n9, c9, rfl, hI, hb⟩; (try replace HI := hid (HI.out.below hb)); replace p0 := keepCell hb p0; replace u0 := keepCell hb u0; replace u1 := keepCell hb u1; replace hB := keepBelow hb hB; have HI := hid hI; clear hI hb) | (go_at_call 41; refine (HBO.out _ hB).mono ?_; rintro e wk ⟨rfl, hb⟩; (try replace HI := hid (HI.out.below hb)); replace p0 := keepCell hb p0; replace u0 := keepCell hb u0; replace u1 := keepCell hb u1; replace hB := keepBelow hb hB; clear hb) | (go_at_call 42; refine (HPO.out _ hB).mono ?_; rintro e wk ⟨rfl, hb⟩; (try replace HI := hid (HI.out.below hb)); replace p0 := keepCell hb p0; replace u0 := keepCell hb u0; replace u1 := keepCell hb u1; replace hB := keepBelow hb hB; clear hb))
  have HI2 := hid (HI.out)
  have HP0 := hid (fun (w' : World) (hb : Below wk.heap.size wk w') => keepCell hb p0)
  have HU0 := hid (fun (w' : World) (hb : Below wk.heap.size wk w') => keepCell hb u0)
  have HU1 := hid (fun (w' : World) (hb : Below wk.heap.size wk w') => keepCell hb u1)
  go_loopw [13, 66] (fun o i wr => ∃ k : Nat, k ≤ L.length ∧ i = .int .i64 k ∧ OwnI wr wk.heap.size o (meetTo (fun q => rmeetB q p) L k) ∧ Below wk.heap.size wk wr) (fun _ i _ => L.length - (intOf i).toNat)
  case atStart => exact ⟨0, Nat.zero_le _, rfl, OwnI.nil _ _, Below.refl _ _⟩
  case round =>
    obtain ⟨k, hk, rfl, ho, hBk⟩ := hrel
    replace p0 := HP0.out _ hBk
    replace u0 := HU0.out _ hBk
    replace u1 := HU1.out _ hBk
    obtain ⟨wo, rfl⟩ : ∃ wo : World, wo = wr := ⟨_, rfl⟩
    have HO := hid ho
    clear ho
    have HBk := hid hBk
    replace hB := keepBelow hBk hB
    have HSw := hid (HSB.out.below hB)
    have hbig := HSw.out.sl.big
    have hcap := HSw.out.sl.cap
    have hsz := hB.size
    by_cases hlt : k < L.length
    · obtain ⟨ba, off, hA, hC⟩ := HSw.out.sl.at_ (by intro h; subst h; simp at hlt)
      subst hA
      obtain ⟨x, hx⟩ : ∃ x, x = L[k] := ⟨_, rfl⟩
      have hxm : x ∈ L := by rw [hx]; exact List.getElem_mem hlt
      have HVX := hid (HV.out x hxm)
      obtain ⟨d0, d1, d2, d3, d4, d5, d6, d7, d8, d9, d10, d11, d12⟩ := cells_bd hC hlt hx
      have hbo := hC.lt
      have hlt' : (k : Int) < (L.length : Int) := by omega
      have hkw : IntKind.i64.wrap ((k : Int) + 1) = (k : Int) + 1 := IntWalk.i64_in _ (by omega)
      have HST : Hid (meetTo (fun q => rmeetB q p) L (k + 1) = if rmeetB (placeL x.b x.l) p = true then meetTo (fun q => rmeetB q p) L k ++ [(k : Int)] else meetTo (fun q => rmeetB q p) L k) := by show _ = _; rw [meetTo_succ hlt, hx]
      have HLE := hid (meetTo_len (fun q => rmeetB q p) L k)
      obtain ⟨wd, hwd⟩ : ∃ wd, wd = wo.alloc (.cells #[.int .i64 x.b.px, .int .i64 x.b.py, .int .i64 x.b.vx, .int .i64 x.b.vy, .int .i64 x.b.ang, .int .i64 x.b.spin, .int .i64 x.b.mass, .int .i64 x.b.iner, .int .i64 x.b.bounce, .int .i64 x.b.rub, .slice x.A x.n x.c, .bool x.b.asleep, .int .i64 x.b.calm] 27) := ⟨_, rfl⟩
      have hBd : Below w.heap.size w wd := by rw [hwd]; exact hB.alloc hB.size _
      have HBd : Hid (Below wk.heap.size wk wd) := by show Below _ _ _; rw [hwd]; exact hBk.alloc hBk.size _
      have HOd := hid (HO.out.alloc (.cells #[.int .i64 x.b.px, .int .i64 x.b.py, .int .i64 x.b.vx, .int .i64 x.b.vy, .int .i64 x.b.ang, .int .i64 x.b.spin, .int .i64 x.b.mass, .int .i64 x.b.iner, .int .i64 x.b.bounce, .int .i64 x.b.rub, .slice x.A x.n x.c, .bool x.b.asleep, .int .i64 x.b.calm] 27))
      rw [← hwd] at HOd
      have HXd : Hid (Sl wd x.A x.n x.c x.l) := by show Sl _ _ _ _ _; rw [hwd]; exact (HSw.out.co x hxm).alloc _
      have HPd : Hid (Sl wd A n c p) := hid (HSP.out.below hBd)
      have HBA : Hid (BdAt wd wo.heap.size x.b x.A x.n x.c) := by show BdAt _ _ _ _ _ _; rw [hwd]; exact BdAt.here wo x.b x.A x.n x.c _
      have HPL : Hid (∀ w', Below wd.heap.size wd w' → Calls Try.prog 44 #[bodyV x.b x.A x.n x.c] w' (RetVecs (placeL x.b x.l) w')) := fun w' hb => rplaced_calls x.b x.A x.n x.c x.l w' HVX.out (HXd.out.below hb)
      have HMT : Hid (∀ A1 n1 c1 w', Sl w' A1 n1 c1 (placeL x.b x.l) → Below wd.heap.size wd w' → Calls Try.prog 43 #[.slice A1 n1 c1, .slice A n c] w' (Ret (.bool (rmeetB (placeL x.b x.l) p)) w')) := fun A1 n1 c1 w' hs hb => rmeet_calls A1 A n1 c1 n c (placeL x.b x.l) p w' hs (HPd.out.below hb) (placed_ok HVX.out) HZ1.out
      clear hC hx HSw hxm HVX HXd HPd HO hBk
      go_upto_region 14 with fail
      rw [← hwd]
      have p0d := HP0.out _ HBd.out
      have u0d := HU0.out _ HBd.out
      have u1d := HU1.out _ HBd.out
      obtain ⟨gx, hgx⟩ : ∃ gx, gx = wo.heap.size := ⟨_, rfl⟩
      rw [← hgx] at HBA ⊢
      clear hwd hgx d0 d1 d2 d3 d4 d5 d6 d7 d8 d9 d10 d11 d12 hbo p0 u0 u1 hB
      generalize meetTo (fun q => rmeetB q p) L k = o0 at *
      generalize placeL x.b x.l = pl at *
      refine wp_region_noPanic ?_
      refine wp_region_U (S := (S2 (fun w' => BdAt w' gx x.b x.A x.n x.c ∧ w'.cell? ⟨w.heap.size, 0, none⟩ = some (.slice A n c) ∧ w'.cell? ⟨w.heap.size + 1, 0, none⟩ = some (.int .i64 ux) ∧ w'.cell? ⟨w.heap.size + 1, 1, none⟩ = some (.int .i64 uy) ∧ Below wd.heap.size wd w'))) (T := (fun _ => 0)) (by kernel_rfl) (S2i0 ⟨HBA.out.drew, p0d, u0d, u1d, (Below.refl _ _).drew⟩) (fun hH => ?_)
      have hWr1 : Weaker (S2 (fun w' => BdAt w' gx x.b x.A x.n x.c ∧ w'.cell? ⟨w.heap.size, 0, none⟩ = some (.slice A n c) ∧ w'.cell? ⟨w.heap.size + 1, 0, none⟩ = some (.int .i64 ux) ∧ w'.cell? ⟨w.heap.size + 1, 1, none⟩ = some (.int .i64 uy) ∧ Below wd.heap.size wd w')) := weaker2 _
      refine U_take 0 71 3 0 0 (v := ?vr1_1) rfl (by kernel_rfl) (by kernel_rfl) hWr1 (by kernel_rfl) (by kernel_rfl) (by kernel_rfl) (by kernel_rfl) (by kernel_rfl) (by kernel_rfl) (fun _ _ _ _ h => h) (by kernel_rfl) ?hyr1_1 (by omega) hH ?_
      case hyr1_1 => (intro w' hSw; replace hSw := S2o0 hSw; (try dsimp only at hSw); have q0 := hSw.1; have q1 := hSw.2.1; have q2 := hSw.2.2.1; have q3 := hSw.2.2.2.1; have q4 := hSw.2.2.2.2; obtain ⟨qa0_0, qa0_1, qa0_2, qa0_3, qa0_4, qa0_5, qa0_6, qa0_7, qa0_8, qa0_9, qa0_10, qa0_11, qa0_12, qa0_f⟩ := id q0; go_simp; try (with_reducible rfl))
      simp only [List.set_cons_zero, List.set_cons_succ]
      refine U_take 2 73 2 0 0 (v := ?vr1_2) rfl (by kernel_rfl) (by kernel_rfl) hWr1 (by kernel_rfl) (by kernel_rfl) (by kernel_rfl) (by kernel_rfl) (by kernel_rfl) (by kernel_rfl) (fun _ _ _ _ h => h) (by kernel_rfl) ?hyr1_2 (by omega) hH ?_
      case hyr1_2 => (intro w' hSw; replace hSw := S2o0 hSw; (try dsimp only at hSw); have q0 := hSw.1; have q1 := hSw.2.1; have q2 := hSw.2.2.1; have q3 := hSw.2.2.2.1; have q4 := hSw.2.2.2.2; obtain ⟨qa0_0, qa0_1, qa0_2, qa0_3, qa0_4, qa0_5, qa0_6, qa0_7, qa0_8, qa0_9, qa0_10, qa0_11, qa0_12, qa0_f⟩ := id q0; go_simp; try (with_reducible rfl))
      simp only [List.set_cons_zero, List.set_cons_succ]
      refine wpAnyU_ready (rs := [1]) (by kernel_rfl) (by simp) ?_
      refine AllReadyU.cons 0 (by kernel_rfl) (o := _) rfl (fun K hK => ?_) AllReadyU.nil
      try clear hb
      have hG := hH
      replace hG := S2o0 hG; (try dsimp only at hG); have q0 := hG.1; have q1 := hG.2.1; have q2 := hG.2.2.1; have q3 := hG.2.2.2.1; have q4 := hG.2.2.2.2
      go_simp
      (go_at_call 44; refine (HPL.out _ q4).mono ?_; rintro e wn ⟨A1, n1, c1, rfl, hD, -, hb⟩)
      refine hK.out _ _ ?hsr1_3 (fun hH2 => ?hrr1_3)
      case hsr1_3 => exact S2i0 (by have hG := hH; replace hG := S2o0 hG; (try dsimp only at hG); have q0 := hG.1; have q1 := hG.2.1; have q2 := hG.2.2.1; have q3 := hG.2.2.2.1; have q4 := hG.2.2.2.2; exact ⟨keepBd hb q0, keepCell hb q1, keepCell hb q2, keepCell hb q3, keepBelow hb q4⟩)
      clear hK K hH
      have hH := hH2
      clear hH2
      try simp only [Act.put, List.setIfInBounds_toArray, List.set_cons_zero, List.set_cons_succ]
      refine wpAnyU_ready (rs := [3]) (by kernel_rfl) (by simp) ?_
      refine AllReadyU.cons 0 (by kernel_rfl) (o := _) rfl (fun K hK => ?_) AllReadyU.nil
      try clear hb
      have hG := hH
      replace hG := S2o0 hG; (try dsimp only at hG); have q0 := hG.1; have q1 := hG.2.1; have q2 := hG.2.2.1; have q3 := hG.2.2.2.1; have q4 := hG.2.2.2.2
      go_simp
      (go_at_call 43; refine (HMT.out A1 n1 c1 _ hD q4).mono ?_; rintro e wn ⟨rfl, hb⟩)
      refine hK.out _ _ ?hsr1_4 (fun hH2 => ?hrr1_4)
      case hsr1_4 => exact S2i0 (by have hG := hH; replace hG := S2o0 hG; (try dsimp only at hG); have q0 := hG.1; have q1 := hG.2.1; have q2 := hG.2.2.1; have q3 := hG.2.2.2.1; have q4 := hG.2.2.2.2; exact ⟨keepBd hb q0, keepCell hb q1, keepCell hb q2, keepCell hb q3, keepBelow hb q4⟩)
      clear hK K hH
      have hH := hH2
      clear hH2
      try simp only [Act.put, List.setIfInBounds_toArray, List.set_cons_zero, List.set_cons_succ]
      refine wpAnyU_done (by kernel_rfl) ?_ _ _
      refine NoPanic.normal ?_
      clear hWr1
      replace hH := S2o0 hH
      (try dsimp only at hH)
      have t0 := hH.1
      have t1 := hH.2.1
      have t2 := hH.2.2.1
      have t3 := hH.2.2.2.1
      have t4 := hH.2.2.2.2
      have HO3 := hid (HOd.out.below t4)
      have HBw := hid (keepBelow t4 HBd.out)
      have hB2 := keepBelow t4 hBd
      clear HOd HBd hBd HPL HMT HBA p0d u0d u1d hD
      cases hh : rmeetB pl p with
      | true =>
        rw [hh, if_pos rfl] at HST
        go_wp2_with (at_builtin; refine Hid.out ?_)
        refine hid ?_
        refine wpList_append_int rfl _ _ rfl wk.heap.size _ _ rfl (HO3.out.alloc _) wn.heap.size 1 1 k ?c3 ?c4 ?c5 ?c6 ?c7
        case c3 => rfl
        case c4 => go_simp
        case c5 => have := HLE.out; omega
        case c6 => have := HBw.out.size; simp; omega
        case c7 =>
          intro v' w7 ho1 hg1 hat
          have HO7 := hid ho1
          have hB7 : Below wk.heap.size wk w7 := (HBw.out.alloc HBw.out.size (.cells #[.int .i64 (k : Int)] 3)).grown hg1 (by have := HBw.out.size; simp; omega) (fun k2 hk2 => (World.ownsRow.lt (OwnI.alloc HO3.out (.cells #[.int .i64 (k : Int)] 3)) k2 hk2).1)
          have HB7 := hid hB7
          clear ho1 hg1 hat hB7
          go_wp2
          go_roundw
          case rel => exact ⟨k + 1, by omega, by go_num, by rw [HST.out]; exact HO7.out, HB7.out⟩
          case measure => simp [intOf] <;> omega
      | false =>
        rw [hh, if_neg (by simp)] at HST
        have HB7 := HBw
        go_wp2
        go_roundw
        case rel => exact ⟨k + 1, by omega, by go_num, by rw [HST.out]; exact HO3.out, HB7.out⟩
        case measure => simp [intOf] <;> omega
    · have hkn : k = L.length := by omega
      subst hkn
      obtain ⟨A2, n2, c2, rfl, hs2⟩ := HO.out.sl
      have HWA := hid hs2
      have HIK := hid (HI2.out.below hBk)
      have HEQ : Hid (∀ w' : World, Below w.heap.size w w' → SlI w' A9 n9 c9 mw → SlI w' A2 n2 c2 mw → Calls Try.prog 45 #[.slice A9 n9 c9, .slice A2 n2 c2] w' (Ret (.bool true) w')) := fun w' _ h1 h2 => by
        have := equalI_calls A9 A2 n9 c9 n2 c2 mw mw w' h1 h2
        rwa [decide_eq_true rfl] at this
      have HWB : Hid (SlI wo A2 n2 c2 mw) := by show SlI _ _ _ _ _; rw [HMW.out]; exact hs2
      have hbw : (withinB 65536000 ux uy = true) ∨ (withinB 65536000 ux uy = false) := by cases withinB 65536000 ux uy <;> simp
      clear HSw HO hs2 HWA HI HI2 HBk hBk hlt hbig hcap
      rcases hbw with h2 | h2
      · have HW2 := hid h2
        have HFA : Hid (∀ w' : World, Below w.heap.size w w' → w'.cell? ⟨w.heap.size, 0, none⟩ = some (.slice A n c) → w'.cell? ⟨w.heap.size + 1, 0, none⟩ = some (.int .i64 ux) → w'.cell? ⟨w.heap.size + 1, 1, none⟩ = some (.int .i64 uy) → Calls Try.prog 47 #[.slice B L.length d, .func (.func 48) #[] #[.pointer (some ⟨w.heap.size, 0, none⟩), .pointer (some ⟨w.heap.size + 1, 0, none⟩)]] w' (Ret (.tuple #[.int .i64 r1, .int .i64 r2, .int .i64 r3]) w')) := fun w' hb g0 g2 g3 => by
          have := HFR.out w' hb HZ2.out HZ1.out h2 g0 g2 g3
          rwa [HR2.out h2] at this
        clear HR1 HR2 HFR h2
        go_wp2_with (first | (go_at_call 45; refine (HEQ.out _ hB HIK.out HWB.out).mono ?_; rintro e wk2 ⟨rfl, hb⟩; (try replace HI := hid (HI.out.below hb)); replace p0 := keepCell hb p0; replace u0 := keepCell hb u0; replace u1 := keepCell hb u1; replace hB := keepBelow hb hB; clear hb) | (go_at_call 46; refine (near1000_calls _ _ _).mono ?_; rintro e wk ⟨rfl, hb⟩; (try replace HI := hid (HI.out.below hb)); replace p0 := keepCell hb p0; replace u0 := keepCell hb u0; replace u1 := keepCell hb u1; replace hB := keepBelow hb hB; clear hb; rw [HW2.out]) | (go_at_call 47; refine (HFA.out _ hB p0 u0 u1).mono ?_; rintro e wk ⟨rfl, hb⟩; (try replace HI := hid (HI.out.below hb)); replace p0 := keepCell hb p0; replace u0 := keepCell hb u0; replace u1 := keepCell hb u1; replace hB := keepBelow hb hB; clear hb))
        go_returns
        exact ret_bool (by simp) hB
      · have HW2 := hid h2
        obtain ⟨rfl, rfl, rfl⟩ := HR1.out h2
        clear HR1 HR2 HFR h2
        go_wp2_with (first | (go_at_call 45; refine (HEQ.out _ hB HIK.out HWB.out).mono ?_; rintro e wk2 ⟨rfl, hb⟩; (try replace HI := hid (HI.out.below hb)); replace p0 := keepCell hb p0; replace u0 := keepCell hb u0; replace u1 := keepCell hb u1; replace hB := keepBelow hb hB; clear hb) | (go_at_call 46; refine (near1000_calls _ _ _).mono ?_; rintro e wk ⟨rfl, hb⟩; (try replace HI := hid (HI.out.below hb)); replace p0 := keepCell hb p0; replace u0 := keepCell hb u0; replace u1 := keepCell hb u1; replace hB := keepBelow hb hB; clear hb; rw [HW2.out]))
        go_returns
        exact ret_bool (by simp) hB
end
end Go.Proofs.Ytienmhgbildhhaa
