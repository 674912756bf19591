/- Parts of a proof: contracts and laws. -/
import Derived.Test.YtbajmekmpgfpeaaB40
import Derived.Test.YtbajmekmpgfpeaaB41
namespace Go.Proofs.Ytbajmekmpgfpeaa
section
set_option linter.unusedVariables false
set_option linter.unusedSimpArgs false
open Go.RowKit
set_option maxRecDepth 100000 in
set_option maxHeartbeats 1000000 in
theorem cloneBd_calls (A : Option Addr) (n c : Nat) (l : List BE) (w : World) (hS : SlE layB w A n c l) (hl : l.length ≤ 100000) : Calls Try.prog 52 #[.slice A n c] w fun e w' => ∃ s, e = .returned s ∧ OwnE layB 27 w' w.heap.size s l ∧ Below w.heap.size w w' := by
  have hcmp : ∀ w' : World, (binOp .eql 31 (.slice A n c) (.slice none 0 0)).run Try.prog w' = .ok (.bool A.isNone) w' := fun w' => Lib.run_eql_slice_nil w' 31 _ A n c 0 0 Try.underlying31
  cases A with
  | none =>
    have hl0 : l = [] := by
      rcases l with _ | ⟨a, r⟩
      · rfl
      · obtain ⟨b, off, h, _⟩ := hS.at_ (by simp); cases h
    subst hl0
    clear hS
    go_enter Try.func52, Try.ntmps52
    go_wp2
    refine bodyPost_ret (v := .slice none 0 0) (by simp [results, Try.results52, go_sem]) rfl ⟨_, rfl, OwnE.nil _ _ _ _, Below.refl _ _⟩
  | some ad =>
    have hn := hS.len
    have HS := hid hS
    clear hS
    subst hn
    have HO : Hid (OwnE layB 27 (w.alloc (.cells #[] 27)) w.heap.size (.slice (some ⟨w.heap.size, 0, none⟩) 0 0) []) := ⟨by simp [flatE], .inr ⟨w.heap.size, 0, #[], rfl, Nat.le_refl _, heap_alloc_new w _, Nat.le_refl _, Nat.zero_le _, by simp, by simp [flatE]⟩⟩
    have hb0 : Below w.heap.size w (w.alloc (.cells #[] 27)) := by go_grown
    go_enter Try.func52, Try.ntmps52
    go_wp2_with (at_builtin; refine wpList_append_S tyBody rfl _ _ rfl w.heap.size _ [] rfl HO.out _ _ _ l rfl (HS.out.below hb0) (by first | omega | (simp; omega)) (by first | omega | (simp; omega)) (by simp) ?_; intro v' w1 ho1 hg1 hat; have HO1 := hid ho1; have hb1 := hid (hb0.grown hg1 (by simp) (fun k hk => (HO.out.lt hk).1)); clear ho1 hg1 hat)
    obtain ⟨A', n', c', rfl, -, -⟩ := HO1.out.sl
    refine bodyPost_ret (v := .slice A' n' c') (by simp [results, Try.results52, go_sem]) rfl ⟨_, rfl, by simpa using HO1.out, hb1.out⟩

theorem RV.own {w w1 : World} {s : Value} {L : List BE} (ho : OwnE layB 27 w1 w.heap.size s L) (hb : Below w.heap.size w w1) (hc : ∀ x ∈ L, Sl w x.A x.n x.c x.l) (hv : ∀ x ∈ L, bodyE x.b x.l = 0) : RV w s (L.map valB) w1 := by
  refine ⟨L, rfl, hb, ?_⟩
  rcases ho.form with ⟨h1, h2⟩ | ⟨g, cap, hs, h1, h2, h3, h4, h5, h6⟩
  · exact .inl ⟨h1, h2⟩
  · refine .inr ⟨g, cap, hs, h1, h3, h4, ⟨h6, h5, fun x hx => (hc x hx).below hb, fun x hx bx off e => fun e2 => ?_⟩⟩
    have := sl_lt (hc x hx) (fun e => by have := hv x hx; rw [e] at this; exact absurd (bodyE_zero this).1 (by decide)) bx off e
    omega
set_option maxRecDepth 100000 in
set_option maxHeartbeats 8000000 in
theorem rPull_calls (A B : Option Addr) (n c n' c' : Nat) (L : List BE) (J : List Jt) (st : Int) (rn : Nat) (w : World) (hS : SlB w A n c L) (hJ : SlE layJ w B n' c' J) (h64 : L.length ≤ 64) (hval : ∀ x ∈ L, bodyE x.b x.l = 0) (hj32 : J.length ≤ 32) (hjs : ∀ x ∈ J, jtE L x = 0) (hrn : rn ≤ 32) :
    Calls Try.prog 28 #[.slice A n c, .slice B n' c', .int .i64 st, .int .i64 rn] w fun e w' => ∃ A' n' c' L', e = .returned (.slice A' n' c') ∧ SlB w' A' n' c' L' ∧ L'.map valB = roundsQ (L.map valB) J st rn ∧ Below w.heap.size w w' := by
  have hn := hS.sl.len
  have hn' := hJ.len
  have hcap' := hJ.cap
  have hbig' := hJ.big
  subst hn hn'
  have HS := hid hS
  have HJ := hid hJ
  have HV := hid hval
  have HJS := hid hjs
  have HFJ : Hid (∀ x ∈ J, FitJ (L.map valB).length x) := fun x hx => by rw [List.length_map]; exact (jtE_zero (hjs x hx)).1
  clear hS hJ hval hjs
  go_enter Try.func28, Try.ntmps28
  go_wp2_with fail
  refine (cloneBd_calls A L.length c L w HS.out.sl (by omega)).mono ?_
  rintro e w1 ⟨s0, rfl, ho, hb1⟩
  have HRV := hid (RV.own ho hb1 HS.out.co HV.out)
  clear ho hb1
  go_wp2
  go_loopw [16] (fun i wr => ∃ k : Nat, k ≤ rn ∧ i = .int .i64 k ∧ RV w s0 (roundsQ (L.map valB) J st k) wr) (fun i _ => rn - (intOf i).toNat)
  case atStart => exact ⟨0, Nat.zero_le _, rfl, HRV.out⟩
  case round =>
    clear HRV
    obtain ⟨k, hk, rfl, hrv⟩ := hrel
    have HRV := hid hrv
    clear hrv
    obtain ⟨wa, rfl⟩ : ∃ wa : World, wa = wr := ⟨_, rfl⟩
    have hkw : IntKind.i64.wrap ((k : Int) + 1) = (k : Int) + 1 := IntWalk.i64_in _ (by omega)
    have HLK := hid (roundsQ_like HFJ.out st k)
    by_cases hlt : k < rn
    · have hlt' : (k : Int) < (rn : Int) := by omega
      have HRS : Hid (roundsQ (L.map valB) J st (k + 1) = jointsQ (roundsQ (L.map valB) J st k) J st J.length) := rfl
      obtain ⟨QK, hQK⟩ : ∃ q, q = roundsQ (L.map valB) J st k := ⟨_, rfl⟩
      rw [← hQK] at HRV HLK HRS
      clear hQK
      go_wp2
      go_loopw [20] (fun i wr => ∃ m : Nat, m ≤ J.length ∧ i = .int .i64 m ∧ RV w s0 (jointsQ QK J st m) wr) (fun i _ => J.length - (intOf i).toNat)
      case atStart => exact ⟨0, Nat.zero_le _, rfl, HRV.out⟩
      case round =>
        clear HRV
        obtain ⟨m, hm, rfl, hrv⟩ := hrel
        obtain ⟨wi, rfl⟩ : ∃ wi : World, wi = wr := ⟨_, rfl⟩
        have hmw : IntKind.i64.wrap ((m : Int) + 1) = (m : Int) + 1 := IntWalk.i64_in _ (by omega)
        by_cases hlt2 : m < J.length
        · have hlt2' : (m : Int) < (J.length : Int) := by omega
          obtain ⟨L1, hq, hB, hform⟩ := hrv
          have HLM := hid (HLK.out.trans (jointsQ_like (fun x hx => by rw [HLK.out.len]; exact HFJ.out x hx) st m))
          obtain ⟨bj, oj, hA, hCj⟩ := (HJ.out.below hB).at_ (by intro h; subst h; simp at hlt2)
          subst hA
          obtain ⟨x, hx⟩ : ∃ x, x = J[m] := ⟨_, rfl⟩
          have HST : Hid (jointsQ QK J st (m + 1) = jointQ (jointsQ QK J st m) x st) := jointsQ_succ (by rw [List.getElem?_eq_getElem hlt2, hx])
          have hxm : x ∈ J := by rw [hx]; exact List.getElem_mem hlt2
          obtain ⟨t0, t1, t2, t3, t4, t5, t6⟩ := cells_jt hCj hlt2 hx
          have hbj := hCj.lt
          rw [← hq] at HLM HST
          have hL1 : L1.length = L.length := by have := HLM.out.len; simpa using this
          have HLE : Hid (∀ L2 : List BE, L2.length = L1.length → L2.length ≤ 64) := fun L2 h => by omega
          obtain ⟨⟨hf1, hf2, hf3⟩, -, -, ⟨hf4, hf5⟩, -⟩ := jtE_zero (HJS.out x hxm)
          have HV1 := hid (like_valid HLM.out HV.out)
          obtain ⟨ka, hka'⟩ : ∃ ka : Nat, x.a = ka := ⟨x.a.toNat, by omega⟩
          obtain ⟨kb, hkb'⟩ : ∃ kb : Nat, x.b = kb := ⟨x.b.toNat, by omega⟩
          have hka : ka < L1.length := by omega
          have hkb : kb < L1.length := by omega
          have hab : ka < kb := by omega
          have HL1 := hid hL1
          clear hL1
          rcases hform with ⟨-, hnil⟩ | ⟨g, cap, rfl, hg0, hc1, hc2, hbl⟩
          · exfalso; rw [hnil] at hka; simp at hka
          have hxa := hka'
          have hxb := hkb'
          have hc1' := hc1
          obtain ⟨B, hBd⟩ : ∃ B, B = wi.heap.size := ⟨_, rfl⟩
          have HRJ := hid (Rj.of hbl hB hg0 HV1.out)
          rw [← hBd] at HRJ
          clear hbl
          obtain ⟨wj, hwj⟩ : ∃ wj, wj = wi.alloc (.cells #[.int .i64 x.a, .int .i64 x.b, .int .i64 x.p1, .int .i64 x.p2, .int .i64 x.q1, .int .i64 x.q2, .int .i64 x.len] 49) := ⟨_, rfl⟩
          have HRJ2 := hid (show Rj w B g L1 wj by rw [hwj]; exact HRJ.out.alloc _)
          obtain ⟨gx, hgx⟩ : ∃ gx, gx = wi.heap.size := ⟨_, rfl⟩
          have HJG2 := hid (show Jg wj gx x by rw [hwj, hgx]; exact ⟨by go_simp, by go_simp, by go_simp, by go_simp, by go_simp, by go_simp, by go_simp⟩)
          have hgg : g < gx := by rw [hgx, ← hBd]; exact HRJ.out.gB
          obtain ⟨xa, HXA0⟩ : ∃ y, y = L1[ka] := ⟨_, rfl⟩
          obtain ⟨xb, HXB0⟩ : ∃ y, y = L1[kb] := ⟨_, rfl⟩
          have eA : (L1.map valB)[ka]? = some (valB xa) := by rw [List.getElem?_map, List.getElem?_eq_getElem hka, HXA0]; rfl
          have eB : (L1.map valB)[kb]? = some (valB xb) := by rw [List.getElem?_map, List.getElem?_eq_getElem hkb, HXB0]; rfl
          obtain ⟨e1, he1⟩ : ∃ z, z = wX xa.b x.p1 x.p2 := ⟨_, rfl⟩
          obtain ⟨e2, he2⟩ : ∃ z, z = wY xa.b x.p1 x.p2 := ⟨_, rfl⟩
          obtain ⟨e3, he3⟩ : ∃ z, z = wX xb.b x.q1 x.q2 := ⟨_, rfl⟩
          obtain ⟨e4, he4⟩ : ∃ z, z = wY xb.b x.q1 x.q2 := ⟨_, rfl⟩
          have hea := HV1.out xa (by rw [HXA0]; exact List.getElem_mem hka)
          have heb := HV1.out xb (by rw [HXB0]; exact List.getElem_mem hkb)
          have mva := (numE_zero (bodyE_zero hea).2).2.2.2.1
          have mvb := (numE_zero (bodyE_zero heb).2).2.2.2.1
          have HWA := hid (rworld_calls xa.b xa.A xa.n xa.c x.p1 x.p2 (by omega) (by omega))
          have HWB := hid (rworld_calls xb.b xb.A xb.n xb.c x.q1 x.q2 (by omega) (by omega))
          rw [← he1, ← he2] at HWA
          rw [← he3, ← he4] at HWB
          obtain ⟨d1, hd1⟩ : ∃ z, z = subF e3 e1 := ⟨_, rfl⟩
          obtain ⟨d2, hd2⟩ : ∃ z, z = subF e4 e2 := ⟨_, rfl⟩
          have HSUB := hid (vsub_calls e3 e4 e1 e2)
          rw [← hd1, ← hd2] at HSUB
          have HD1 : Hid (jdX (L1.map valB) x = d1) := by show _ = _; unfold jdX; rw [qB_at hka' eA, qB_at hkb' eB, hd1, he1, he3]; rfl
          have HD2 : Hid (jdY (L1.map valB) x = d2) := by show _ = _; unfold jdY; rw [qB_at hka' eA, qB_at hkb' eB, hd2, he2, he4]; rfl
          obtain ⟨u1, hu1⟩ : ∃ z, z = unitX d1 d2 := ⟨_, rfl⟩
          obtain ⟨u2, hu2⟩ : ∃ z, z = unitY d1 d2 := ⟨_, rfl⟩
          have HUN := hid (unit_calls d1 d2)
          rw [← hu1, ← hu2] at HUN
          have HU1 := hid hu1.symm
          have HU2 := hid hu2.symm
          obtain ⟨lz, hlz⟩ : ∃ z, z = lenV d1 d2 := ⟨_, rfl⟩
          have HLE2 : Hid (∀ w', Calls Try.prog 24 #[vecV d1 d2] w' (Ret (.int .i64 lz) w')) := fun w' => by have := vlen_calls d1 d2 w'; rw [hlz]; exact this
          have HLZ := hid hlz.symm
          have hlzb : -1099511627776 ≤ lz ∧ lz ≤ 1099511627776 := by rw [hlz]; exact clampF_bd _
          have hwl : IntKind.i64.wrap (lz - x.len) = lz - x.len := IntWalk.i64_in _ (by omega)
          have hwn : IntKind.i64.wrap (-x.len) = -x.len := IntWalk.i64_in _ (by omega)
          have h64' : L1.length ≤ 64 := HLE.out _ rfl
          have HFX : Hid (FitJ (L1.map valB).length x) := by show FitJ _ _; rw [List.length_map]; exact ⟨by omega, by omega, by omega⟩
          have HLK2 : Hid (∀ v1 v2 gap : Int, LikeL (L1.map valB) (pullX (L1.map valB) x v1 v2 gap st)) := fun v1 v2 gap => pullX_like HFX.out _ _ _ _
          have HLL : Hid (∀ {v1 v2 gap : Int} (L2 : List BE), L2.map valB = pullX (L1.map valB) x v1 v2 gap st → L2.length = L1.length) := fun {v1 v2 gap} L2 h => by have := congrArg List.length h; rw [List.length_map, (HLK2.out v1 v2 gap).len, List.length_map] at this; exact this
          have HPL : Hid (∀ (w' : World), Rj w B g L1 w' → ∀ v1 v2 gap : Int, Calls Try.prog 65 #[.slice (some ⟨g, 0, none⟩) L1.length cap, jtV x, vecV v1 v2, .int .i64 gap, .int .i64 st] w' (RetPull g L1 (pullX (L1.map valB) x v1 v2 gap st) w')) := fun w' hr v1 v2 gap =>
            rpull_calls cap g ka kb L1 x v1 v2 gap st w' hr.bl (fun y hy bx off e => Nat.lt_of_lt_of_le (hr.hi y hy bx off e) hr.Bw) HV1.out hab hka hkb hxa hxb h64' _ _ rfl rfl
          have hac : (ka : Int) < (L1.length : Int) := by omega
          have hbc : (kb : Int) < (L1.length : Int) := by omega
          have HXA := hid HXA0
          have HXB := hid HXB0
          have HXI := hid (And.intro hxa hxb)
          clear HRJ hCj hx HXA0 HXB0 eA eB he1 he2 he3 he4 hea heb mva mvb hd1 hd2 hu1 hu2 hlz hlzb hxa hxb hka' hkb'
          go_upto_region 7 with fail
          rw [← hwj, ← hgx]
          clear hwj hgx hBd t0 t1 t2 t3 t4 t5 t6 hbj
          obtain ⟨hxa, hxb⟩ := HXI.out
          clear HXI
          refine (fun (hNr11 : Hid (?Tr11 : Prop)) => ?mainr11) (hid ?prfr11)
          case mainr11 =>
            refine wp_region_noPanic ?_
            refine wp_region_U (S := (S2 (fun w' => Rj w B g L1 w' ∧ Jg w' gx x))) (T := (fun j => [0, 0, 0, 0, 0, 0, 0, 0, 0, 0, 0, 0, 0, 0, 0, 0, 0, 0, 1].getD j 0)) (by kernel_rfl) (S2i0 ⟨HRJ2.out.drew, HJG2.out.drew⟩) (fun hH => ?_)
            have hWr11 : Weaker (S2 (fun w' => Rj w B g L1 w' ∧ Jg w' gx x)) := weaker2 _
            refine U_take 0 24 18 0 0 (v := ?vr11_1) rfl (by kernel_rfl) (by kernel_rfl) hWr11 (by kernel_rfl) (by kernel_rfl) (by kernel_rfl) (by kernel_rfl) (by kernel_rfl) (by kernel_rfl) (fun _ _ _ _ h => h) (by kernel_rfl) ?hyr11_1 (by omega) hH ?_
            case hyr11_1 => (intro w' hSw; clear hSw; go_simp; try (with_reducible rfl))
            simp only [List.set_cons_zero, List.set_cons_succ]
            refine U_take 1 25 17 0 0 (v := ?vr11_2) rfl (by kernel_rfl) (by kernel_rfl) hWr11 (by kernel_rfl) (by kernel_rfl) (by kernel_rfl) (by kernel_rfl) (by kernel_rfl) (by kernel_rfl) (fun _ _ _ _ h => h) (by kernel_rfl) ?hyr11_2 (by omega) hH ?_
            case hyr11_2 => (intro w' hSw; clear hSw; go_simp; try (with_reducible rfl))
            simp only [List.set_cons_zero, List.set_cons_succ]
            refine U_take 2 26 16 0 0 (v := ?vr11_3) rfl (by kernel_rfl) (by kernel_rfl) hWr11 (by kernel_rfl) (by kernel_rfl) (by kernel_rfl) (by kernel_rfl) (by kernel_rfl) (by kernel_rfl) (fun _ _ _ _ h => h) (by kernel_rfl) ?hyr11_3 (by omega) hH ?_
            case hyr11_3 => (intro w' hSw; replace hSw := S2o0 hSw; (try dsimp only at hSw); have q0 := hSw.1; have q1 := hSw.2; obtain ⟨b0_0, b0_1, b0_2, b0_3, b0_4, b0_5, b0_6, b0_7, b0_8, b0_9, b0_10, b0_11, b0_12⟩ := cells_b0 (q0).bl.cl hka HXA.out; obtain ⟨c0_0, c0_1, c0_2, c0_3, c0_4, c0_5, c0_6, c0_7, c0_8, c0_9, c0_10, c0_11, c0_12⟩ := cells_b0 (q0).bl.cl hkb HXB.out; obtain ⟨qa1_0, qa1_1, qa1_2, qa1_3, qa1_4, qa1_5, qa1_6⟩ := id q1; go_simp; try (with_reducible rfl))
            simp only [List.set_cons_zero, List.set_cons_succ]
            refine U_take 3 27 15 0 0 (v := ?vr11_4) rfl (by kernel_rfl) (by kernel_rfl) hWr11 (by kernel_rfl) (by kernel_rfl) (by kernel_rfl) (by kernel_rfl) (by kernel_rfl) (by kernel_rfl) (fun _ _ _ _ h => h) (by kernel_rfl) ?hyr11_4 (by omega) hH ?_
            case hyr11_4 => (intro w' hSw; clear hSw; go_simp; try (with_reducible rfl))
            simp only [List.set_cons_zero, List.set_cons_succ]
            refine U_take 4 28 14 0 0 (v := ?vr11_5) rfl (by kernel_rfl) (by kernel_rfl) hWr11 (by kernel_rfl) (by kernel_rfl) (by kernel_rfl) (by kernel_rfl) (by kernel_rfl) (by kernel_rfl) (fun _ _ _ _ h => h) (by kernel_rfl) ?hyr11_5 (by omega) hH ?_
            case hyr11_5 => (intro w' hSw; replace hSw := S2o0 hSw; (try dsimp only at hSw); have q0 := hSw.1; have q1 := hSw.2; obtain ⟨b0_0, b0_1, b0_2, b0_3, b0_4, b0_5, b0_6, b0_7, b0_8, b0_9, b0_10, b0_11, b0_12⟩ := cells_b0 (q0).bl.cl hka HXA.out; obtain ⟨c0_0, c0_1, c0_2, c0_3, c0_4, c0_5, c0_6, c0_7, c0_8, c0_9, c0_10, c0_11, c0_12⟩ := cells_b0 (q0).bl.cl hkb HXB.out; obtain ⟨qa1_0, qa1_1, qa1_2, qa1_3, qa1_4, qa1_5, qa1_6⟩ := id q1; go_simp; try (with_reducible rfl))
            simp only [List.set_cons_zero, List.set_cons_succ]
            refine U_take 5 29 13 0 0 (v := ?vr11_6) rfl (by kernel_rfl) (by kernel_rfl) hWr11 (by kernel_rfl) (by kernel_rfl) (by kernel_rfl) (by kernel_rfl) (by kernel_rfl) (by kernel_rfl) (fun _ _ _ _ h => h) (by kernel_rfl) ?hyr11_6 (by omega) hH ?_
            case hyr11_6 => (intro w' hSw; clear hSw; go_simp; try (with_reducible rfl))
            simp only [List.set_cons_zero, List.set_cons_succ]
            refine U_take 6 30 12 0 0 (v := ?vr11_7) rfl (by kernel_rfl) (by kernel_rfl) hWr11 (by kernel_rfl) (by kernel_rfl) (by kernel_rfl) (by kernel_rfl) (by kernel_rfl) (by kernel_rfl) (fun _ _ _ _ h => h) (by kernel_rfl) ?hyr11_7 (by omega) hH ?_
            case hyr11_7 => (intro w' hSw; replace hSw := S2o0 hSw; (try dsimp only at hSw); have q0 := hSw.1; have q1 := hSw.2; obtain ⟨b0_0, b0_1, b0_2, b0_3, b0_4, b0_5, b0_6, b0_7, b0_8, b0_9, b0_10, b0_11, b0_12⟩ := cells_b0 (q0).bl.cl hka HXA.out; obtain ⟨c0_0, c0_1, c0_2, c0_3, c0_4, c0_5, c0_6, c0_7, c0_8, c0_9, c0_10, c0_11, c0_12⟩ := cells_b0 (q0).bl.cl hkb HXB.out; obtain ⟨qa1_0, qa1_1, qa1_2, qa1_3, qa1_4, qa1_5, qa1_6⟩ := id q1; go_simp; try (with_reducible rfl))
            simp only [List.set_cons_zero, List.set_cons_succ]
            refine U_take 8 32 11 0 0 (v := ?vr11_8) rfl (by kernel_rfl) (by kernel_rfl) hWr11 (by kernel_rfl) (by kernel_rfl) (by kernel_rfl) (by kernel_rfl) (by kernel_rfl) (by kernel_rfl) (fun _ _ _ _ h => h) (by kernel_rfl) ?hyr11_8 (by omega) hH ?_
            case hyr11_8 => (intro w' hSw; clear hSw; go_simp; try (with_reducible rfl))
            simp only [List.set_cons_zero, List.set_cons_succ]
            refine U_take 9 33 10 0 0 (v := ?vr11_9) rfl (by kernel_rfl) (by kernel_rfl) hWr11 (by kernel_rfl) (by kernel_rfl) (by kernel_rfl) (by kernel_rfl) (by kernel_rfl) (by kernel_rfl) (fun _ _ _ _ h => h) (by kernel_rfl) ?hyr11_9 (by omega) hH ?_
            case hyr11_9 => (intro w' hSw; clear hSw; go_simp; try (with_reducible rfl))
            simp only [List.set_cons_zero, List.set_cons_succ]
            refine U_take 10 34 9 0 0 (v := ?vr11_10) rfl (by kernel_rfl) (by kernel_rfl) hWr11 (by kernel_rfl) (by kernel_rfl) (by kernel_rfl) (by kernel_rfl) (by kernel_rfl) (by kernel_rfl) (fun _ _ _ _ h => h) (by kernel_rfl) ?hyr11_10 (by omega) hH ?_
            case hyr11_10 => (intro w' hSw; replace hSw := S2o0 hSw; (try dsimp only at hSw); have q0 := hSw.1; have q1 := hSw.2; obtain ⟨b0_0, b0_1, b0_2, b0_3, b0_4, b0_5, b0_6, b0_7, b0_8, b0_9, b0_10, b0_11, b0_12⟩ := cells_b0 (q0).bl.cl hka HXA.out; obtain ⟨c0_0, c0_1, c0_2, c0_3, c0_4, c0_5, c0_6, c0_7, c0_8, c0_9, c0_10, c0_11, c0_12⟩ := cells_b0 (q0).bl.cl hkb HXB.out; obtain ⟨qa1_0, qa1_1, qa1_2, qa1_3, qa1_4, qa1_5, qa1_6⟩ := id q1; go_simp; try (with_reducible rfl))
            simp only [List.set_cons_zero, List.set_cons_succ]
            refine U_take 11 35 8 0 0 (v := ?vr11_11) rfl (by kernel_rfl) (by kernel_rfl) hWr11 (by kernel_rfl) (by kernel_rfl) (by kernel_rfl) (by kernel_rfl) (by kernel_rfl) (by kernel_rfl) (fun _ _ _ _ h => h) (by kernel_rfl) ?hyr11_11 (by omega) hH ?_
            case hyr11_11 => (intro w' hSw; clear hSw; go_simp; try (with_reducible rfl))
            simp only [List.set_cons_zero, List.set_cons_succ]
            refine U_take 12 36 7 0 0 (v := ?vr11_12) rfl (by kernel_rfl) (by kernel_rfl) hWr11 (by kernel_rfl) (by kernel_rfl) (by kernel_rfl) (by kernel_rfl) (by kernel_rfl) (by kernel_rfl) (fun _ _ _ _ h => h) (by kernel_rfl) ?hyr11_12 (by omega) hH ?_
            case hyr11_12 => (intro w' hSw; replace hSw := S2o0 hSw; (try dsimp only at hSw); have q0 := hSw.1; have q1 := hSw.2; obtain ⟨b0_0, b0_1, b0_2, b0_3, b0_4, b0_5, b0_6, b0_7, b0_8, b0_9, b0_10, b0_11, b0_12⟩ := cells_b0 (q0).bl.cl hka HXA.out; obtain ⟨c0_0, c0_1, c0_2, c0_3, c0_4, c0_5, c0_6, c0_7, c0_8, c0_9, c0_10, c0_11, c0_12⟩ := cells_b0 (q0).bl.cl hkb HXB.out; obtain ⟨qa1_0, qa1_1, qa1_2, qa1_3, qa1_4, qa1_5, qa1_6⟩ := id q1; go_simp; try (with_reducible rfl))
            simp only [List.set_cons_zero, List.set_cons_succ]
            refine U_take 13 37 6 0 0 (v := ?vr11_13) rfl (by kernel_rfl) (by kernel_rfl) hWr11 (by kernel_rfl) (by kernel_rfl) (by kernel_rfl) (by kernel_rfl) (by kernel_rfl) (by kernel_rfl) (fun _ _ _ _ h => h) (by kernel_rfl) ?hyr11_13 (by omega) hH ?_
            case hyr11_13 => (intro w' hSw; clear hSw; go_simp; try (with_reducible rfl))
            simp only [List.set_cons_zero, List.set_cons_succ]
            refine U_take 14 38 5 0 0 (v := ?vr11_14) rfl (by kernel_rfl) (by kernel_rfl) hWr11 (by kernel_rfl) (by kernel_rfl) (by kernel_rfl) (by kernel_rfl) (by kernel_rfl) (by kernel_rfl) (fun _ _ _ _ h => h) (by kernel_rfl) ?hyr11_14 (by omega) hH ?_
            case hyr11_14 => (intro w' hSw; replace hSw := S2o0 hSw; (try dsimp only at hSw); have q0 := hSw.1; have q1 := hSw.2; obtain ⟨b0_0, b0_1, b0_2, b0_3, b0_4, b0_5, b0_6, b0_7, b0_8, b0_9, b0_10, b0_11, b0_12⟩ := cells_b0 (q0).bl.cl hka HXA.out; obtain ⟨c0_0, c0_1, c0_2, c0_3, c0_4, c0_5, c0_6, c0_7, c0_8, c0_9, c0_10, c0_11, c0_12⟩ := cells_b0 (q0).bl.cl hkb HXB.out; obtain ⟨qa1_0, qa1_1, qa1_2, qa1_3, qa1_4, qa1_5, qa1_6⟩ := id q1; go_simp; try (with_reducible rfl))
            simp only [List.set_cons_zero, List.set_cons_succ]
            refine wpAnyU_ready (rs := [7, 17]) (by kernel_rfl) (by simp) ?_
            refine AllReadyU.cons 0 (by kernel_rfl) (o := _) rfl (fun K hK => ?_) ?_
            · try clear hb
              go_simp
              (go_at_call 23; refine (HWB.out _).mono ?_; rintro e wn ⟨rfl, hb⟩)
              refine hK.out _ _ ?hsr11_15 (fun hH2 => ?hrr11_15)
              case hsr11_15 => exact S2i0 (by have hG := hH; replace hG := S2o0 hG; (try dsimp only at hG); have q0 := hG.1; have q1 := hG.2; exact ⟨keepRj hb q0, keepJg hb q1⟩)
              clear hK K hH
              have hH := hH2
              clear hH2
              try simp only [Act.put, List.setIfInBounds_toArray, List.set_cons_zero, List.set_cons_succ]
              refine wpAnyU_ready (rs := [15, 17]) (by kernel_rfl) (by simp) ?_
              refine AllReadyU.cons 0 (by kernel_rfl) (o := _) rfl (fun K hK => ?_) ?_
              · try clear hb
                go_simp
                (go_at_call 23; refine (HWA.out _).mono ?_; rintro e wn ⟨rfl, hb⟩)
                refine hK.out _ _ ?hsr11_16 (fun hH2 => ?hrr11_16)
                case hsr11_16 => exact S2i0 (by have hG := hH; replace hG := S2o0 hG; (try dsimp only at hG); have q0 := hG.1; have q1 := hG.2; exact ⟨keepRj hb q0, keepJg hb q1⟩)
                clear hK K hH
                have hH := hH2
                clear hH2
                try simp only [Act.put, List.setIfInBounds_toArray, List.set_cons_zero, List.set_cons_succ]
                refine wpAnyU_ready (rs := [16, 17]) (by kernel_rfl) (by simp) ?_
                refine AllReadyU.cons 0 (by kernel_rfl) (o := _) rfl (fun K hK => ?_) ?_
                · try clear hb
                  go_simp
                  (go_at_call 25; refine (HSUB.out _).mono ?_; rintro e wn ⟨rfl, hb⟩)
                  refine hK.out _ _ ?hsr11_17 (fun hH2 => ?hrr11_17)
                  case hsr11_17 => exact S2i0 (by have hG := hH; replace hG := S2o0 hG; (try dsimp only at hG); have q0 := hG.1; have q1 := hG.2; exact ⟨keepRj hb q0, keepJg hb q1⟩)
                  clear hK K hH
                  have hH := hH2
                  clear hH2
                  try simp only [Act.put, List.setIfInBounds_toArray, List.set_cons_zero, List.set_cons_succ]
                  refine wpAnyU_ready (rs := [17]) (by kernel_rfl) (by simp) ?_
                  refine AllReadyU.cons 0 (by kernel_rfl) (o := _) rfl (fun K hK => ?_) AllReadyU.nil
                  try clear hb
                  have hG := hH
                  replace hG := S2o0 hG; (try dsimp only at hG); have q0 := hG.1; have q1 := hG.2
                  go_simp
                  refine hK.out _ _ ?hsr11_18 (fun hH2 => ?hrr11_18)
                  case hsr11_18 => exact S2i0 (by have hG := hH; replace hG := S2o0 hG; (try dsimp only at hG); have q0 := hG.1; have q1 := hG.2; exact ⟨q0.alloc _, keepJg ((Below.refl _ _).alloc (Nat.le_refl _) _) q1⟩)
                  clear hK K hH
                  have hH := hH2
                  clear hH2
                  try simp only [Act.put, List.setIfInBounds_toArray, List.set_cons_zero, List.set_cons_succ]
                  have hD : VZ (wn.alloc (.cells #[.int .i64 0, .int .i64 0] 24)) wn.heap.size := VZ.here wn 0 0 24
                  obtain ⟨gD, hgD⟩ : ∃ g, g = wn.heap.size := ⟨_, rfl⟩
                  have hlD : B ≤ gD ∧ gx < gD := by rw [hgD]; have h9 := lt_of_cell q1.c0; exact ⟨q0.Bw, h9⟩
                  rw [← hgD] at hD
                  try rw [← hgD]
                  clear hgD q0 q1
                  generalize wn.alloc (.cells #[.int .i64 0, .int .i64 0] 24) = wx17 at *
                  refine wpAnyU_lst (l' := #[true, true, true, true, true, true, true, true, true, true, true, true, true, true, true, true, true, true, false]) (by kernel_rfl) ?_
                  have hl2 : B ≤ gD ∧ gx < gD := by exact hlD
                  clear hlD
                  try clear hZD
                  try clear hb
                  revert hH
                  revert hD
                  revert hl2
                  revert gD
                  revert wx17
                  exact hNr11.out
                refine AllReadyU.cons 0 (by kernel_rfl) (o := _) rfl (fun K hK => ?_) ?_
                · try clear hb
                  have hG := hH
                  replace hG := S2o0 hG; (try dsimp only at hG); have q0 := hG.1; have q1 := hG.2
                  go_simp
                  refine hK.out _ _ ?hsr11_20 (fun hH2 => ?hrr11_20)
                  case hsr11_20 => exact S2i0 (by have hG := hH; replace hG := S2o0 hG; (try dsimp only at hG); have q0 := hG.1; have q1 := hG.2; exact ⟨q0.alloc _, keepJg ((Below.refl _ _).alloc (Nat.le_refl _) _) q1⟩)
                  clear hK K hH
                  have hH := hH2
                  clear hH2
                  try simp only [Act.put, List.setIfInBounds_toArray, List.set_cons_zero, List.set_cons_succ]
                  have hD : VZ (wn.alloc (.cells #[.int .i64 0, .int .i64 0] 24)) wn.heap.size := VZ.here wn 0 0 24
                  obtain ⟨gD, hgD⟩ : ∃ g, g = wn.heap.size := ⟨_, rfl⟩
                  have hlD : B ≤ gD ∧ gx < gD := by rw [hgD]; have h9 := lt_of_cell q1.c0; exact ⟨q0.Bw, h9⟩
                  rw [← hgD] at hD
                  try rw [← hgD]
                  clear hgD q0 q1
                  generalize wn.alloc (.cells #[.int .i64 0, .int .i64 0] 24) = wx17 at *
                  refine wpAnyU_ready (rs := [16]) (by kernel_rfl) (by simp) ?_
                  refine AllReadyU.cons 0 (by kernel_rfl) (o := _) rfl (fun K hK => ?_) AllReadyU.nil
                  try clear hb
                  go_simp
                  (go_at_call 25; refine (HSUB.out _).mono ?_; rintro e wn ⟨rfl, hb⟩)
                  refine hK.out _ _ ?hsr11_21 (fun hH2 => ?hrr11_21)
                  case hsr11_21 => exact S2i0 (by have hG := hH; replace hG := S2o0 hG; (try dsimp only at hG); have q0 := hG.1; have q1 := hG.2; exact ⟨keepRj hb q0, keepJg hb q1⟩)
                  clear hK K hH
                  have hH := hH2
                  clear hH2
                  try simp only [Act.put, List.setIfInBounds_toArray, List.set_cons_zero, List.set_cons_succ]
                  replace hD := keepVZ hb hD
                  refine wpAnyU_lst (l' := #[true, true, true, true, true, true, true, true, true, true, true, true, true, true, true, true, true, true, false]) (by kernel_rfl) ?_
                  have hl2 : B ≤ gD ∧ gx < gD := by exact hlD
                  clear hlD
                  try clear hZD
                  try clear hb
                  revert hH
                  revert hD
                  revert hl2
                  revert gD
                  revert wn
                  exact hNr11.out
                exact AllReadyU.nil
              refine AllReadyU.cons 0 (by kernel_rfl) (o := _) rfl (fun K hK => ?_) ?_
              · try clear hb
                have hG := hH
                replace hG := S2o0 hG; (try dsimp only at hG); have q0 := hG.1; have q1 := hG.2
                go_simp
                refine hK.out _ _ ?hsr11_22 (fun hH2 => ?hrr11_22)
                case hsr11_22 => exact S2i0 (by have hG := hH; replace hG := S2o0 hG; (try dsimp only at hG); have q0 := hG.1; have q1 := hG.2; exact ⟨q0.alloc _, keepJg ((Below.refl _ _).alloc (Nat.le_refl _) _) q1⟩)
                clear hK K hH
                have hH := hH2
                clear hH2
                try simp only [Act.put, List.setIfInBounds_toArray, List.set_cons_zero, List.set_cons_succ]
                have hD : VZ (wn.alloc (.cells #[.int .i64 0, .int .i64 0] 24)) wn.heap.size := VZ.here wn 0 0 24
                obtain ⟨gD, hgD⟩ : ∃ g, g = wn.heap.size := ⟨_, rfl⟩
                have hlD : B ≤ gD ∧ gx < gD := by rw [hgD]; have h9 := lt_of_cell q1.c0; exact ⟨q0.Bw, h9⟩
                rw [← hgD] at hD
                try rw [← hgD]
                clear hgD q0 q1
                generalize wn.alloc (.cells #[.int .i64 0, .int .i64 0] 24) = wx17 at *
                refine wpAnyU_ready (rs := [15]) (by kernel_rfl) (by simp) ?_
                refine AllReadyU.cons 0 (by kernel_rfl) (o := _) rfl (fun K hK => ?_) AllReadyU.nil
                try clear hb
                go_simp
                (go_at_call 23; refine (HWA.out _).mono ?_; rintro e wn ⟨rfl, hb⟩)
                refine hK.out _ _ ?hsr11_23 (fun hH2 => ?hrr11_23)
                case hsr11_23 => exact S2i0 (by have hG := hH; replace hG := S2o0 hG; (try dsimp only at hG); have q0 := hG.1; have q1 := hG.2; exact ⟨keepRj hb q0, keepJg hb q1⟩)
                clear hK K hH
                have hH := hH2
                clear hH2
                try simp only [Act.put, List.setIfInBounds_toArray, List.set_cons_zero, List.set_cons_succ]
                replace hD := keepVZ hb hD
                refine wpAnyU_ready (rs := [16]) (by kernel_rfl) (by simp) ?_
                refine AllReadyU.cons 0 (by kernel_rfl) (o := _) rfl (fun K hK => ?_) AllReadyU.nil
                try clear hb
                go_simp
                (go_at_call 25; refine (HSUB.out _).mono ?_; rintro e wn ⟨rfl, hb⟩)
                refine hK.out _ _ ?hsr11_24 (fun hH2 => ?hrr11_24)
                case hsr11_24 => exact S2i0 (by have hG := hH; replace hG := S2o0 hG; (try dsimp only at hG); have q0 := hG.1; have q1 := hG.2; exact ⟨keepRj hb q0, keepJg hb q1⟩)
                clear hK K hH
                have hH := hH2
                clear hH2
                try simp only [Act.put, List.setIfInBounds_toArray, List.set_cons_zero, List.set_cons_succ]
                replace hD := keepVZ hb hD
                refine wpAnyU_lst (l' := #[true, true, true, true, true, true, true, true, true, true, true, true, true, true, true, true, true, true, false]) (by kernel_rfl) ?_
                have hl2 : B ≤ gD ∧ gx < gD := by exact hlD
                clear hlD
                try clear hZD
                try clear hb
                revert hH
                revert hD
                revert hl2
                revert gD
                revert wn
                exact hNr11.out
              exact AllReadyU.nil
            refine AllReadyU.cons 0 (by kernel_rfl) (o := _) rfl (fun K hK => ?_) ?_
            · try clear hb
              have hG := hH
              replace hG := S2o0 hG; (try dsimp only at hG); have q0 := hG.1; have q1 := hG.2
              go_simp
              refine hK.out _ _ ?hsr11_25 (fun hH2 => ?hrr11_25)
              case hsr11_25 => exact S2i0 (by have hG := hH; replace hG := S2o0 hG; (try dsimp only at hG); have q0 := hG.1; have q1 := hG.2; exact ⟨q0.alloc _, keepJg ((Below.refl _ _).alloc (Nat.le_refl _) _) q1⟩)
              clear hK K hH
              have hH := hH2
              clear hH2
              try simp only [Act.put, List.setIfInBounds_toArray, List.set_cons_zero, List.set_cons_succ]
              have hD : VZ ((wj.alloc (.cells #[.int .i64 0, .int .i64 0] 24)).drew) wj.heap.size := VZ.drew (VZ.here wj 0 0 24)
              obtain ⟨gD, hgD⟩ : ∃ g, g = wj.heap.size := ⟨_, rfl⟩
              have hlD : B ≤ gD ∧ gx < gD := by rw [hgD]; have h9 := lt_of_cell q1.c0; exact ⟨q0.Bw, h9⟩
              rw [← hgD] at hD
              try rw [← hgD]
              clear hgD q0 q1
              generalize (wj.alloc (.cells #[.int .i64 0, .int .i64 0] 24)).drew = wx17 at *
              refine wpAnyU_ready (rs := [7]) (by kernel_rfl) (by simp) ?_
              refine AllReadyU.cons 0 (by kernel_rfl) (o := _) rfl (fun K hK => ?_) AllReadyU.nil
              try clear hb
              go_simp
              (go_at_call 23; refine (HWB.out _).mono ?_; rintro e wn ⟨rfl, hb⟩)
              refine hK.out _ _ ?hsr11_26 (fun hH2 => ?hrr11_26)
              case hsr11_26 => exact S2i0 (by have hG := hH; replace hG := S2o0 hG; (try dsimp only at hG); have q0 := hG.1; have q1 := hG.2; exact ⟨keepRj hb q0, keepJg hb q1⟩)
              clear hK K hH
              have hH := hH2
              clear hH2
              try simp only [Act.put, List.setIfInBounds_toArray, List.set_cons_zero, List.set_cons_succ]
              replace hD := keepVZ hb hD
              refine wpAnyU_ready (rs := [15]) (by kernel_rfl) (by simp) ?_
              refine AllReadyU.cons 0 (by kernel_rfl) (o := _) rfl (fun K hK => ?_) AllReadyU.nil
              try clear hb
              go_simp
              (go_at_call 23; refine (HWA.out _).mono ?_; rintro e wn ⟨rfl, hb⟩)
              refine hK.out _ _ ?hsr11_27 (fun hH2 => ?hrr11_27)
              case hsr11_27 => exact S2i0 (by have hG := hH; replace hG := S2o0 hG; (try dsimp only at hG); have q0 := hG.1; have q1 := hG.2; exact ⟨keepRj hb q0, keepJg hb q1⟩)
              clear hK K hH
              have hH := hH2
              clear hH2
              try simp only [Act.put, List.setIfInBounds_toArray, List.set_cons_zero, List.set_cons_succ]
              replace hD := keepVZ hb hD
              refine wpAnyU_ready (rs := [16]) (by kernel_rfl) (by simp) ?_
              refine AllReadyU.cons 0 (by kernel_rfl) (o := _) rfl (fun K hK => ?_) AllReadyU.nil
              try clear hb
              go_simp
              (go_at_call 25; refine (HSUB.out _).mono ?_; rintro e wn ⟨rfl, hb⟩)
              refine hK.out _ _ ?hsr11_28 (fun hH2 => ?hrr11_28)
              case hsr11_28 => exact S2i0 (by have hG := hH; replace hG := S2o0 hG; (try dsimp only at hG); have q0 := hG.1; have q1 := hG.2; exact ⟨keepRj hb q0, keepJg hb q1⟩)
              clear hK K hH
              have hH := hH2
              clear hH2
              try simp only [Act.put, List.setIfInBounds_toArray, List.set_cons_zero, List.set_cons_succ]
              replace hD := keepVZ hb hD
              refine wpAnyU_lst (l' := #[true, true, true, true, true, true, true, true, true, true, true, true, true, true, true, true, true, true, false]) (by kernel_rfl) ?_
              have hl2 : B ≤ gD ∧ gx < gD := by exact hlD
              clear hlD
              try clear hZD
              try clear hb
              revert hH
              revert hD
              revert hl2
              revert gD
              revert wn
              exact hNr11.out
            exact AllReadyU.nil
          case prfr11 =>
            intro wX gD hl2 hD hH
            have hWr11 : Weaker (S2 (fun w' => Rj w B g L1 w' ∧ Jg w' gx x)) := weaker2 _
            refine wpAnyU_ready (rs := [18]) (by kernel_rfl) (by simp) ?_
            refine AllReadyU.cons 1 (by kernel_rfl) (o := _) rfl (fun K hK => ?_) AllReadyU.nil
            try clear hb
            have hG := hH
            replace hG := S2o0 hG; (try dsimp only at hG); have q0 := hG.1; have q1 := hG.2
            have HRJ3 := hid q0
            have HJG3 := hid q1
            obtain ⟨⟨vv0, vv1, y0, y1⟩, yf⟩ := hD
            clear hG q0 q1
            go_simp
            refine hK.out _ _ ?hsr11_19 (fun hH2 => ?hrr11_19)
            case hsr11_19 => exact S2i1
            clear hK K hH
            have hH := hH2
            clear hH2
            try simp only [Act.put, List.setIfInBounds_toArray, List.set_cons_zero, List.set_cons_succ]
            refine wpAnyU_done (by kernel_rfl) ?_ _ _
            refine NoPanic.normal ?_
            obtain ⟨w5, hw5⟩ : ∃ w5, w5 = (wX.setCell ⟨gD, 0, none⟩ (.int .i64 d1)).setCell ⟨gD, 1, none⟩ (.int .i64 d2) := ⟨_, rfl⟩
            have HRJ5 := hid ((HRJ3.out.set (o := 0) (v := .int .i64 d1) hl2.1).set (o := 1) (v := .int .i64 d2) hl2.1)
            have HJG5 := hid ((HJG3.out.next (grown_setCell _ gD 0 (.int .i64 d1)) (by have := hl2.2; omega)).next (grown_setCell _ gD 1 (.int .i64 d2)) (by have := hl2.2; omega))
            have HVD5 : Hid (Vg w5 gD d1 d2) := by show Vg _ _ _ _; rw [hw5]; exact ⟨by go_simp, by go_simp⟩
            rw [← hw5] at HRJ5 HJG5
            clear HRJ3 HJG3 y0 y1 yf
            try clear hH
            go_upto_region 9 with fail
            rw [← hw5]
            have HXI := hid (And.intro hxa hxb)
            clear hw5 hxa hxb
            obtain ⟨j0, j1, j2, j3, j4, j5, j6⟩ := HJG5.out
            obtain ⟨k0, k1⟩ := HVD5.out
            by_cases hz : x.len = 0
            · have hq9 : jointQ (L1.map valB) x st = pullX (pullX (L1.map valB) x 65536 0 d1 st) x 0 65536 d2 st := by have h9 := jointQ_zero (Q := L1.map valB) (st := st) hz; rw [h9, HD1.out, HD2.out]
              have HQ9 := hid hq9
              clear hq9
              have hzb : (x.len == 0) = true := by simp [hz]
              clear hz
              go_wp2_with fail
              refine (HPL.out _ HRJ5.out 65536 0 d1).mono ?_
              rintro e w6 ⟨L2, rfl, hbl2, hm2, hg2⟩
              have HB2 := hid hbl2
              have HM2 := hid hm2
              have HBE := hid (HRJ5.out.next hg2)
              have HL2 : Hid (L2.length = L1.length) := HLL.out _ hm2
              have HVV2 : Hid (∀ y ∈ L2, bodyE y.b y.l = 0) := by have := HLK2.out 65536 0 d1; rw [← hm2] at this; exact like_valid this HV1.out
              have HJG6 := hid (HJG5.out.next hg2 (by omega))
              have HVD6 := hid (HVD5.out.next hg2 (by have := hl2.2; omega))
              have HRX6 := hid (Rj.of hbl2 HBE.out hg0 HVV2.out)
              clear hbl2 hm2 hg2 j0 j1 j2 j3 j4 j5 j6 k0 k1 HJG5 HVD5 HBE
              obtain ⟨j0, j1, j2, j3, j4, j5, j6⟩ := HJG6.out
              obtain ⟨k0, k1⟩ := HVD6.out
              have HPL2 := hid (rpull_calls cap g ka kb L2 x 0 65536 d2 st w6 HB2.out HRX6.out.hi HVV2.out hab (by rw [HL2.out]; exact hka) (by rw [HL2.out]; exact hkb) HXI.out.1 HXI.out.2 (by rw [HL2.out]; exact h64') _ _ rfl rfl)
              rw [HL2.out] at HPL2
              go_wp2_with fail
              refine HPL2.out.mono ?_
              rintro e w7 ⟨L3, rfl, hbl3, hm3, hg3⟩
              have HBE3 := hid (HRX6.out.next hg3)
              have HB3 := hid hbl3
              have HM3 : Hid (L3.map valB = jointQ (L1.map valB) x st) := by show _ = _; rw [HQ9.out, ← HM2.out]; exact hm3
              have HL3 : Hid (L3.length = L1.length) := by have := congrArg List.length HM3.out; rw [List.length_map, (jointQ_like HFX.out st).len, List.length_map] at this; exact this
              clear hbl3 hm3 hg3 j0 j1 j2 j3 j4 j5 j6 k0 k1 HJG6 HVD6 HRX6 HPL2
              go_wp2
              go_roundw
              case rel => exact ⟨m + 1, by omega, by go_num, L3, by rw [HST.out]; exact HM3.out, HBE3.out, .inr ⟨g, cap, by rw [HL3.out], hg0, by rw [HL3.out]; exact hc1, hc2, HB3.out⟩⟩
              case measure => simp [intOf] <;> omega
            have hzb : (x.len == 0) = false := by simp [hz]
            obtain ⟨ev, hev⟩ : ∃ ev, ev = (d1 == 0 && d2 == 0) := ⟨_, rfl⟩
            have HEQ := run_eqVJ d1 d2 0 0
            rw [← hev] at HEQ
            cases ev with
            | true =>
              have hd0 : d1 = 0 ∧ d2 = 0 := by simpa using hev.symm
              have hq9 : jointQ (L1.map valB) x st = pullX (L1.map valB) x 65536 0 (-x.len) st := by have h9 := jointQ_same (Q := L1.map valB) (st := st) hz (by rw [HD1.out, HD2.out]; exact hd0); rw [h9, HD1.out, HD2.out, hd0.1, hd0.2, lenV_zero, Int.zero_sub]
              have HQ9 := hid hq9
              clear hq9
              clear hd0 hev hz
              go_wp2_with fail
              refine (HPL.out _ HRJ5.out 65536 0 (-x.len)).mono ?_
              rintro e w6 ⟨L2, rfl, hbl2, hm2, hg2⟩
              have HB2 := hid hbl2
              have HM2 := hid hm2
              have HBE := hid (HRJ5.out.next hg2)
              clear hbl2 hm2 hg2 j0 j1 j2 j3 j4 j5 j6 k0 k1 HJG5 HVD5 HRJ5
              go_wp2
              go_roundw
              case rel => exact ⟨m + 1, by omega, by go_num, L2, by rw [HST.out]; exact HM2.out.trans HQ9.out.symm, HBE.out, .inr ⟨g, cap, by rw [HLL.out _ HM2.out], hg0, by rw [HLL.out _ HM2.out]; exact hc1, hc2, HB2.out⟩⟩
              case measure => simp [intOf] <;> omega
            | false =>
              have hd0 : ¬ (d1 = 0 ∧ d2 = 0) := by simpa using hev.symm
              have hq9 : jointQ (L1.map valB) x st = pullX (L1.map valB) x u1 u2 (lz - x.len) st := by have h9 := jointQ_way (Q := L1.map valB) (st := st) hz (by rw [HD1.out, HD2.out]; exact hd0); rw [h9, HD1.out, HD2.out, HU1.out, HU2.out, HLZ.out]
              have HQ9 := hid hq9
              clear hq9
              clear hd0 hev hz
              go_upto_region 8 with fail
              clear j0 j1 j2 j3 j4 j5 j6 k0 k1
              refine wp_region_noPanic ?_
              refine wp_region_U (S := (S2 (fun w' => Rj w B g L1 w' ∧ Jg w' gx x ∧ Vg w' gD d1 d2))) (T := (fun j => [0, 0, 0, 0, 0, 0, 0, 0, 0, 0, 1].getD j 0)) (by kernel_rfl) (S2i0 ⟨HRJ5.out.drew, HJG5.out.drew, HVD5.out.drew⟩) (fun hH => ?_)
              have hWr10 : Weaker (S2 (fun w' => Rj w B g L1 w' ∧ Jg w' gx x ∧ Vg w' gD d1 d2)) := weaker2 _
              refine U_take 0 41 10 0 0 (v := ?vr10_1) rfl (by kernel_rfl) (by kernel_rfl) hWr10 (by kernel_rfl) (by kernel_rfl) (by kernel_rfl) (by kernel_rfl) (by kernel_rfl) (by kernel_rfl) (fun _ _ _ _ h => h) (by kernel_rfl) ?hyr10_1 (by omega) hH ?_
              case hyr10_1 => (intro w' hSw; clear hSw; go_simp; try (with_reducible rfl))
              simp only [List.set_cons_zero, List.set_cons_succ]
              refine U_take 1 42 9 0 0 (v := ?vr10_2) rfl (by kernel_rfl) (by kernel_rfl) hWr10 (by kernel_rfl) (by kernel_rfl) (by kernel_rfl) (by kernel_rfl) (by kernel_rfl) (by kernel_rfl) (fun _ _ _ _ h => h) (by kernel_rfl) ?hyr10_2 (by omega) hH ?_
              case hyr10_2 => (intro w' hSw; replace hSw := S2o0 hSw; (try dsimp only at hSw); have q0 := hSw.1; have q1 := hSw.2.1; have q2 := hSw.2.2; skip; obtain ⟨qa1_0, qa1_1, qa1_2, qa1_3, qa1_4, qa1_5, qa1_6⟩ := id q1; obtain ⟨qa2_0, qa2_1⟩ := id q2; go_simp; try (with_reducible rfl))
              simp only [List.set_cons_zero, List.set_cons_succ]
              refine U_take 2 43 8 0 0 (v := ?vr10_3) rfl (by kernel_rfl) (by kernel_rfl) hWr10 (by kernel_rfl) (by kernel_rfl) (by kernel_rfl) (by kernel_rfl) (by kernel_rfl) (by kernel_rfl) (fun _ _ _ _ h => h) (by kernel_rfl) ?hyr10_3 (by omega) hH ?_
              case hyr10_3 => (intro w' hSw; replace hSw := S2o0 hSw; (try dsimp only at hSw); have q0 := hSw.1; have q1 := hSw.2.1; have q2 := hSw.2.2; skip; obtain ⟨qa1_0, qa1_1, qa1_2, qa1_3, qa1_4, qa1_5, qa1_6⟩ := id q1; obtain ⟨qa2_0, qa2_1⟩ := id q2; go_simp; try (with_reducible rfl))
              simp only [List.set_cons_zero, List.set_cons_succ]
              refine U_take 4 45 7 0 0 (v := ?vr10_4) rfl (by kernel_rfl) (by kernel_rfl) hWr10 (by kernel_rfl) (by kernel_rfl) (by kernel_rfl) (by kernel_rfl) (by kernel_rfl) (by kernel_rfl) (fun _ _ _ _ h => h) (by kernel_rfl) ?hyr10_4 (by omega) hH ?_
              case hyr10_4 => (intro w' hSw; replace hSw := S2o0 hSw; (try dsimp only at hSw); have q0 := hSw.1; have q1 := hSw.2.1; have q2 := hSw.2.2; skip; obtain ⟨qa1_0, qa1_1, qa1_2, qa1_3, qa1_4, qa1_5, qa1_6⟩ := id q1; obtain ⟨qa2_0, qa2_1⟩ := id q2; go_simp; try (with_reducible rfl))
              simp only [List.set_cons_zero, List.set_cons_succ]
              refine U_take 6 47 6 0 0 (v := ?vr10_5) rfl (by kernel_rfl) (by kernel_rfl) hWr10 (by kernel_rfl) (by kernel_rfl) (by kernel_rfl) (by kernel_rfl) (by kernel_rfl) (by kernel_rfl) (fun _ _ _ _ h => h) (by kernel_rfl) ?hyr10_5 (by omega) hH ?_
              case hyr10_5 => (intro w' hSw; clear hSw; go_simp; try (with_reducible rfl))
              simp only [List.set_cons_zero, List.set_cons_succ]
              refine U_take 7 48 5 0 0 (v := ?vr10_6) rfl (by kernel_rfl) (by kernel_rfl) hWr10 (by kernel_rfl) (by kernel_rfl) (by kernel_rfl) (by kernel_rfl) (by kernel_rfl) (by kernel_rfl) (fun _ _ _ _ h => h) (by kernel_rfl) ?hyr10_6 (by omega) hH ?_
              case hyr10_6 => (intro w' hSw; replace hSw := S2o0 hSw; (try dsimp only at hSw); have q0 := hSw.1; have q1 := hSw.2.1; have q2 := hSw.2.2; skip; obtain ⟨qa1_0, qa1_1, qa1_2, qa1_3, qa1_4, qa1_5, qa1_6⟩ := id q1; obtain ⟨qa2_0, qa2_1⟩ := id q2; go_simp; try (with_reducible rfl))
              simp only [List.set_cons_zero, List.set_cons_succ]
              refine U_take 9 50 4 0 0 (v := ?vr10_7) rfl (by kernel_rfl) (by kernel_rfl) hWr10 (by kernel_rfl) (by kernel_rfl) (by kernel_rfl) (by kernel_rfl) (by kernel_rfl) (by kernel_rfl) (fun _ _ _ _ h => h) (by kernel_rfl) ?hyr10_7 (by omega) hH ?_
              case hyr10_7 => (intro w' hSw; clear hSw; go_simp; try (with_reducible rfl))
              simp only [List.set_cons_zero, List.set_cons_succ]
              refine wpAnyU_ready (rs := [3]) (by kernel_rfl) (by simp) ?_
              refine AllReadyU.cons 0 (by kernel_rfl) (o := _) rfl (fun K hK => ?_) AllReadyU.nil
              try clear hb
              go_simp
              (go_at_call 63; refine (HUN.out _).mono ?_; rintro e wn ⟨rfl, hb⟩)
              refine hK.out _ _ ?hsr10_8 (fun hH2 => ?hrr10_8)
              case hsr10_8 => exact S2i0 (by have hG := hH; replace hG := S2o0 hG; (try dsimp only at hG); have q0 := hG.1; have q1 := hG.2.1; have q2 := hG.2.2; exact ⟨keepRj hb q0, keepJg hb q1, keepVg hb q2⟩)
              clear hK K hH
              have hH := hH2
              clear hH2
              try simp only [Act.put, List.setIfInBounds_toArray, List.set_cons_zero, List.set_cons_succ]
              refine wpAnyU_ready (rs := [5]) (by kernel_rfl) (by simp) ?_
              refine AllReadyU.cons 0 (by kernel_rfl) (o := _) rfl (fun K hK => ?_) AllReadyU.nil
              try clear hb
              go_simp
              (go_at_call 24; refine (HLE2.out _).mono ?_; rintro e wn ⟨rfl, hb⟩)
              refine hK.out _ _ ?hsr10_9 (fun hH2 => ?hrr10_9)
              case hsr10_9 => exact S2i0 (by have hG := hH; replace hG := S2o0 hG; (try dsimp only at hG); have q0 := hG.1; have q1 := hG.2.1; have q2 := hG.2.2; exact ⟨keepRj hb q0, keepJg hb q1, keepVg hb q2⟩)
              clear hK K hH
              have hH := hH2
              clear hH2
              try simp only [Act.put, List.setIfInBounds_toArray, List.set_cons_zero, List.set_cons_succ]
              refine U_take 8 49 1 0 0 (v := ?vr10_10) rfl (by kernel_rfl) (by kernel_rfl) hWr10 (by kernel_rfl) (by kernel_rfl) (by kernel_rfl) (by kernel_rfl) (by kernel_rfl) (by kernel_rfl) (fun _ _ _ _ h => h) (by kernel_rfl) ?hyr10_10 (by omega) hH ?_
              case hyr10_10 => (intro w' hSw; clear hSw; go_simp; try (with_reducible rfl))
              simp only [List.set_cons_zero, List.set_cons_succ]
              refine wpAnyU_ready (rs := [10]) (by kernel_rfl) (by simp) ?_
              refine AllReadyU.cons 1 (by kernel_rfl) (o := _) rfl (fun K hK => ?_) AllReadyU.nil
              try clear hb
              have hG := hH
              replace hG := S2o0 hG; (try dsimp only at hG); have q0 := hG.1; have q1 := hG.2.1; have q2 := hG.2.2
              have HRX := hid q0
              clear hG q0 q1 q2
              go_simp
              (go_at_call 65; refine (HPL.out _ HRX.out _ _ _).mono ?_; rintro e wn ⟨L2, rfl, hbl2, hm2, hg2⟩)
              refine hK.out _ _ ?hsr10_11 (fun hH2 => ?hrr10_11)
              case hsr10_11 => exact S2i1
              clear hK K hH
              have hH := hH2
              clear hH2
              try simp only [Act.put, List.setIfInBounds_toArray, List.set_cons_zero, List.set_cons_succ]
              have HB2 := hid hbl2
              have HM2 := hid hm2
              have HBE := hid (HRX.out.next hg2)
              clear hbl2 hm2 hg2 HRX
              refine wpAnyU_done (by kernel_rfl) ?_ _ _
              refine NoPanic.normal ?_
              go_wp2
              go_roundw
              case rel => exact ⟨m + 1, by omega, by go_num, L2, by rw [HST.out]; exact HM2.out.trans HQ9.out.symm, HBE.out, .inr ⟨g, cap, by rw [HLL.out _ HM2.out], hg0, by rw [HLL.out _ HM2.out]; exact hc1, hc2, HB2.out⟩⟩
              case measure => simp [intOf] <;> omega
        · have hmn : m = J.length := by omega
          subst hmn
          have HRW := hid hrv
          clear hrv
          go_wp2
          go_roundw
          case rel => exact ⟨k + 1, by omega, by go_num, by rw [HRS.out]; exact HRW.out⟩
          case measure => simp [intOf] <;> omega
    · have hkn : k = rn := by omega
      subst hkn
      obtain ⟨A2, n2, c2, L2, rfl, hs2, hm2, hB2⟩ := HRV.out.ret (by rw [HLK.out.len, List.length_map]; exact h64)
      clear HRV
      go_wp2
      exact bodyPost_ret (v := .slice A2 n2 c2) (by simp [results, Try.results28, go_sem]) rfl ⟨A2, n2, c2, L2, rfl, hs2, hm2, hB2⟩
end
end Go.Proofs.Ytbajmekmpgfpeaa
