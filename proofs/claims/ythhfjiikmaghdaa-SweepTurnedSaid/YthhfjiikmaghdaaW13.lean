/- The walk of SweepTurned. -/
import Derived.Test.YthhfjiikmaghdaaW11
namespace Go.Proofs.Ythhfjiikmaghdaa
set_option linter.unusedVariables false
set_option linter.unusedSimpArgs false
open Go.RowKit

/-- what the walk keeps: two lists of boxes, the pairs of the first one -/
structure TW (w0 : World) (A B : Option Addr) (c c' : Nat) (l m : List Bx) (Ap : Option Addr) (np cp : Nat) (w : World) : Prop where
  sl : SlE layBox w A l.length c l
  sm : SlE layBox w B m.length c' m
  sp : SlE layPair w Ap np cp (pairsL l)
  bel : Below w0.heap.size w0 w
theorem TW.keep {w0 : World} {A B : Option Addr} {c c' : Nat} {l m : List Bx} {Ap : Option Addr} {np cp : Nat} {w w' : World} (hb : Below w.heap.size w w') (h : TW w0 A B c c' l m Ap np cp w) : TW w0 A B c c' l m Ap np cp w' :=
  ⟨h.sl.below hb, h.sm.below hb, h.sp.below hb, keepBelow hb h.bel⟩

set_option maxRecDepth 100000 in
set_option maxHeartbeats 16000000 in
theorem sweepTurned_walk (Ax Bx_ : Option Addr) (nx cx ny cy : Nat) (rx ry : List Int) (w : World) (hX : SlI w Ax nx cx rx) (hY : SlI w Bx_ ny cy ry) : Calls Try.prog 12 #[.slice Ax nx cx, .slice Bx_ ny cy] w (Ret (.bool true) w) := by
  have HX := hid hX
  have HY := hid hY
  clear hX hY
  go_enter Try.func12, Try.ntmps12
  go_wp2_with fail
  refine (boxes_calls Ax nx cx rx _ HX.out).mono ?_
  rintro e w1 ⟨l, A, n, c, rfl, hsl, -, hl24, -, hb1⟩
  have HSL := hid hsl
  have HY1 := hid (HY.out.below hb1)
  have hn := hsl.len
  subst hn
  clear hsl HX HY
  go_wp2_with fail
  refine (boxes_calls Bx_ ny cy ry _ HY1.out).mono ?_
  rintro e w2 ⟨m, B, n', c', rfl, hsm, -, hm24, -, hb2⟩
  replace HSL := hid (HSL.out.below hb2)
  have hB2 := keepBelow hb2 hb1
  have HSM := hid hsm
  have hn' := hsm.len
  subst hn'
  clear hsm HY1 hb1 hb2
  go_wp2_with fail
  refine (pairs_calls A _ c l _ HSL.out (by omega)).mono ?_
  rintro e w3 ⟨Ap, np, cp, rfl, hsp, -, hb3⟩
  have HT3 : Hid (TW w A B c c' l m Ap np cp w3) := ⟨HSL.out.below hb3, HSM.out.below hb3, hsp, keepBelow hb3 hB2⟩
  clear HSL HSM hsp hb3 hB2
  go_wp2_with fail
  refine (cloneB_calls A _ c l _ HT3.out.sl (by omega)).mono ?_
  rintro e w4 ⟨sb, rfl, hob, hb4⟩
  have HRV := hid (reverseB_calls sb l w3.heap.size w4 hob (by omega))
  have HB4 := hid hb4
  clear hob hb4
  go_wp2_with fail
  refine HRV.out.mono ?_
  rintro e w5 ⟨rfl, hor, hb5⟩
  have HTW5 := hid (HT3.out.keep (HB4.out.trans hb5))
  obtain ⟨A5, n5, c5, rfl, hs5, -⟩ := hor.sl
  have HPC := hid (pairs_calls A5 n5 c5 l.reverse w5 hs5 (by simp; omega))
  clear hor hb5 HRV HB4 HT3 hs5
  go_wp2_with fail
  refine HPC.out.mono ?_
  rintro e w6 ⟨A6, n6, c6, rfl, hs6, -, hb6⟩
  have HTW := hid (HTW5.out.keep hb6)
  have hn6 := hs6.len
  have HPM : Hid (∀ p ∈ pairsL l.reverse, p.1 < l.length ∧ p.2 < l.length) := fun p hp => by have := mem_pairs.1 hp; rw [List.length_reverse] at this; omega
  have hpl : (pairsL l.reverse).length ≤ 1000000 := pairsL_len _ (by simp; omega)
  have HPB := hid hs6
  obtain ⟨P, hP⟩ : ∃ P, P = pairsL l.reverse := ⟨_, rfl⟩
  rw [← hP] at HPM HPB hn6 hpl
  have HPE := hid hP
  subst hn6
  clear hs6 hb6 HPC HTW5 hP
  have hwl : IntKind.i64.wrap ((l.length : Int) - 1) = (l.length : Int) - 1 := IntWalk.i64_in _ (by omega)
  go_wp2
  go_loopw [9, 29] (fun s i wr => ∃ k : Nat, k ≤ P.length ∧ i = .int .i64 k ∧ PO w6 s ((P.take k).map (turnP l.length)) wr) (fun _ i _ => P.length - (intOf i).toNat)
  case atStart => exact ⟨0, Nat.zero_le _, rfl, PO.nil _⟩
  case round =>
    obtain ⟨k, hk, rfl, hpo⟩ := hrel
    obtain ⟨wo, rfl⟩ : ∃ wo : World, wo = wr := ⟨_, rfl⟩
    have HPO := hid hpo
    by_cases hlt : k < P.length
    · have hlt' : (k : Int) < (P.length : Int) := by omega
      have hwk : IntKind.i64.wrap ((k : Int) + 1) = (k : Int) + 1 := IntWalk.i64_in _ (by omega)
      obtain ⟨b, off, hA, hC0⟩ := HPB.out.at_ (by intro h; rw [h] at hlt; simp at hlt)
      subst hA
      have hC := hC0.below hpo.bel
      obtain ⟨e0, e1⟩ := hC.pair hlt
      have hbl := hC.lt
      have HMT : Hid ((P.take (k + 1)).map (turnP l.length) = (P.take k).map (turnP l.length) ++ [(turnP l.length) P[k]]) := by show _ = _; rw [List.take_succ_eq_append_getElem hlt, List.map_append]; rfl
      have HLN : Hid (((P.take k).map (turnP l.length)).length ≤ 1000000) := by show _ ≤ _; rw [List.length_map, List.length_take]; omega
      have hmem := HPM.out _ (List.getElem_mem hlt)
      obtain ⟨pp, hpp⟩ : ∃ z, z = P[k] := ⟨_, rfl⟩
      rw [← hpp] at e0 e1 HMT hmem
      obtain ⟨p1, p2⟩ := pp
      dsimp only at e0 e1 hmem
      have hw1 : IntKind.i64.wrap ((l.length : Int) - 1 - (p2 : Int)) = ((l.length - 1 - p2 : Nat) : Int) := by rw [IntWalk.i64_in _ (by omega)]; omega
      have hw2 : IntKind.i64.wrap ((l.length : Int) - 1 - (p1 : Int)) = ((l.length - 1 - p1 : Nat) : Int) := by rw [IntWalk.i64_in _ (by omega)]; omega
      replace HMT : Hid ((P.take (k + 1)).map (turnP l.length) = (P.take k).map (turnP l.length) ++ [(l.length - 1 - p2, l.length - 1 - p1)]) := HMT
      generalize (P.take k).map (turnP l.length) = Q at *
      obtain ⟨wp, hwp⟩ : ∃ w', w' = wo.alloc (.cells #[.int .i64 (p1 : Int), .int .i64 (p2 : Int)] 96) := ⟨_, rfl⟩
      obtain ⟨gp, hgp⟩ : ∃ g, g = wo.heap.size := ⟨_, rfl⟩
      have t0 : wp.cell? ⟨gp, 0, none⟩ = some (.int .i64 (p1 : Int)) := by rw [hwp, hgp]; go_simp
      have t1 : wp.cell? ⟨gp, 1, none⟩ = some (.int .i64 (p2 : Int)) := by rw [hwp, hgp]; go_simp
      replace HPO := hid (HPO.out.keep (show Below wo.heap.size wo wp by rw [hwp]; go_grown))
      clear hC hC0 hpo hpp
      go_upto_region 9 with fail
      rw [← hwp, ← hgp]
      clear hwp hgp e0 e1 hbl
      have hgl := lt_of_cell t0
      go_wp2_with (at_builtin; refine wpList_append_E tyPair rfl _ _ rfl w6.heap.size _ _ rfl (HPO.out.own.alloc _) wp.heap.size 0 1 1 [(l.length - 1 - p2, l.length - 1 - p1)] rfl rfl (cells_pair (by go_simp) (by go_simp)) (by have := HLN.out; simp; omega) (by have := HLN.out; simp; omega) (by have := HPO.out.bel.size; simp; omega) ?_; intro v' w7 ho1 hg1 hat; have HP7 := hid ((HPO.out.keep ((Below.refl _ _).alloc (Nat.le_refl _) _)).app ho1 hg1); clear ho1 hg1 hat)
      clear HPO
      go_roundw
      case rel => exact ⟨k + 1, hlt, by go_num, by rw [HMT.out]; exact HP7.out⟩
      case measure => simp [intOf]; omega
    · have hke : k = P.length := by omega
      subst hke
      rw [List.take_length] at HPO
      clear hpo hlt hk
      have HSC := hid (sortTurned_calls _ w6.heap.size _ wo HPO.out.own (by rw [List.length_map]; exact hpl))
      clear HPB
      go_wp2_with fail
      refine HSC.out.mono ?_
      rintro e w7 ⟨rfl, ⟨r, hrp, hrs, hro⟩, hg⟩
      have HB7 : Hid (Below w6.heap.size w6 w7) := HPO.out.bel.grown hg HPO.out.bel.size (fun k hk => (HPO.out.own.lt hk).1)
      replace HTW := hid (HTW.out.keep HB7.out)
      rw [HPE.out] at hrp
      have HLAW := hid (turned_law hrp (hrs.imp fun h => Int.not_lt.2 h))
      obtain ⟨At, nt, ct, rfl, hst, -⟩ := hro.sl
      rw [HLAW.out] at hst
      have HT := hid hst
      clear HSC hrp hrs hro hg HB7 HLAW hst HPO HPM HPE hpl
      go_wp2_with fail
      refine (between_calls B A _ c' _ c m l _ HTW.out.sm HTW.out.sl (by omega) (by omega)).mono ?_
      rintro e w8 ⟨A2, n2, c2, rfl, hs2, -, hb8⟩
      replace HTW := hid (HTW.out.keep hb8)
      have HTW8 := HTW
      replace HT := hid (HT.out.below hb8)
      have hn2 := hs2.len
      have HPM : Hid (∀ p ∈ btw m l, p.1 ≤ 1000 ∧ p.2 ≤ 1000) := fun p hp => by have := mem_btw.1 hp; omega
      have hpl2 : (btw m l).length ≤ 1000000 := by
        have := cutP_len m.length (pairsL (m ++ l))
        have := pairsL_len (m ++ l) (by simp; omega)
        unfold btw
        omega
      have HPB := hid hs2
      obtain ⟨P2, hP2⟩ : ∃ P, P = btw m l := ⟨_, rfl⟩
      rw [← hP2] at HPM HPB hn2 hpl2
      have HPE2 := hid hP2
      subst hn2
      clear hs2 hb8 hP2
      go_wp2
      go_loopw [13, 57] (fun s i wr => ∃ k : Nat, k ≤ P2.length ∧ i = .int .i64 k ∧ PO w8 s ((P2.take k).map swapP) wr) (fun _ i _ => P2.length - (intOf i).toNat)
      case atStart => exact ⟨0, Nat.zero_le _, rfl, PO.nil _⟩
      case round =>
        obtain ⟨k, hk, rfl, hpo⟩ := hrel
        obtain ⟨wo, rfl⟩ : ∃ wo : World, wo = wr := ⟨_, rfl⟩
        have HPO := hid hpo
        by_cases hlt : k < P2.length
        · have hlt' : (k : Int) < (P2.length : Int) := by omega
          have hwk : IntKind.i64.wrap ((k : Int) + 1) = (k : Int) + 1 := IntWalk.i64_in _ (by omega)
          obtain ⟨b, off, hA, hC0⟩ := HPB.out.at_ (by intro h; rw [h] at hlt; simp at hlt)
          subst hA
          have hC := hC0.below hpo.bel
          obtain ⟨e0, e1⟩ := hC.pair hlt
          have hbl := hC.lt
          have HMT : Hid ((P2.take (k + 1)).map swapP = (P2.take k).map swapP ++ [swapP P2[k]]) := by show _ = _; rw [List.take_succ_eq_append_getElem hlt, List.map_append]; rfl
          have HLN : Hid (((P2.take k).map swapP).length ≤ 1000000) := by show _ ≤ _; rw [List.length_map, List.length_take]; omega
          have hmem := HPM.out _ (List.getElem_mem hlt)
          obtain ⟨pp, hpp⟩ : ∃ z, z = P2[k] := ⟨_, rfl⟩
          rw [← hpp] at e0 e1 HMT hmem
          obtain ⟨p1, p2⟩ := pp
          dsimp only at e0 e1 hmem
          replace HMT : Hid ((P2.take (k + 1)).map swapP = (P2.take k).map swapP ++ [(p2, p1)]) := HMT
          generalize (P2.take k).map swapP = Q at *
          obtain ⟨wp, hwp⟩ : ∃ w', w' = wo.alloc (.cells #[.int .i64 (p1 : Int), .int .i64 (p2 : Int)] 96) := ⟨_, rfl⟩
          obtain ⟨gp, hgp⟩ : ∃ g, g = wo.heap.size := ⟨_, rfl⟩
          have t0 : wp.cell? ⟨gp, 0, none⟩ = some (.int .i64 (p1 : Int)) := by rw [hwp, hgp]; go_simp
          have t1 : wp.cell? ⟨gp, 1, none⟩ = some (.int .i64 (p2 : Int)) := by rw [hwp, hgp]; go_simp
          replace HPO := hid (HPO.out.keep (show Below wo.heap.size wo wp by rw [hwp]; go_grown))
          clear hC hC0 hpo hpp
          go_upto_region 17 with fail
          rw [← hwp, ← hgp]
          clear hwp hgp e0 e1 hbl
          have hgl := lt_of_cell t0
          go_wp2_with (at_builtin; refine wpList_append_E tyPair rfl _ _ rfl w8.heap.size _ _ rfl (HPO.out.own.alloc _) wp.heap.size 0 1 1 [(p2, p1)] rfl rfl (cells_pair (by go_simp) (by go_simp)) (by have := HLN.out; simp; omega) (by have := HLN.out; simp; omega) (by have := HPO.out.bel.size; simp; omega) ?_; intro v' w7 ho1 hg1 hat; have HP7 := hid ((HPO.out.keep ((Below.refl _ _).alloc (Nat.le_refl _) _)).app ho1 hg1); clear ho1 hg1 hat)
          clear HPO
          go_roundw
          case rel => exact ⟨k + 1, hlt, by go_num, by rw [HMT.out]; exact HP7.out⟩
          case measure => simp [intOf]; omega
        · have hke : k = P2.length := by omega
          subst hke
          rw [List.take_length] at HPO
          clear hpo hlt hk
          rw [HPE2.out] at HPO
          have HSC := hid (sortTurned_calls _ w8.heap.size _ wo HPO.out.own (by rw [List.length_map, ← HPE2.out]; exact hpl2))
          clear HPB
          go_wp2_with fail
          refine HSC.out.mono ?_
          rintro e w9 ⟨rfl, ⟨r, hrp, hrs, hro⟩, hg⟩
          have HB9 : Hid (Below w8.heap.size w8 w9) := HPO.out.bel.grown hg HPO.out.bel.size (fun k hk => (HPO.out.own.lt hk).1)
          replace HTW := hid (HTW8.out.keep HB9.out)
          replace HT := hid (HT.out.below HB9.out)
          have HLAW := hid (swapped_law hrp (hrs.imp fun h => Int.not_lt.2 h))
          obtain ⟨Ar, nr, cr, rfl, hsr, -⟩ := hro.sl
          rw [HLAW.out] at hsr
          have HSR := hid hsr
          clear HSC hrp hrs hro hg HB9 HLAW hsr HPO HTW8
          go_wp2_with fail
          refine (sweeps_calls _).mono ?_
          rintro e w10 ⟨rfl, hb10⟩
          replace HTW := hid (HTW.out.keep hb10)
          replace HT := hid (HT.out.below hb10)
          replace HSR := hid (HSR.out.below hb10)
          clear hb10
          go_wp2_with fail
          refine (equalP_calls Ap At np cp nt ct _ _ w10 HTW.out.sp HT.out).mono ?_
          rintro e w11 ⟨rfl, hb11⟩
          rw [decide_eq_true rfl]
          replace HTW := hid (HTW.out.keep hb11)
          replace HSR := hid (HSR.out.below hb11)
          clear hb11 HT
          go_wp2_with fail
          refine (between_calls A B _ c _ c' l m _ HTW.out.sl HTW.out.sm (by omega) (by omega)).mono ?_
          rintro e w12 ⟨A3, n3, c3, rfl, hs3, -, hb12⟩
          replace HTW := hid (HTW.out.keep hb12)
          replace HSR := hid (HSR.out.below hb12)
          have HS3 := hid hs3
          clear hb12 hs3
          go_wp2_with fail
          refine (equalP_calls A3 Ar n3 c3 nr cr _ _ w12 HS3.out HSR.out).mono ?_
          rintro e w13 ⟨rfl, hb13⟩
          rw [decide_eq_true rfl]
          have hB := (HTW.out.keep hb13).bel
          clear hb13 HS3 HSR HTW
          go_wp2
          go_returns
          exact ret_bool rfl hB

end Go.Proofs.Ythhfjiikmaghdaa
