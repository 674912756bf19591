/- The walk of KeepCarried. -/
import Derived.Test.YtiaoandbdgdecaaGreatPM48
import Derived.Test.YtiaoandbdgdecaaGreatPM49
import Derived.Test.YtiaoandbdgdecaaGreatPM05
namespace Go.Proofs.YtiaoandbdgdecaaGreat
section
set_option linter.unusedVariables false
set_option linter.unusedSimpArgs false
open Go.RowKit
theorem run_bodiesK (s j k : Value) (gx gy st : Int) (w : World) : (Instr.field 29 (.agg #[s, j, k, .int .i64 gx, .int .i64 gy, .int .i64 st]) 0).run Tryz.prog w = .ok s w := by kernel_rfl
theorem keepSlP {w w' : World} {A : Option Addr} {n c : Nat} {l : List (Nat × Nat)} (hb : Below w.heap.size w w') (h : SlE layPair w A n c l) : SlE layPair w' A n c l := h.below hb

structure KO (w0 : World) (gq : Nat) (M : List Ct) (w : World) : Prop where
 cl : CellsE layC w gq 0 M
 cf : ∀ j, w.frozen? ⟨gq, j, none⟩ = false
 lo : w0.heap.size ≤ gq
 bel : Below w0.heap.size w0 w
structure KF (w0 : World) (Aq : Option Addr) (n cap : Nat) (M : List Ct) (w : World) : Prop where
 ln : M.length = n
 cp : n ≤ cap
 bg : cap ≤ maxLen
 bel : Below w0.heap.size w0 w
 ko : M ≠ [] → ∃ gq, Aq = some ⟨gq, 0, none⟩ ∧ KO w0 gq M w
theorem KO.keep {w0 : World} {gq : Nat} {M : List Ct} {w w' : World} (hb : Below w.heap.size w w') (h : KO w0 gq M w) : KO w0 gq M w' :=
 ⟨h.cl.below hb, fun j => ((bcell hb).2 _ _ h.cl.lt).trans (h.cf j), h.lo, keepBelow hb h.bel⟩
theorem KF.keep {w0 : World} {Aq : Option Addr} {n cap : Nat} {M : List Ct} {w w' : World} (h : KF w0 Aq n cap M w) (hb : Below w.heap.size w w') : KF w0 Aq n cap M w' :=
 ⟨h.ln, h.cp, h.bg, keepBelow hb h.bel, fun hM => by obtain ⟨gq, e, k⟩ := h.ko hM; exact ⟨gq, e, k.keep hb⟩⟩
theorem KF.sl {w0 : World} {Aq : Option Addr} {n cap : Nat} {M : List Ct} {w : World} (h : KF w0 Aq n cap M w) : SlE layC w Aq n cap M := ⟨h.ln.symm, h.cp, h.bg, fun hM => by obtain ⟨gq, e, k⟩ := h.ko hM; exact ⟨gq, 0, e, k.cl⟩⟩
theorem KO.set2 {w0 : World} {gq k : Nat} {M : List Ct} {w : World} {x : Ct} (h : KO w0 gq M w) (hk : k < M.length) (hx : M[k] = x) (p s : Int) :
  KO w0 gq (M.set k { x with push := p, sli := s }) ((w.setCell ⟨gq, k * 10 + 8, none⟩ (.int .i64 p)).setCell ⟨gq, k * 10 + 9, none⟩ (.int .i64 s)) := by
 have h1 := CellsE.set_push h.cl hk hx p
 have h2 := CellsE.set_sli (x := { x with push := p }) h1 (by simpa using hk) (by simp) s
 rw [List.set_set] at h2
 exact ⟨h2, fun j => by rw [World.frozen?_setCell, World.frozen?_setCell]; exact h.cf j, h.lo, (h.bel.setCell (p := ⟨gq, _, none⟩) h.lo _).setCell (p := ⟨gq, _, none⟩) h.lo _⟩
set_option maxRecDepth 100000 in
set_option maxHeartbeats 8000000 in
theorem keepCarried_walk (A : Option Addr) (n c : Nat) (r : List Int) (push : Int) (w : World) (hS : SlI w A n c r) : Calls Tryz.prog 3 #[.slice A n c, .int .i64 push] w (Ret (.bool true) w) := by
 have HSI := hid hS
 clear hS
 go_enter Tryz.func3, Tryz.ntmps3
 go_wp2_with fail
 refine (scene_calls A n c r _ HSI.out).mono ?_
 rintro e w1 ⟨sv, jv, L, J, gy, st, rfl, hok⟩
 obtain ⟨A1, n1, c1, rfl, hs1, -⟩ := hok.own.sl
 obtain ⟨A8, n8, c8, rfl, -, -⟩ := hok.jown.sl
 obtain rfl : n1 = L.length := hs1.len
 have HMD : Hid (∀ x ∈ L, MadeB x.b ∧ Made x.l) := fun x hx => (hok.co x hx).2
 have HV := hid (made_all HMD.out)
 have HL := hid (show SlB w1 A1 L.length c1 L from ⟨hs1, fun x hx => (hok.co x hx).1⟩)
 have hln : L.length ≤ 5 := hok.len
 have HBE : Hid (bodiesE L = 0) := bodiesE_ok (by omega) HV.out
 have hB := hok.bel
 have hfld : ∀ w, (Instr.field 29 (.agg #[.slice A1 L.length c1, .slice A8 n8 c8, .slice none 0 0, .int .i64 0, .int .i64 gy, .int .i64 st]) 0).run Tryz.prog w = .ok (.slice A1 L.length c1) w := fun w => run_bodiesK _ _ _ _ _ _ w
 clear hok hs1
 obtain ⟨C, hC⟩ : ∃ C, C = fndL L := ⟨_, rfl⟩
 have HC := hid hC
 have HFE : Hid (findE L [] = C) := by show _ = _; unfold findE; rw [if_pos HBE.out, carL_nil _ (fnd_zero L), hC]
 have HNE : Hid (nearE L = nearL L) := by show _ = _; unfold nearE; rw [if_pos HBE.out]
 have hCl : C.length ≤ 50 := by
  have h1 := fnd_len L
  have h2 := Nat.mul_le_mul hln hln
  rw [hC]; omega
 have HCS : Hid (C.Pairwise fun x y => ordC x y = -1) := by rw [hC]; exact fnd_sorted L
 have HCP : Hid (∀ c ∈ C, ∃ p ∈ nearL L, c.a = (p.1 : Nat) ∧ c.b = (p.2 : Nat)) := fun c hc => fnd_pair (by rw [← hC]; exact hc)
 clear hC
 go_wp2_with fail
 refine (kfind_calls A1 none L.length c1 0 0 L [] _ HL.out (SlE.nil _ _)).mono ?_
 rintro e w3 ⟨A3, n3, c3, rfl, hs3, hb⟩
 rw [HFE.out] at hs3
 obtain rfl : n3 = C.length := hs3.len
 have HS3 := hid hs3
 replace HL := hid (HL.out.below hb)
 replace hB := keepBelow hb hB
 rw [HBE.out]
 clear hb hs3 hfld
 go_wp2_with fail
 refine (kpairs_calls A1 L.length c1 L _ HL.out).mono ?_
 rintro e w5 ⟨A5, n5, c5, rfl, hs5, hb⟩
 rw [HNE.out] at hs5
 have HS5 := hid hs5
 replace HL := hid (HL.out.below hb)
 replace HS3 := hid (HS3.out.below hb)
 replace hB := keepBelow hb hB
 rw [HBE.out]
 clear hb hs5
 go_wp2_with fail
 refine (finds_calls _).mono ?_
 rintro e w7 ⟨rfl, hb⟩
 replace HL := hid (HL.out.below hb)
 replace HS3 := hid (HS3.out.below hb)
 replace HS5 := hid (HS5.out.below hb)
 replace hB := keepBelow hb hB
 clear hb
 go_wp2_with fail
 refine (cloneCt_calls A3 C.length c3 C w7 HS3.out (by omega)).mono ?_
 rintro e w8 ⟨s8, rfl, ho8, hb8⟩
 obtain ⟨Aq, nq, cq, hse, hsq, -⟩ := ho8.sl
 obtain rfl : nq = C.length := hsq.len
 have HKF0 : Hid (KF w7 Aq C.length cq (oldL (push % 1000) C 0) w8) := by
  show KF _ _ _ _ _ _
  rw [oldL_zero]
  refine ⟨rfl, hsq.cap, ?_, hb8, fun hM => ?_⟩
  ·rcases ho8.form with ⟨rfl, h0⟩ | ⟨g, cap, rfl, hBg, hg, hn, hm, hf, hcl⟩
   ·injection hse with e1 e2 e3
    rw [← e3]
    decide
   ·cases hse; exact hm
  ·rcases ho8.form with ⟨rfl, h0⟩ | ⟨g, cap, rfl, hBg, hg, hn, hm, hf, hcl⟩
   ·exact absurd h0 hM
   ·cases hse; exact ⟨g, rfl, hcl, hf, hBg, hb8⟩
 subst hse
 have HBW := hid hB
 have HBE9 := hid (tbelow_calls push 1000 (by omega) (by omega))
 obtain ⟨bp, hbp⟩ : ∃ b, b = push % 1000 := ⟨_, rfl⟩
 have hbp0 : 0 ≤ bp ∧ bp < 1000 := by omega
 rw [← hbp] at HKF0 HBE9
 clear ho8 hsq hb8 hB hbp
 go_wp2
 go_loopw [40] (fun i wr => ∃ k : Nat, k ≤ C.length ∧ i = .int .i64 k ∧ KF w7 Aq C.length cq (oldL bp C k) wr) (fun i _ => C.length - (intOf i).toNat)
 case atStart => exact ⟨0, Nat.zero_le _, rfl, HKF0.out⟩
 case round =>
  clear HKF0
  obtain ⟨k, hk, rfl, hkf⟩ := hrel
  obtain ⟨wo, rfl⟩ : ∃ wo : World, wo = wr := ⟨_, rfl⟩
  by_cases hlt : k < C.length
  ·have hM : oldL bp C k ≠ [] := fun h => by have := oldL_len bp C k; rw [h] at this; simp at this; omega
   obtain ⟨gq, hAq, hko⟩ := hkf.ko hM
   subst hAq
   have HKO := hid hko
   obtain ⟨x, hx⟩ : ∃ x, x = C[k] := ⟨_, rfl⟩
   obtain ⟨M, hMe⟩ : ∃ M, M = oldL bp C k := ⟨_, rfl⟩
   have hk1 : k < M.length := by rw [hMe, oldL_len]; exact hlt
   have HXM : Hid (x = M[k]) := by
    show _ = _
    simp only [hMe]
    rw [oldL_at hlt, if_neg (by omega), hx]
   have HM2 : Hid (M.set k (setO bp k x) = oldL bp C (k + 1)) := by show _ = _; rw [hMe, hx]; exact oldL_set hlt
   rw [← hMe] at HKO
   have hlt' : (k : Int) < (C.length : Int) := by omega
   have hkw : IntKind.i64.wrap ((k : Int) + 1) = (k : Int) + 1 := IntWalk.i64_in _ (by omega)
   have hbw : IntKind.i64.wrap (bp + (k : Int)) = bp + (k : Int) := IntWalk.i64_in _ (by omega)
   have hnw : IntKind.i64.wrap (-(k : Int)) = -(k : Int) := IntWalk.i64_in _ (by omega)
   have hck := hkf.cp
   have hcb := hkf.bg
   clear hko hM hkf hMe
   go_wp2_with fail
   refine (HBE9.out _).mono ?_
   rintro e w9 ⟨rfl, hb9⟩
   replace HKO := hid (HKO.out.keep hb9)
   obtain ⟨e0, e1, e2, e3, e4, e5, e6, e7, e8, e9⟩ := cells_ctz HKO.out.cl hk1 HXM.out
   have hcf := HKO.out.cf
   have hgl := HKO.out.cl.lt
   go_upto_region 11 with fail
   obtain ⟨w9b, hw9⟩ : ∃ w', w' = (w9.setCell ⟨gq, k * 10 + 8, none⟩ (.int .i64 (bp + (k : Int)))).setCell ⟨gq, k * 10 + 9, none⟩ (.int .i64 (-(k : Int))) := ⟨_, rfl⟩
   have HKO9 := hid (HKO.out.set2 hk1 HXM.out.symm (bp + (k : Int)) (-(k : Int)))
   rw [← hw9] at HKO9 ⊢
   have HPP9 := hid (HS5.out.below HKO9.out.bel)
   obtain ⟨M2, hM2⟩ : ∃ M2, M2 = M.set k { x with push := bp + (k : Int), sli := -(k : Int) } := ⟨_, rfl⟩
   have hs2 : M2 = oldL bp C (k + 1) := by rw [hM2]; exact HM2.out
   rw [← hM2] at HKO9
   have hl2 : M2.length = C.length := by rw [hs2, oldL_len]
   have hk2 : k < M2.length := by omega
   obtain ⟨v, hv⟩ : ∃ v, v = M2[k] := ⟨_, rfl⟩
   have HV2 := hid hv
   have hkey : keyC v = keyC C[k] := by rw [hv]; simp only [hs2]; exact oldL_key hlt
   have HPM : Hid (∃ p ∈ nearL L, v.a = (p.1 : Nat) ∧ v.b = (p.2 : Nat)) := by
    obtain ⟨p, hp, h1, h2⟩ := HCP.out _ (List.getElem_mem hlt)
    unfold keyC at hkey
    simp only [Prod.mk.injEq] at hkey
    exact ⟨p, hp, by rw [hkey.1]; exact h1, by rw [hkey.2.1]; exact h2⟩
   have HKF : Hid (KF w7 (some ⟨gq, 0, none⟩) C.length cq M2 w9b) := ⟨hl2, hck, hcb, HKO9.out.bel, fun _ => ⟨gq, rfl, HKO9.out⟩⟩
   have HVX : Hid (0 < k → ∀ (h1 : k - 1 < M2.length), ordC (M2[k - 1]) v = -1) := fun h0 h1 => by
    obtain ⟨i, rfl⟩ : ∃ i, k = i + 1 := ⟨k - 1, by omega⟩
    have := oldL_ord (B := bp) HCS.out (k := i + 1 + 1) (i := i) hlt
    rw [hv]
    simp only [hs2]
    exact this
   have HMS : Hid (M2 = oldL bp C (k + 1)) := hs2
   clear HKO e0 e1 e2 e3 e4 e5 e6 e7 e8 e9 hcf hgl hw9 HM2 hM2 hs2 hl2 hv hkey hx HXM hb9 hnw hbw hk1
   have HM2 := hid HMS.out
   generalize w9b = w9 at *
   have HV := HV2
   by_cases h0 : 0 < k
   ·have hk9 : k - 1 < M2.length := by omega
    obtain ⟨u, hu⟩ : ∃ u, u = M2[k - 1] := ⟨_, rfl⟩
    have HU := hid hu
    have HOR := hid (order_calls u v)
    have hz : ordC u v = -1 := by rw [hu]; exact HVX.out h0 hk9
    rw [hz] at HOR
    have h0' : (k : Int) > 0 := by omega
    have hw1 : IntKind.i64.wrap ((k : Int) - 1) = ((k - 1 : Nat) : Int) := by rw [IntWalk.i64_in _ (by omega)]; omega
    have hlt1 : ((k - 1 : Nat) : Int) < (C.length : Int) := by omega
    have hlt0 : (0 : Int) ≤ ((k - 1 : Nat) : Int) := by omega
    clear hz hu HVX
    refine wp_region_noPanic ?_
    refine wp_region_U (S := (S2 (fun w' => CellsE layC w' gq 0 M2 ∧ SlE layPair w' A5 n5 c5 (nearL L) ∧ Below w9.heap.size w9 w'))) (T := (fun _ => 0)) (by kernel_rfl) (S2i0 ⟨CellsE.below (Below.refl _ _).drew HKO9.out.cl, HPP9.out.drew, (Below.refl _ _).drew⟩) (fun hH => ?_)
    have hWr5 : Weaker (S2 (fun w' => CellsE layC w' gq 0 M2 ∧ SlE layPair w' A5 n5 c5 (nearL L) ∧ Below w9.heap.size w9 w')) := weaker2 _
    refine Ut 0 57 30 0 0 (v := ?vr5_1) rfl hWr5 hH ?hyr5_1 ?_
    case hyr5_1 => (intro w' hSw; clear hSw; go_simp; try (with_reducible rfl))
    simp only [sB, sC]
    refine Ut 1 58 29 0 0 (v := ?vr5_2) rfl hWr5 hH ?hyr5_2 ?_
    case hyr5_2 => (intro w' hSw; clear hSw; go_simp; try (with_reducible rfl))
    simp only [sB, sC]
    refine Ut 2 59 28 0 0 (v := ?vr5_3) rfl hWr5 hH ?hyr5_3 ?_
    case hyr5_3 => (intro w' hSw; clear hSw; go_simp; try (with_reducible rfl))
    simp only [sB, sC]
    refine Ut 3 60 27 0 0 (v := ?vr5_4) rfl hWr5 hH ?hyr5_4 ?_
    case hyr5_4 => (intro w' hSw; clear hSw; go_simp; try (with_reducible rfl))
    simp only [sB, sC]
    refine Ut 4 61 26 0 0 (v := ?vr5_5) rfl hWr5 hH ?hyr5_5 ?_
    case hyr5_5 => (intro w' hSw; clear hSw; go_simp; try (with_reducible rfl))
    simp only [sB, sC]
    refine Ut 5 62 25 0 0 (v := ?vr5_6) rfl hWr5 hH ?hyr5_6 ?_
    case hyr5_6 => (intro w' hSw; clear hSw; go_simp; try (with_reducible rfl))
    simp only [sB, sC]
    refine Ut 6 63 24 0 0 (v := ?vr5_7) rfl hWr5 hH ?hyr5_7 ?_
    case hyr5_7 => (intro w' hSw; clear hSw; go_simp; try (with_reducible rfl))
    simp only [sB, sC]
    refine Ut 7 64 23 0 0 (v := ?vr5_8) rfl hWr5 hH ?hyr5_8 ?_
    case hyr5_8 => (intro w' hSw; replace hSw := S2o0 hSw; (try dsimp only at hSw); have q0 := hSw.1; have q1 := hSw.2.1; have q2 := hSw.2.2; obtain ⟨qa0_0, qa0_1, qa0_2, qa0_3, qa0_4, qa0_5, qa0_6, qa0_7, qa0_8, qa0_9⟩ := cells_ctz (q0) hk2 HV.out; obtain ⟨bb0_0, bb0_1, bb0_2, bb0_3, bb0_4, bb0_5, bb0_6, bb0_7, bb0_8, bb0_9⟩ := cells_ctz (q0) hk9 HU.out; go_simp; try (with_reducible rfl))
    simp only [sB, sC]
    refine Ut 8 65 22 0 0 (v := ?vr5_9) rfl hWr5 hH ?hyr5_9 ?_
    case hyr5_9 => (intro w' hSw; clear hSw; go_simp; try (with_reducible rfl))
    simp only [sB, sC]
    refine Ut 9 66 21 0 0 (v := ?vr5_10) rfl hWr5 hH ?hyr5_10 ?_
    case hyr5_10 => (intro w' hSw; clear hSw; go_simp; try (with_reducible rfl))
    simp only [sB, sC]
    refine Ut 10 67 20 0 0 (v := ?vr5_11) rfl hWr5 hH ?hyr5_11 ?_
    case hyr5_11 => (intro w' hSw; clear hSw; go_simp; try (with_reducible rfl))
    simp only [sB, sC]
    refine Ut 11 68 19 0 0 (v := ?vr5_12) rfl hWr5 hH ?hyr5_12 ?_
    case hyr5_12 => (intro w' hSw; replace hSw := S2o0 hSw; (try dsimp only at hSw); have q0 := hSw.1; have q1 := hSw.2.1; have q2 := hSw.2.2; obtain ⟨qa0_0, qa0_1, qa0_2, qa0_3, qa0_4, qa0_5, qa0_6, qa0_7, qa0_8, qa0_9⟩ := cells_ctz (q0) hk2 HV.out; obtain ⟨bb0_0, bb0_1, bb0_2, bb0_3, bb0_4, bb0_5, bb0_6, bb0_7, bb0_8, bb0_9⟩ := cells_ctz (q0) hk9 HU.out; go_simp; try (with_reducible rfl))
    simp only [sB, sC]
    refine U1 12 0 rfl (fun K hK => ?_)
    try clear hb
    go_simp
    (go_at_call 13; refine (HOR.out _).mono ?_; rintro e wn ⟨rfl, hb⟩)
    refine hK.out _ _ ?hsr5_13 (fun hH2 => ?hrr5_13)
    case hsr5_13 => exact S2i0 (by have hG := hH; replace hG := S2o0 hG; (try dsimp only at hG); have q0 := hG.1; have q1 := hG.2.1; have q2 := hG.2.2; exact ⟨CellsE.below hb q0, keepSlP hb q1, keepBelow hb q2⟩)
    clear hK K hH
    have hH := hH2
    clear hH2
    try simp only [Act.put, sA, sB, sC]
    refine Ut 13 70 17 0 0 (v := ?vr5_14) rfl hWr5 hH ?hyr5_14 ?_
    case hyr5_14 => (intro w' hSw; clear hSw; go_simp; try (with_reducible rfl))
    simp only [sB, sC]
    refine Ut 14 71 16 0 0 (v := ?vr5_15) rfl hWr5 hH ?hyr5_15 ?_
    case hyr5_15 => (intro w' hSw; clear hSw; go_simp; try (with_reducible rfl))
    simp only [sB, sC]
    refine Ut 15 72 15 0 0 (v := ?vr5_16) rfl hWr5 hH ?hyr5_16 ?_
    case hyr5_16 => (intro w' hSw; clear hSw; go_simp; try (with_reducible rfl))
    simp only [sB, sC]
    refine Ut 16 73 14 0 0 (v := ?vr5_17) rfl hWr5 hH ?hyr5_17 ?_
    case hyr5_17 => (intro w' hSw; clear hSw; go_simp; try (with_reducible rfl))
    simp only [sB, sC]
    refine Ut 17 74 13 0 0 (v := ?vr5_18) rfl hWr5 hH ?hyr5_18 ?_
    case hyr5_18 => (intro w' hSw; clear hSw; go_simp; try (with_reducible rfl))
    simp only [sB, sC]
    refine Ut 18 75 12 0 0 (v := ?vr5_19) rfl hWr5 hH ?hyr5_19 ?_
    case hyr5_19 => (intro w' hSw; clear hSw; go_simp; try (with_reducible rfl))
    simp only [sB, sC]
    refine Ut 19 76 11 0 0 (v := ?vr5_20) rfl hWr5 hH ?hyr5_20 ?_
    case hyr5_20 => (intro w' hSw; clear hSw; go_simp; try (with_reducible rfl))
    simp only [sB, sC]
    refine Ut 20 77 10 0 0 (v := ?vr5_21) rfl hWr5 hH ?hyr5_21 ?_
    case hyr5_21 => (intro w' hSw; clear hSw; go_simp; try (with_reducible rfl))
    simp only [sB, sC]
    refine Ut 21 78 9 0 0 (v := ?vr5_22) rfl hWr5 hH ?hyr5_22 ?_
    case hyr5_22 => (intro w' hSw; replace hSw := S2o0 hSw; (try dsimp only at hSw); have q0 := hSw.1; have q1 := hSw.2.1; have q2 := hSw.2.2; obtain ⟨qa0_0, qa0_1, qa0_2, qa0_3, qa0_4, qa0_5, qa0_6, qa0_7, qa0_8, qa0_9⟩ := cells_ctz (q0) hk2 HV.out; obtain ⟨bb0_0, bb0_1, bb0_2, bb0_3, bb0_4, bb0_5, bb0_6, bb0_7, bb0_8, bb0_9⟩ := cells_ctz (q0) hk9 HU.out; go_simp; try (with_reducible rfl))
    simp only [sB, sC]
    refine Ut 22 79 8 0 0 (v := ?vr5_23) rfl hWr5 hH ?hyr5_23 ?_
    case hyr5_23 => (intro w' hSw; clear hSw; go_simp; try (with_reducible rfl))
    simp only [sB, sC]
    refine Ut 23 80 7 0 0 (v := ?vr5_24) rfl hWr5 hH ?hyr5_24 ?_
    case hyr5_24 => (intro w' hSw; clear hSw; go_simp; try (with_reducible rfl))
    simp only [sB, sC]
    refine Ut 24 81 6 0 0 (v := ?vr5_25) rfl hWr5 hH ?hyr5_25 ?_
    case hyr5_25 => (intro w' hSw; clear hSw; go_simp; try (with_reducible rfl))
    simp only [sB, sC]
    refine Ut 25 82 5 0 0 (v := ?vr5_26) rfl hWr5 hH ?hyr5_26 ?_
    case hyr5_26 => (intro w' hSw; clear hSw; go_simp; try (with_reducible rfl))
    simp only [sB, sC]
    refine Ut 26 83 4 0 0 (v := ?vr5_27) rfl hWr5 hH ?hyr5_27 ?_
    case hyr5_27 => (intro w' hSw; replace hSw := S2o0 hSw; (try dsimp only at hSw); have q0 := hSw.1; have q1 := hSw.2.1; have q2 := hSw.2.2; obtain ⟨qa0_0, qa0_1, qa0_2, qa0_3, qa0_4, qa0_5, qa0_6, qa0_7, qa0_8, qa0_9⟩ := cells_ctz (q0) hk2 HV.out; obtain ⟨bb0_0, bb0_1, bb0_2, bb0_3, bb0_4, bb0_5, bb0_6, bb0_7, bb0_8, bb0_9⟩ := cells_ctz (q0) hk9 HU.out; go_simp; try (with_reducible rfl))
    simp only [sB, sC]
    refine Ut 27 84 3 0 0 (v := ?vr5_28) rfl hWr5 hH ?hyr5_28 ?_
    case hyr5_28 => (intro w' hSw; clear hSw; go_simp; try (with_reducible rfl))
    simp only [sB, sC]
    refine U1 28 0 rfl (fun K hK => ?_)
    try clear hb
    have hG := hH
    replace hG := S2o0 hG; (try dsimp only at hG); have fq0 := hG.1; have fq1 := hG.2.1; have fq2 := hG.2.2
    go_simp
    (go_at_call 14; refine (containsP_calls _ _ _ _ _ _ HPM.out _ fq1).mono ?_; rintro e wl ⟨rfl, hb⟩)
    refine hK.out _ _ ?hsr5_29 (fun hH2 => ?hrr5_29)
    case hsr5_29 => exact S2i0 (by have hG := hH; replace hG := S2o0 hG; (try dsimp only at hG); have q0 := hG.1; have q1 := hG.2.1; have q2 := hG.2.2; exact ⟨CellsE.below hb q0, keepSlP hb q1, keepBelow hb q2⟩)
    clear hK K hH
    have hH := hH2
    clear hH2
    try simp only [Act.put, sA, sB, sC]
    clear hG fq0 fq1 fq2
    refine Ut 29 86 1 0 0 (v := ?vr5_30) rfl hWr5 hH ?hyr5_30 ?_
    case hyr5_30 => (intro w' hSw; clear hSw; go_simp; try (with_reducible rfl))
    simp only [sB, sC]
    refine Ut 30 87 0 0 0 (v := ?vr5_31) rfl hWr5 hH ?hyr5_31 ?_
    case hyr5_31 => (intro w' hSw; clear hSw; go_simp; try (with_reducible rfl))
    simp only [sB, sC]
    refine wpAnyU_done (by kernel_rfl) ?_ _ _
    refine NoPanic.normal ?_
    clear hWr5
    replace hH := S2o0 hH
    (try dsimp only at hH)
    have t0 := hH.1
    have t1 := hH.2.1
    have t2 := hH.2.2
    have HB12 := hid t2
    clear t0 t1 t2
    go_wp2
    go_roundw
    case rel => exact ⟨k + 1, hlt, by go_num, by rw [← HM2.out]; exact HKF.out.keep HB12.out⟩
    case measure => simp [intOf]; omega
   ·obtain rfl : k = 0 := by omega
    clear HVX h0
    refine wp_region_noPanic ?_
    refine wp_region_U (S := (S2 (fun w' => CellsE layC w' gq 0 M2 ∧ SlE layPair w' A5 n5 c5 (nearL L) ∧ Below w9.heap.size w9 w'))) (T := (fun _ => 0)) (by kernel_rfl) (S2i0 ⟨CellsE.below (Below.refl _ _).drew HKO9.out.cl, HPP9.out.drew, (Below.refl _ _).drew⟩) (fun hH => ?_)
    have hWr6 : Weaker (S2 (fun w' => CellsE layC w' gq 0 M2 ∧ SlE layPair w' A5 n5 c5 (nearL L) ∧ Below w9.heap.size w9 w')) := weaker2 _
    refine Ut 0 57 30 0 0 (v := ?vr6_1) rfl hWr6 hH ?hyr6_1 ?_
    case hyr6_1 => (intro w' hSw; clear hSw; go_simp; try (with_reducible rfl))
    simp only [sB, sC]
    refine Ut 1 58 29 0 0 (v := ?vr6_2) rfl hWr6 hH ?hyr6_2 ?_
    case hyr6_2 => (intro w' hSw; clear hSw; go_simp; try (with_reducible rfl))
    simp only [sB, sC]
    refine Ut 2 59 28 0 0 (v := ?vr6_3) rfl hWr6 hH ?hyr6_3 ?_
    case hyr6_3 => (intro w' hSw; clear hSw; go_simp; try (with_reducible rfl))
    simp only [sB, sC]
    refine U_skips (by kernel_rfl) (fun _ _ _ _ h => h) hWr6 0 0 (by omega) hH [(3, 60), (4, 61), (5, 62), (6, 63), (7, 64), (8, 65), (9, 66), (10, 67), (11, 68), (12, 69), (13, 70)] 17 _ _ _ (by kernel_rfl) (by kernel_rfl) ?_
    simp only [tsetUndef, List.set_cons_zero, List.set_cons_succ]
    refine Ut 14 71 16 0 0 (v := ?vr6_4) rfl hWr6 hH ?hyr6_4 ?_
    case hyr6_4 => (intro w' hSw; clear hSw; go_simp; try (with_reducible rfl))
    simp only [sB, sC]
    refine Ut 15 72 15 0 0 (v := ?vr6_5) rfl hWr6 hH ?hyr6_5 ?_
    case hyr6_5 => (intro w' hSw; clear hSw; go_simp; try (with_reducible rfl))
    simp only [sB, sC]
    refine Ut 16 73 14 0 0 (v := ?vr6_6) rfl hWr6 hH ?hyr6_6 ?_
    case hyr6_6 => (intro w' hSw; clear hSw; go_simp; try (with_reducible rfl))
    simp only [sB, sC]
    refine Ut 17 74 13 0 0 (v := ?vr6_7) rfl hWr6 hH ?hyr6_7 ?_
    case hyr6_7 => (intro w' hSw; clear hSw; go_simp; try (with_reducible rfl))
    simp only [sB, sC]
    refine Ut 18 75 12 0 0 (v := ?vr6_8) rfl hWr6 hH ?hyr6_8 ?_
    case hyr6_8 => (intro w' hSw; clear hSw; go_simp; try (with_reducible rfl))
    simp only [sB, sC]
    refine Ut 19 76 11 0 0 (v := ?vr6_9) rfl hWr6 hH ?hyr6_9 ?_
    case hyr6_9 => (intro w' hSw; clear hSw; go_simp; try (with_reducible rfl))
    simp only [sB, sC]
    refine Ut 20 77 10 0 0 (v := ?vr6_10) rfl hWr6 hH ?hyr6_10 ?_
    case hyr6_10 => (intro w' hSw; clear hSw; go_simp; try (with_reducible rfl))
    simp only [sB, sC]
    refine Ut 21 78 9 0 0 (v := ?vr6_11) rfl hWr6 hH ?hyr6_11 ?_
    case hyr6_11 => (intro w' hSw; replace hSw := S2o0 hSw; (try dsimp only at hSw); have q0 := hSw.1; have q1 := hSw.2.1; have q2 := hSw.2.2; obtain ⟨qa0_0, qa0_1, qa0_2, qa0_3, qa0_4, qa0_5, qa0_6, qa0_7, qa0_8, qa0_9⟩ := cells_ctz (q0) hk2 HV.out; go_simp; try (with_reducible rfl))
    simp only [sB, sC]
    refine Ut 22 79 8 0 0 (v := ?vr6_12) rfl hWr6 hH ?hyr6_12 ?_
    case hyr6_12 => (intro w' hSw; clear hSw; go_simp; try (with_reducible rfl))
    simp only [sB, sC]
    refine Ut 23 80 7 0 0 (v := ?vr6_13) rfl hWr6 hH ?hyr6_13 ?_
    case hyr6_13 => (intro w' hSw; clear hSw; go_simp; try (with_reducible rfl))
    simp only [sB, sC]
    refine Ut 24 81 6 0 0 (v := ?vr6_14) rfl hWr6 hH ?hyr6_14 ?_
    case hyr6_14 => (intro w' hSw; clear hSw; go_simp; try (with_reducible rfl))
    simp only [sB, sC]
    refine Ut 25 82 5 0 0 (v := ?vr6_15) rfl hWr6 hH ?hyr6_15 ?_
    case hyr6_15 => (intro w' hSw; clear hSw; go_simp; try (with_reducible rfl))
    simp only [sB, sC]
    refine Ut 26 83 4 0 0 (v := ?vr6_16) rfl hWr6 hH ?hyr6_16 ?_
    case hyr6_16 => (intro w' hSw; replace hSw := S2o0 hSw; (try dsimp only at hSw); have q0 := hSw.1; have q1 := hSw.2.1; have q2 := hSw.2.2; obtain ⟨qa0_0, qa0_1, qa0_2, qa0_3, qa0_4, qa0_5, qa0_6, qa0_7, qa0_8, qa0_9⟩ := cells_ctz (q0) hk2 HV.out; go_simp; try (with_reducible rfl))
    simp only [sB, sC]
    refine Ut 27 84 3 0 0 (v := ?vr6_17) rfl hWr6 hH ?hyr6_17 ?_
    case hyr6_17 => (intro w' hSw; clear hSw; go_simp; try (with_reducible rfl))
    simp only [sB, sC]
    refine U1 28 0 rfl (fun K hK => ?_)
    try clear hb
    have hG := hH
    replace hG := S2o0 hG; (try dsimp only at hG); have fq0 := hG.1; have fq1 := hG.2.1; have fq2 := hG.2.2
    go_simp
    (go_at_call 14; refine (containsP_calls _ _ _ _ _ _ HPM.out _ fq1).mono ?_; rintro e wl ⟨rfl, hb⟩)
    refine hK.out _ _ ?hsr6_18 (fun hH2 => ?hrr6_18)
    case hsr6_18 => exact S2i0 (by have hG := hH; replace hG := S2o0 hG; (try dsimp only at hG); have q0 := hG.1; have q1 := hG.2.1; have q2 := hG.2.2; exact ⟨CellsE.below hb q0, keepSlP hb q1, keepBelow hb q2⟩)
    clear hK K hH
    have hH := hH2
    clear hH2
    try simp only [Act.put, sA, sB, sC]
    clear hG fq0 fq1 fq2
    refine Ut 29 86 1 0 0 (v := ?vr6_19) rfl hWr6 hH ?hyr6_19 ?_
    case hyr6_19 => (intro w' hSw; clear hSw; go_simp; try (with_reducible rfl))
    simp only [sB, sC]
    refine Ut 30 87 0 0 0 (v := ?vr6_20) rfl hWr6 hH ?hyr6_20 ?_
    case hyr6_20 => (intro w' hSw; clear hSw; go_simp; try (with_reducible rfl))
    simp only [sB, sC]
    refine wpAnyU_done (by kernel_rfl) ?_ _ _
    refine NoPanic.normal ?_
    clear hWr6
    replace hH := S2o0 hH
    (try dsimp only at hH)
    have t0 := hH.1
    have t1 := hH.2.1
    have t2 := hH.2.2
    have HB12 := hid t2
    clear t0 t1 t2
    go_wp2
    go_roundw
    case rel => exact ⟨0 + 1, hlt, by go_num, by rw [← HM2.out]; exact HKF.out.keep HB12.out⟩
    case measure => simp [intOf]; omega
  ·have hke : k = C.length := by omega
   subst hke
   have HLL := hid (HL.out.below hkf.bel)
   have HKFE := hid hkf
   have HCC := hid (HS3.out.below hkf.bel)
   have HCR : Hid (carL (oldL bp C C.length) C = oldL bp C C.length) := oldL_car HCS.out
   have HFE2 : Hid (findE L (oldL bp C C.length) = oldL bp C C.length) := by show _ = _; unfold findE; rw [if_pos HBE.out, ← HC.out]; exact HCR.out
   have HBE1 : Below w.heap.size w wo := keepBelow hkf.bel HBW.out
   have hll := oldL_len bp C C.length
   have HLN := hid hll
   clear hkf hll
   generalize oldL bp C C.length = O at *
   go_wp2_with fail
   refine (kfind_calls A1 Aq L.length c1 C.length cq L O _ HLL.out HKFE.out.sl).mono ?_
   rintro e w10 ⟨A10, n10, c10, rfl, hs10, hb⟩
   rw [HFE2.out] at hs10
   replace HKFE := hid (HKFE.out.keep hb)
   replace HCC := hid (HCC.out.below hb)
   replace HBE1 := keepBelow hb HBE1
   rw [HBE.out]
   have HEQ := hid (equalCt_calls A10 Aq n10 c10 C.length cq O w10 hs10 HKFE.out.sl)
   clear hb hs10
   go_wp2_with fail
   refine HEQ.out.mono ?_
   rintro e w11 ⟨rfl, hb⟩
   replace HKFE := hid (HKFE.out.keep hb)
   replace HCC := hid (HCC.out.below hb)
   replace HBE1 := keepBelow hb HBE1
   clear hb HEQ
   go_wp2_with fail
   refine (carry_calls Aq A3 C.length cq C.length c3 O C _ HKFE.out.sl HCC.out (by omega)).mono ?_
   rintro e w12 ⟨A12, n12, c12, rfl, hs12, hb⟩
   rw [HCR.out] at hs12
   replace HKFE := hid (HKFE.out.keep hb)
   replace HBE1 := keepBelow hb HBE1
   have HEQ := hid (equalCt_calls A12 Aq n12 c12 C.length cq O w12 hs12 HKFE.out.sl)
   clear hb hs12
   go_wp2_with fail
   refine HEQ.out.mono ?_
   rintro e w13 ⟨rfl, hb⟩
   replace HBE1 := keepBelow hb HBE1
   clear hb HEQ
   go_wp2
   go_returns
   exact ret_bool (by simp) HBE1
end
end Go.Proofs.YtiaoandbdgdecaaGreat
