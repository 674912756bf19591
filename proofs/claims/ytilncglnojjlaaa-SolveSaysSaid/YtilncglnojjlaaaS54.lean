/- Parts of a proof: contracts and laws. -/
import Derived.Test.YtilncglnojjlaaaS45
namespace Go.Proofs.Ytilncglnojjlaaa
section
set_option linter.unusedVariables false
set_option linter.unusedSimpArgs false
open Go.RowKit

def cdA : Code → Code
  | .seq a _ => a
  | c => c
def cdB : Code → Code
  | .seq _ b => b
  | c => c
set_option maxRecDepth 100000 in
set_option maxHeartbeats 32000000 in
theorem rsolve_tail (A B : Option Addr) (c c' : Nat) (L : List BE) (C : List Ct) (st : Int) (rn : Nat) (w wB : World) (g gc gq cap cc cq : Nat) (R : List Rb) (Q : List QB) (RQ : List Rw)
    (h64 : L.length ≤ 64) (hc : C.length ≤ 4096) (hrn : rn ≤ 32) (hCl : 0 < C.length) (hLl : 0 < L.length) (hg3 : L.length ≤ cap) (hg4 : cap ≤ maxLen) (hq3 : C.length ≤ cc) (hq4 : cc ≤ maxLen) (hcq : R.length ≤ cq)
    (HV : Hid (∀ x ∈ L, bodyE x.b x.l = 0)) (HCS : Hid (∀ x ∈ C, CtOk L.length x)) (HCAP : Hid (L.length ≤ cap ∧ cap ≤ maxLen ∧ C.length ≤ cc ∧ cc ≤ maxLen)) (HSZ : Hid (Sz wB g gc gq L C R wB)) (HBB : Hid (∀ w', Gr2 wB w' g gc → Below w.heap.size w w')) (HQL : Hid (Q = L.map valB)) (HRQ : Hid (RQ = rowsQ Q C st)) (HRLN : Hid (R.length = C.length))
    (HROW : Hid (∀ (k : Nat) (hk : k < R.length) (x : Ct), C[k]? = some x → R[k] = ((x.nx, x.ny), rowQ Q st x))) (HBN : Hid (∀ r ∈ RQ, 0 ≤ r.bound)) (HCQ : Hid (∀ x ∈ C, CtOk Q.length x)) (HWL : Hid (∀ k, LikeL Q (warmTo Q C RQ k))) (HCL : Hid (0 < C.length)) (HM0 : Hid (L.map valB = warmTo Q C RQ 0))
    (PQ : Exit → Act → World → Prop) (hPQ : PQ = bodyPost Try.prog Try.f11 (fun e w' => ∃ A' n1 c1 L' B' m d C', e = .returned (.tuple #[.slice A' n1 c1, .slice B' m d]) ∧ SlB w' A' n1 c1 L' ∧ SlE layC w' B' m d C' ∧ (L'.map valB, C') = solveQ (L.map valB) C st rn ∧ Below w.heap.size w w')) (K K1 : Act → World → Prop)
    (hK1 : ∀ (a : Act) (w : World), Code.wp Try.prog (cdB (cdB (cdB (cdB (cdB ((Try.f11).body.getD .skip)))))) PQ a w → K1 a w) (hK : ∀ (a : Act) (w : World), Code.wp Try.prog (cdB (cdA (cdB (cdB (cdB (cdB ((Try.f11).body.getD .skip))))))) (Exit.then K1 PQ) a w → K a w)
    (u14 u15 u16 u17 u18 u19 u30 u31 u32 u33 u34 u35 u36 u37 u38 u39 u40 u41 u42 u43 u44 u45 u46 u47 u48 u49 u50 u51 u52 u53 u54 u55 u56 u57 u58 u59 u60 u61 u62 u63 u64 u65 u66 u67 u68 u69 u70 u71 u72 u73 u74 u75 u76 u77 u78 u79 u80 u81 u82 u83 u84 u85 u86 u87 u88 u89 u90 u91 u92 u93 u94 u95 u96 u97 u98 u99 u100 u101 u102 u103 u104 u105 u106 u107 u108 u109 u110 u111 u112 u113 u114 u115 u116 u117 u118 u119 u120 u121 u122 u123 u124 u125 u126 u127 u128 u129 u130 u131 u132 u133 u134 u135 u136 u137 u138 u139 : Value) :
    Code.wp Try.prog (cdA (cdA (cdB (cdB (cdB (cdB ((Try.f11).body.getD .skip))))))) (Exit.then K (Exit.then K1 PQ)) ⟨#[.slice A L.length c, .slice B C.length c', .int .i64 st, .int .i64 rn, undef, undef, undef, undef, .slice none 0 0, .slice none 0 0, .slice (some ⟨g, 0, none⟩) L.length cap, .slice (some ⟨gc, 0, none⟩) C.length cc, .slice (some ⟨gq, 0, none⟩) R.length cq, undef, u14, u15, u16, u17, u18, u19, undef, undef, undef, undef, undef, undef, undef, undef, undef, undef, u30, u31, u32, u33, u34, u35, u36, u37, u38, u39, u40, u41, u42, u43, u44, u45, u46, u47, u48, u49, u50, u51, u52, u53, u54, u55, u56, u57, u58, u59, u60, u61, u62, u63, u64, u65, u66, u67, u68, u69, u70, u71, u72, u73, u74, u75, u76, u77, u78, u79, u80, u81, u82, u83, u84, u85, u86, u87, u88, u89, u90, u91, u92, u93, u94, u95, u96, u97, u98, u99, u100, u101, u102, u103, u104, u105, u106, u107, u108, u109, u110, u111, u112, u113, u114, u115, u116, u117, u118, u119, u120, u121, u122, u123, u124, u125, u126, u127, u128, u129, u130, u131, u132, u133, u134, u135, u136, u137, u138, u139, undef, undef, undef, undef, undef, undef, undef, undef, undef, undef, undef, undef, undef, undef, undef, undef, undef, undef, undef, undef, undef, undef, undef, undef, undef, undef, undef, undef, undef, undef, undef, undef, undef, undef, undef, undef, undef, undef, undef, undef, undef, undef, undef, undef, undef, undef, undef, undef, undef, undef, undef, undef, undef, undef, undef, undef, undef, undef, undef, undef, undef, undef, undef, undef, undef, undef, undef, undef, undef, undef, undef, undef, undef, undef, undef, undef, undef, undef, undef, undef, undef, undef, undef, undef, undef, undef, undef, undef, undef, undef, undef, undef, undef, undef, undef, undef, undef, undef, undef, undef, undef, undef, undef, undef, undef, undef, undef, undef, undef, undef, undef, undef, undef, undef, undef, undef, undef, undef, undef, undef, undef, undef, undef, undef, undef, undef, undef, undef, undef, undef, undef, undef, undef, undef, undef, undef, undef, undef, undef, undef, undef, undef, undef, undef, undef, undef, undef, undef, undef, undef, undef, undef, undef], []⟩ wB := by
  simp only [cdA, cdB, Try.f11, Option.getD] at hK1 hK ⊢
  subst hPQ
  go_wp2
  go_loopw [142] (fun i wr => ∃ (k : Nat) (L2 : List BE), k ≤ C.length ∧ i = .int .i64 k ∧ Sz wB g gc gq L2 C R wr ∧ L2.map valB = warmTo Q C RQ k) (fun i _ => C.length - (intOf i).toNat)
  case atStart => exact ⟨0, L, Nat.zero_le _, rfl, HSZ.out, HM0.out⟩
  case round =>
    clear HSZ HM0
    obtain ⟨k, L2, hk, rfl, hsr, hmp⟩ := hrel
    obtain ⟨wk, rfl⟩ : ∃ wk : World, wk = wr := ⟨_, rfl⟩
    have HSR := hid hsr
    have HMP := hid hmp
    clear hsr hmp
    have HLLL2 : Hid (L2.length = L.length) := by have h9 := (HWL.out k).len; rw [← HMP.out, List.length_map, HQL.out, List.length_map] at h9; exact h9
    by_cases hlt : k < C.length
    · obtain ⟨x, hx⟩ : ∃ x, x = C[k] := ⟨_, rfl⟩
      have hxm : x ∈ C := by rw [hx]; exact List.getElem_mem hlt
      have hok : CtOk L.length x := HCS.out x hxm
      have hcx : C[k]? = some x := by rw [List.getElem?_eq_getElem hlt, hx]
      have hkR : k < R.length := by have := HRLN.out; omega
      obtain ⟨r, hr⟩ : ∃ r, r = rowQ Q st x := ⟨_, rfl⟩
      have hRk : (((x.nx, x.ny), r) : Rb) = R[k]'hkR := by rw [hr]; exact (HROW.out k hkR x hcx).symm
      have hRQ : RQ[k]? = some r := by rw [HRQ.out]; unfold rowsQ; rw [List.getElem?_map, hcx, hr]; rfl
      obtain ⟨d0, d1, d2, d3, d4, d5, d6, d7, d8, d9⟩ := cells_ct0 (x := x) HSR.out.cl hlt hcx
      obtain ⟨b0, b1, b2, b3, b4, b5, b6, b7⟩ := cells_rb HSR.out.rl hkR hRk
      dsimp only at b0 b1 b2 b3 b4 b5 b6 b7
      have hbo := HSR.out.cl.lt
      have hbq := HSR.out.rl.lt
      have hlt' : (k : Int) < (C.length : Int) := by omega
      have hltR : (k : Int) < (R.length : Int) := by omega
      have hkw : IntKind.i64.wrap ((k : Int) + 1) = (k : Int) + 1 := IntWalk.i64_in _ (by omega)
      obtain ⟨ka, hxa⟩ : ∃ ka : Nat, x.a = ka := ⟨x.a.toNat, by have := hok.1; omega⟩
      obtain ⟨kb, hxb⟩ : ∃ kb : Nat, x.b = kb := ⟨x.b.toNat, by have := hok.1; omega⟩
      have HKL : Hid (ka < kb ∧ kb < L.length ∧ L.length ≤ 64) := by have := hok.1; show _ ∧ _ ∧ _; omega
      have HXI := hid (And.intro hxa hxb)
      obtain ⟨p1, hp1⟩ : ∃ z, z = mulF x.nx x.push := ⟨_, rfl⟩
      obtain ⟨p2, hp2⟩ : ∃ z, z = mulF x.ny x.push := ⟨_, rfl⟩
      obtain ⟨u1, hu1⟩ : ∃ z, z = mulF r.t1 x.sli := ⟨_, rfl⟩
      obtain ⟨u2, hu2⟩ : ∃ z, z = mulF r.t2 x.sli := ⟨_, rfl⟩
      obtain ⟨j1, hj1⟩ : ∃ z, z = addF p1 u1 := ⟨_, rfl⟩
      obtain ⟨j2, hj2⟩ : ∃ z, z = addF p2 u2 := ⟨_, rfl⟩
      have HSC1 := hid (vscale_calls x.nx x.ny x.push)
      rw [← hp1, ← hp2] at HSC1
      have HSC2 := hid (vscale_calls r.t1 r.t2 x.sli)
      rw [← hu1, ← hu2] at HSC2
      have HAD := hid (vadd_calls p1 p2 u1 u2)
      rw [← hj1, ← hj2] at HAD
      have HJB : Hid ((-1099511627776 ≤ j1 ∧ j1 ≤ 1099511627776) ∧ (-1099511627776 ≤ j2 ∧ j2 ≤ 1099511627776)) := by rw [hj1, hj2]; exact ⟨addF_bdS _ _, addF_bdS _ _⟩
      have HPSH : Hid (∀ w', Sz wB g gc gq L2 C R w' → (-1099511627776 ≤ j1 ∧ j1 ≤ 1099511627776) → (-1099511627776 ≤ j2 ∧ j2 ≤ 1099511627776) → Calls Try.prog 49 #[.slice (some ⟨g, 0, none⟩) L.length cap, .int .i64 x.a, .int .i64 x.b, vecV x.px x.py, vecV x.px x.py, vecV j1 j2] w' (RetPull3 g L2 (pushX (L2.map valB) x j1 j2) w')) := fun w' hr h1 h2 => by
        have h9 := rpushed3_calls cap g ka kb L2 x.px x.py x.px x.py j1 j2 w' hr.bl (fun y hy bx off e => Nat.lt_of_lt_of_le (hr.lo y hy bx off e).1 hr.gr.size) HKL.out.1 (by have := HKL.out; rw [HLLL2.out]; omega) (by have := HKL.out; rw [HLLL2.out]; omega) (by have := HKL.out; rw [HLLL2.out]; omega) _ _ rfl rfl h1 h2
        rw [HLLL2.out, ← HXI.out.1, ← HXI.out.2] at h9
        unfold pushX
        rw [show x.a.toNat = ka from by rw [HXI.out.1]; exact Int.toNat_natCast ka, show x.b.toNat = kb from by rw [HXI.out.2]; exact Int.toNat_natCast kb]
        exact h9
      have HST : Hid (warmTo Q C RQ (k + 1) = pushX (L2.map valB) x j1 j2) := by
        show _ = _
        rw [warmTo_succ (r := r) hcx hRQ, ← HMP.out]
        unfold warmQ
        rw [← hp1, ← hp2, ← hu1, ← hu2, ← hj1, ← hj2]
      obtain ⟨wj, hwj⟩ : ∃ wj, wj = wk.alloc (.cells #[.int .i64 x.a, .int .i64 x.b, .int .i64 x.id, .int .i64 x.px, .int .i64 x.py, .int .i64 x.nx, .int .i64 x.ny, .int .i64 x.dep, .int .i64 x.push, .int .i64 x.sli] 36) := ⟨_, rfl⟩
      obtain ⟨gx, hgx⟩ : ∃ gx, gx = wk.heap.size := ⟨_, rfl⟩
      have hbj : Below wk.heap.size wk wj := by rw [hwj]; go_grown
      have HCGj := hid (show Cg wj gx x by rw [hwj, hgx]; exact ⟨by go_simp, by go_simp, by go_simp, by go_simp, by go_simp, by go_simp, by go_simp, by go_simp, by go_simp, by go_simp⟩)
      have HSRj := hid (keepSz hbj HSR.out)
      clear hx hxm hxa hxb hr hok hcx hp1 hp2 hu1 hu2 hj1 hj2 HSR hRk hRQ
      replace b0 := keepCell hbj b0
      replace b1 := keepCell hbj b1
      replace b2 := keepCell hbj b2
      replace b3 := keepCell hbj b3
      replace b4 := keepCell hbj b4
      replace b5 := keepCell hbj b5
      replace b6 := keepCell hbj b6
      replace b7 := keepCell hbj b7
      replace hbq := Nat.lt_of_lt_of_le hbq hbj.size
      clear hbj
      go_upto_region 23 with fail
      rw [← hwj, ← hgx]
      clear hwj hgx d0 d1 d2 d3 d4 d5 d6 d7 d8 d9 hbo
      obtain ⟨wl, hwl⟩ : ∃ wl, wl = wj.alloc (.cells #[.int .i64 x.nx, .int .i64 x.ny, .int .i64 r.t1, .int .i64 r.t2, .int .i64 r.ease, .int .i64 r.slip, .int .i64 r.lift, .int .i64 r.bound] 89) := ⟨_, rfl⟩
      obtain ⟨gr, hgr⟩ : ∃ gr, gr = wj.heap.size := ⟨_, rfl⟩
      have hbl : Below wj.heap.size wj wl := by rw [hwl]; go_grown
      have HR8 := hid (show R8 wl gr x.nx x.ny r.t1 r.t2 r.ease r.slip r.lift r.bound by rw [hwl, hgr]; exact ⟨by go_simp, by go_simp, by go_simp, by go_simp, by go_simp, by go_simp, by go_simp, by go_simp, fun j => by go_simp⟩)
      have HCG := hid (keepCg hbl HCGj.out)
      have HSR := hid (keepSz hbl HSRj.out)
      clear HCGj HSRj hbl
      go_upto_region 24 with fail
      rw [← hwl, ← hgr]
      clear hwl hgr b0 b1 b2 b3 b4 b5 b6 b7 hbq
      refine wp_region_noPanic ?_
      refine wp_region_U (S := (S2 (fun w' => Sz wB g gc gq L2 C R w' ∧ Cg w' gx x ∧ R8 w' gr x.nx x.ny r.t1 r.t2 r.ease r.slip r.lift r.bound))) (T := (fun j => [0, 0, 0, 0, 0, 0, 0, 0, 0, 0, 0, 0, 0, 0, 0, 0, 0, 0, 0, 0, 1].getD j 0)) (by kernel_rfl) (S2i0 ⟨HSR.out.drew, HCG.out.drew, HR8.out.drew⟩) (fun hH => ?_)
      have hWr13 : Weaker (S2 (fun w' => Sz wB g gc gq L2 C R w' ∧ Cg w' gx x ∧ R8 w' gr x.nx x.ny r.t1 r.t2 r.ease r.slip r.lift r.bound)) := weaker2 _
      refine U_take 0 151 20 0 0 (v := ?vr13_1) rfl (by kernel_rfl) (by kernel_rfl) hWr13 (by kernel_rfl) (by kernel_rfl) (by kernel_rfl) (by kernel_rfl) (by kernel_rfl) (by kernel_rfl) (fun _ _ _ _ h => h) (by kernel_rfl) ?hyr13_1 (by omega) hH ?_
      case hyr13_1 => (intro w' hSw; clear hSw; go_simp; try (with_reducible rfl))
      simp only [List.set_cons_zero, List.set_cons_succ]
      refine U_take 1 152 19 0 0 (v := ?vr13_2) rfl (by kernel_rfl) (by kernel_rfl) hWr13 (by kernel_rfl) (by kernel_rfl) (by kernel_rfl) (by kernel_rfl) (by kernel_rfl) (by kernel_rfl) (fun _ _ _ _ h => h) (by kernel_rfl) ?hyr13_2 (by omega) hH ?_
      case hyr13_2 => (intro w' hSw; clear hSw; go_simp; try (with_reducible rfl))
      simp only [List.set_cons_zero, List.set_cons_succ]
      refine U_take 2 153 18 0 0 (v := ?vr13_3) rfl (by kernel_rfl) (by kernel_rfl) hWr13 (by kernel_rfl) (by kernel_rfl) (by kernel_rfl) (by kernel_rfl) (by kernel_rfl) (by kernel_rfl) (fun _ _ _ _ h => h) (by kernel_rfl) ?hyr13_3 (by omega) hH ?_
      case hyr13_3 => (intro w' hSw; replace hSw := S2o0 hSw; (try dsimp only at hSw); have q0 := hSw.1; have q1 := hSw.2.1; have q2 := hSw.2.2; obtain ⟨qa1_0, qa1_1, qa1_2, qa1_3, qa1_4, qa1_5, qa1_6, qa1_7, qa1_8, qa1_9⟩ := id q1; obtain ⟨qa2_0, qa2_1, qa2_2, qa2_3, qa2_4, qa2_5, qa2_6, qa2_7, qa2_f⟩ := id q2; go_simp; try (with_reducible rfl))
      simp only [List.set_cons_zero, List.set_cons_succ]
      refine U_take 3 154 17 0 0 (v := ?vr13_4) rfl (by kernel_rfl) (by kernel_rfl) hWr13 (by kernel_rfl) (by kernel_rfl) (by kernel_rfl) (by kernel_rfl) (by kernel_rfl) (by kernel_rfl) (fun _ _ _ _ h => h) (by kernel_rfl) ?hyr13_4 (by omega) hH ?_
      case hyr13_4 => (intro w' hSw; clear hSw; go_simp; try (with_reducible rfl))
      simp only [List.set_cons_zero, List.set_cons_succ]
      refine U_take 4 155 16 0 0 (v := ?vr13_5) rfl (by kernel_rfl) (by kernel_rfl) hWr13 (by kernel_rfl) (by kernel_rfl) (by kernel_rfl) (by kernel_rfl) (by kernel_rfl) (by kernel_rfl) (fun _ _ _ _ h => h) (by kernel_rfl) ?hyr13_5 (by omega) hH ?_
      case hyr13_5 => (intro w' hSw; replace hSw := S2o0 hSw; (try dsimp only at hSw); have q0 := hSw.1; have q1 := hSw.2.1; have q2 := hSw.2.2; obtain ⟨qa1_0, qa1_1, qa1_2, qa1_3, qa1_4, qa1_5, qa1_6, qa1_7, qa1_8, qa1_9⟩ := id q1; obtain ⟨qa2_0, qa2_1, qa2_2, qa2_3, qa2_4, qa2_5, qa2_6, qa2_7, qa2_f⟩ := id q2; go_simp; try (with_reducible rfl))
      simp only [List.set_cons_zero, List.set_cons_succ]
      refine U_take 5 156 15 0 0 (v := ?vr13_6) rfl (by kernel_rfl) (by kernel_rfl) hWr13 (by kernel_rfl) (by kernel_rfl) (by kernel_rfl) (by kernel_rfl) (by kernel_rfl) (by kernel_rfl) (fun _ _ _ _ h => h) (by kernel_rfl) ?hyr13_6 (by omega) hH ?_
      case hyr13_6 => (intro w' hSw; clear hSw; go_simp; try (with_reducible rfl))
      simp only [List.set_cons_zero, List.set_cons_succ]
      refine U_take 6 157 14 0 0 (v := ?vr13_7) rfl (by kernel_rfl) (by kernel_rfl) hWr13 (by kernel_rfl) (by kernel_rfl) (by kernel_rfl) (by kernel_rfl) (by kernel_rfl) (by kernel_rfl) (fun _ _ _ _ h => h) (by kernel_rfl) ?hyr13_7 (by omega) hH ?_
      case hyr13_7 => (intro w' hSw; replace hSw := S2o0 hSw; (try dsimp only at hSw); have q0 := hSw.1; have q1 := hSw.2.1; have q2 := hSw.2.2; obtain ⟨qa1_0, qa1_1, qa1_2, qa1_3, qa1_4, qa1_5, qa1_6, qa1_7, qa1_8, qa1_9⟩ := id q1; obtain ⟨qa2_0, qa2_1, qa2_2, qa2_3, qa2_4, qa2_5, qa2_6, qa2_7, qa2_f⟩ := id q2; go_simp; try (with_reducible rfl))
      simp only [List.set_cons_zero, List.set_cons_succ]
      refine U_take 7 158 13 0 0 (v := ?vr13_8) rfl (by kernel_rfl) (by kernel_rfl) hWr13 (by kernel_rfl) (by kernel_rfl) (by kernel_rfl) (by kernel_rfl) (by kernel_rfl) (by kernel_rfl) (fun _ _ _ _ h => h) (by kernel_rfl) ?hyr13_8 (by omega) hH ?_
      case hyr13_8 => (intro w' hSw; clear hSw; go_simp; try (with_reducible rfl))
      simp only [List.set_cons_zero, List.set_cons_succ]
      refine U_take 8 159 12 0 0 (v := ?vr13_9) rfl (by kernel_rfl) (by kernel_rfl) hWr13 (by kernel_rfl) (by kernel_rfl) (by kernel_rfl) (by kernel_rfl) (by kernel_rfl) (by kernel_rfl) (fun _ _ _ _ h => h) (by kernel_rfl) ?hyr13_9 (by omega) hH ?_
      case hyr13_9 => (intro w' hSw; replace hSw := S2o0 hSw; (try dsimp only at hSw); have q0 := hSw.1; have q1 := hSw.2.1; have q2 := hSw.2.2; obtain ⟨qa1_0, qa1_1, qa1_2, qa1_3, qa1_4, qa1_5, qa1_6, qa1_7, qa1_8, qa1_9⟩ := id q1; obtain ⟨qa2_0, qa2_1, qa2_2, qa2_3, qa2_4, qa2_5, qa2_6, qa2_7, qa2_f⟩ := id q2; go_simp; try (with_reducible rfl))
      simp only [List.set_cons_zero, List.set_cons_succ]
      refine U_take 9 160 11 0 0 (v := ?vr13_10) rfl (by kernel_rfl) (by kernel_rfl) hWr13 (by kernel_rfl) (by kernel_rfl) (by kernel_rfl) (by kernel_rfl) (by kernel_rfl) (by kernel_rfl) (fun _ _ _ _ h => h) (by kernel_rfl) ?hyr13_10 (by omega) hH ?_
      case hyr13_10 => (intro w' hSw; clear hSw; go_simp; try (with_reducible rfl))
      simp only [List.set_cons_zero, List.set_cons_succ]
      refine U_take 10 161 10 0 0 (v := ?vr13_11) rfl (by kernel_rfl) (by kernel_rfl) hWr13 (by kernel_rfl) (by kernel_rfl) (by kernel_rfl) (by kernel_rfl) (by kernel_rfl) (by kernel_rfl) (fun _ _ _ _ h => h) (by kernel_rfl) ?hyr13_11 (by omega) hH ?_
      case hyr13_11 => (intro w' hSw; replace hSw := S2o0 hSw; (try dsimp only at hSw); have q0 := hSw.1; have q1 := hSw.2.1; have q2 := hSw.2.2; obtain ⟨qa1_0, qa1_1, qa1_2, qa1_3, qa1_4, qa1_5, qa1_6, qa1_7, qa1_8, qa1_9⟩ := id q1; obtain ⟨qa2_0, qa2_1, qa2_2, qa2_3, qa2_4, qa2_5, qa2_6, qa2_7, qa2_f⟩ := id q2; go_simp; try (with_reducible rfl))
      simp only [List.set_cons_zero, List.set_cons_succ]
      refine U_take 11 162 9 0 0 (v := ?vr13_12) rfl (by kernel_rfl) (by kernel_rfl) hWr13 (by kernel_rfl) (by kernel_rfl) (by kernel_rfl) (by kernel_rfl) (by kernel_rfl) (by kernel_rfl) (fun _ _ _ _ h => h) (by kernel_rfl) ?hyr13_12 (by omega) hH ?_
      case hyr13_12 => (intro w' hSw; clear hSw; go_simp; try (with_reducible rfl))
      simp only [List.set_cons_zero, List.set_cons_succ]
      refine U_take 12 163 8 0 0 (v := ?vr13_13) rfl (by kernel_rfl) (by kernel_rfl) hWr13 (by kernel_rfl) (by kernel_rfl) (by kernel_rfl) (by kernel_rfl) (by kernel_rfl) (by kernel_rfl) (fun _ _ _ _ h => h) (by kernel_rfl) ?hyr13_13 (by omega) hH ?_
      case hyr13_13 => (intro w' hSw; replace hSw := S2o0 hSw; (try dsimp only at hSw); have q0 := hSw.1; have q1 := hSw.2.1; have q2 := hSw.2.2; obtain ⟨qa1_0, qa1_1, qa1_2, qa1_3, qa1_4, qa1_5, qa1_6, qa1_7, qa1_8, qa1_9⟩ := id q1; obtain ⟨qa2_0, qa2_1, qa2_2, qa2_3, qa2_4, qa2_5, qa2_6, qa2_7, qa2_f⟩ := id q2; go_simp; try (with_reducible rfl))
      simp only [List.set_cons_zero, List.set_cons_succ]
      refine U_take 14 165 7 0 0 (v := ?vr13_14) rfl (by kernel_rfl) (by kernel_rfl) hWr13 (by kernel_rfl) (by kernel_rfl) (by kernel_rfl) (by kernel_rfl) (by kernel_rfl) (by kernel_rfl) (fun _ _ _ _ h => h) (by kernel_rfl) ?hyr13_14 (by omega) hH ?_
      case hyr13_14 => (intro w' hSw; clear hSw; go_simp; try (with_reducible rfl))
      simp only [List.set_cons_zero, List.set_cons_succ]
      refine U_take 15 166 6 0 0 (v := ?vr13_15) rfl (by kernel_rfl) (by kernel_rfl) hWr13 (by kernel_rfl) (by kernel_rfl) (by kernel_rfl) (by kernel_rfl) (by kernel_rfl) (by kernel_rfl) (fun _ _ _ _ h => h) (by kernel_rfl) ?hyr13_15 (by omega) hH ?_
      case hyr13_15 => (intro w' hSw; replace hSw := S2o0 hSw; (try dsimp only at hSw); have q0 := hSw.1; have q1 := hSw.2.1; have q2 := hSw.2.2; obtain ⟨qa1_0, qa1_1, qa1_2, qa1_3, qa1_4, qa1_5, qa1_6, qa1_7, qa1_8, qa1_9⟩ := id q1; obtain ⟨qa2_0, qa2_1, qa2_2, qa2_3, qa2_4, qa2_5, qa2_6, qa2_7, qa2_f⟩ := id q2; go_simp; try (with_reducible rfl))
      simp only [List.set_cons_zero, List.set_cons_succ]
      refine U_take 16 167 5 0 0 (v := ?vr13_16) rfl (by kernel_rfl) (by kernel_rfl) hWr13 (by kernel_rfl) (by kernel_rfl) (by kernel_rfl) (by kernel_rfl) (by kernel_rfl) (by kernel_rfl) (fun _ _ _ _ h => h) (by kernel_rfl) ?hyr13_16 (by omega) hH ?_
      case hyr13_16 => (intro w' hSw; clear hSw; go_simp; try (with_reducible rfl))
      simp only [List.set_cons_zero, List.set_cons_succ]
      refine U_take 17 168 4 0 0 (v := ?vr13_17) rfl (by kernel_rfl) (by kernel_rfl) hWr13 (by kernel_rfl) (by kernel_rfl) (by kernel_rfl) (by kernel_rfl) (by kernel_rfl) (by kernel_rfl) (fun _ _ _ _ h => h) (by kernel_rfl) ?hyr13_17 (by omega) hH ?_
      case hyr13_17 => (intro w' hSw; replace hSw := S2o0 hSw; (try dsimp only at hSw); have q0 := hSw.1; have q1 := hSw.2.1; have q2 := hSw.2.2; obtain ⟨qa1_0, qa1_1, qa1_2, qa1_3, qa1_4, qa1_5, qa1_6, qa1_7, qa1_8, qa1_9⟩ := id q1; obtain ⟨qa2_0, qa2_1, qa2_2, qa2_3, qa2_4, qa2_5, qa2_6, qa2_7, qa2_f⟩ := id q2; go_simp; try (with_reducible rfl))
      simp only [List.set_cons_zero, List.set_cons_succ]
      refine wpAnyU_ready (rs := [13]) (by kernel_rfl) (by simp) ?_
      refine AllReadyU.cons 0 (by kernel_rfl) (o := _) rfl (fun K hK => ?_) AllReadyU.nil
      try clear hb
      refine step_callZ (HSC1.out _) _ _ rfl rfl (by kernel_rfl) (by kernel_rfl) (fun wn hb => ?_)
      refine hK.out _ _ ?hsr13_18 (fun hH2 => ?hrr13_18)
      case hsr13_18 => exact S2i0 (by have hG := hH; replace hG := S2o0 hG; (try dsimp only at hG); have q0 := hG.1; have q1 := hG.2.1; have q2 := hG.2.2; exact ⟨keepSz hb q0, keepCg hb q1, keepR8 hb q2⟩)
      clear hK K hH
      have hH := hH2
      clear hH2
      try simp only [Act.put, List.getElem_toArray, List.getElem_cons_succ, List.getElem_cons_zero, List.setIfInBounds_toArray, List.set_cons_zero, List.set_cons_succ]
      refine wpAnyU_ready (rs := [18]) (by kernel_rfl) (by simp) ?_
      refine AllReadyU.cons 0 (by kernel_rfl) (o := _) rfl (fun K hK => ?_) AllReadyU.nil
      try clear hb
      refine step_callZ (HSC2.out _) _ _ rfl rfl (by kernel_rfl) (by kernel_rfl) (fun wn hb => ?_)
      refine hK.out _ _ ?hsr13_19 (fun hH2 => ?hrr13_19)
      case hsr13_19 => exact S2i0 (by have hG := hH; replace hG := S2o0 hG; (try dsimp only at hG); have q0 := hG.1; have q1 := hG.2.1; have q2 := hG.2.2; exact ⟨keepSz hb q0, keepCg hb q1, keepR8 hb q2⟩)
      clear hK K hH
      have hH := hH2
      clear hH2
      try simp only [Act.put, List.getElem_toArray, List.getElem_cons_succ, List.getElem_cons_zero, List.setIfInBounds_toArray, List.set_cons_zero, List.set_cons_succ]
      refine wpAnyU_ready (rs := [19]) (by kernel_rfl) (by simp) ?_
      refine AllReadyU.cons 0 (by kernel_rfl) (o := _) rfl (fun K hK => ?_) AllReadyU.nil
      try clear hb
      refine step_callZ (HAD.out _) _ _ rfl rfl (by kernel_rfl) (by kernel_rfl) (fun wn hb => ?_)
      refine hK.out _ _ ?hsr13_20 (fun hH2 => ?hrr13_20)
      case hsr13_20 => exact S2i0 (by have hG := hH; replace hG := S2o0 hG; (try dsimp only at hG); have q0 := hG.1; have q1 := hG.2.1; have q2 := hG.2.2; exact ⟨keepSz hb q0, keepCg hb q1, keepR8 hb q2⟩)
      clear hK K hH
      have hH := hH2
      clear hH2
      try simp only [Act.put, List.getElem_toArray, List.getElem_cons_succ, List.getElem_cons_zero, List.setIfInBounds_toArray, List.set_cons_zero, List.set_cons_succ]
      refine wpAnyU_ready (rs := [20]) (by kernel_rfl) (by simp) ?_
      refine AllReadyU.cons 1 (by kernel_rfl) (o := _) rfl (fun K hK => ?_) AllReadyU.nil
      try clear hb
      have hG := hH
      replace hG := S2o0 hG; (try dsimp only at hG); have fq0 := hG.1; have fq1 := hG.2.1; have fq2 := hG.2.2
      have HRX := hid fq0
      clear hG fq0 fq1 fq2
      go_simp
      (go_at_call 49; refine (HPSH.out _ HRX.out HJB.out.1 HJB.out.2).mono ?_; rintro e wp ⟨L3, rfl, hbl3, hm3, hg3, hn3⟩)
      refine hK.out _ _ ?hsr13_21 (fun hH2 => ?hrr13_21)
      case hsr13_21 => exact S2i1
      clear hK K hH
      have hH := hH2
      clear hH2
      try simp only [Act.put, List.setIfInBounds_toArray, List.set_cons_zero, List.set_cons_succ]
      have HSR3 := hid (HRX.out.push hbl3 hg3 hn3)
      have HM3 := hid hm3
      clear hbl3 hm3 hg3 hn3 HRX
      refine wpAnyU_done (by kernel_rfl) ?_ _ _
      refine NoPanic.normal ?_
      go_wp2
      go_roundw
      case rel => exact ⟨k + 1, L3, by omega, by go_num, HSR3.out, by rw [HST.out]; exact HM3.out⟩
      case measure => simp [intOf] <;> omega
    · have hkn : k = C.length := by omega
      subst hkn
      obtain ⟨S0, hS0⟩ : ∃ S0 : List QB × List Ct, S0 = (warmTo Q C RQ C.length, C) := ⟨_, rfl⟩
      have HSOL : Hid (solveQ (L.map valB) C st rn = iterQ S0 RQ C.length (rn * C.length)) := by
        show _ = _
        unfold solveQ
        rw [← HQL.out, ← HRQ.out, ← hS0]
      have HOK0 : Hid (∀ m, Okay Q C.length (iterQ S0 RQ C.length m)) := fun m => iterQ_okay HBN.out ⟨by rw [hS0]; exact HWL.out _, by rw [hS0], by rw [hS0]; exact HCQ.out⟩ _ m
      have HNM : Hid (∀ m, (iterQ S0 RQ C.length m).2.map nrmC = C.map nrmC) := fun m => (iterQ_nrm S0 RQ C.length m).trans (by rw [hS0])
      have HM0 : Hid ((L2.map valB, C) = iterQ S0 RQ C.length 0) := by show _ = _; rw [HMP.out, ← hS0]; rfl
      obtain ⟨N, hN⟩ : ∃ N, N = rn * C.length := ⟨_, rfl⟩
      have hNb : N ≤ 131072 := by rw [hN]; exact Nat.mul_le_mul hrn hc
      have hNw : IntKind.i64.wrap ((rn : Int) * (C.length : Int)) = (N : Int) := by rw [← Int.natCast_mul, ← hN]; exact IntWalk.i64_in _ (by omega)
      rw [← hN] at HSOL
      clear hS0 hlt hk hN HMP
      go_wp2
      go_loopw [177] (fun i wr => ∃ (k : Nat) (L4 : List BE) (C4 : List Ct), k ≤ N ∧ i = .int .i64 k ∧ Sz wB g gc gq L4 C4 R wr ∧ (L4.map valB, C4) = iterQ S0 RQ C.length k) (fun i _ => N - (intOf i).toNat)
      case atStart => exact ⟨0, L2, C, Nat.zero_le _, rfl, HSR.out, HM0.out⟩
      case round =>
        clear HSR HM0 hNw HLLL2
        obtain ⟨k, L4, C4, hk, rfl, hsr, hmp⟩ := hrel
        obtain ⟨wk, rfl⟩ : ∃ wk : World, wk = wr := ⟨_, rfl⟩
        have HSR := hid hsr
        have HMP := hid hmp
        clear hsr hmp
        have HLLL4 : Hid (L4.length = L.length) := by have h9 := (HOK0.out k).like.len; rw [← HMP.out, List.length_map, HQL.out, List.length_map] at h9; exact h9
        have HLC4 : Hid (C4.length = C.length) := by have h9 := (HOK0.out k).len; rw [← HMP.out] at h9; exact h9
        by_cases hlt : k < N
        · obtain ⟨i, hi⟩ : ∃ i, i = k % C.length := ⟨_, rfl⟩
          have hilt : i < C.length := by rw [hi]; exact Nat.mod_lt _ HCL.out
          have hil4 : i < C4.length := by rw [HLC4.out]; exact hilt
          obtain ⟨x, hx⟩ : ∃ x, x = C4[i] := ⟨_, rfl⟩
          have hcx : C4[i]? = some x := by rw [List.getElem?_eq_getElem hil4, hx]
          have hxm : x ∈ C4 := by rw [hx]; exact List.getElem_mem hil4
          have hok : CtOk L.length x := by have h9 := (HOK0.out k).ok x (by rw [← HMP.out]; exact hxm); rw [HQL.out, List.length_map] at h9; exact h9
          have hc0 : C[i]? = some C[i] := List.getElem?_eq_getElem hilt
          have hnr : nrmC C[i] = nrmC x := by
            have h9 := HNM.out k
            rw [← HMP.out] at h9
            have h8 := congrArg (fun l => l[i]?) h9
            simp only [List.getElem?_map, hcx, hc0, Option.map_some] at h8
            exact (Option.some.inj h8).symm
          have hkR : i < R.length := by have := HRLN.out; omega
          obtain ⟨r, hr⟩ : ∃ r, r = rowQ Q st C[i] := ⟨_, rfl⟩
          have hRk : (((x.nx, x.ny), r) : Rb) = R[i]'hkR := by rw [HROW.out i hkR C[i] hc0, hr]; have h9 : (C[i].nx, C[i].ny) = (x.nx, x.ny) := hnr; rw [h9]
          have hRQ : RQ[i]? = some r := by rw [HRQ.out]; unfold rowsQ; rw [List.getElem?_map, hc0, hr]; rfl
          have HBNr : Hid (0 ≤ r.bound) := HBN.out r (List.mem_of_getElem? hRQ)
          have hlt' : (k : Int) < (N : Int) := by omega
          have hilt' : (i : Int) < (C.length : Int) := by omega
          have hiltR : (i : Int) < (R.length : Int) := by omega
          have hkw : IntKind.i64.wrap ((k : Int) + 1) = (k : Int) + 1 := IntWalk.i64_in _ (by omega)
          have hC0 : ¬ (C.length : Int) = 0 := by omega
          have htm : (k : Int).tmod (C.length : Int) = (i : Int) := by rw [Int.tmod_eq_emod_of_nonneg (by omega), hi]; exact (Int.natCast_emod k C.length).symm
          have hiw : IntKind.i64.wrap (i : Int) = (i : Int) := IntWalk.i64_in _ (by omega)
          obtain ⟨ka, hxa⟩ : ∃ ka : Nat, x.a = ka := ⟨x.a.toNat, by have := hok.1; omega⟩
          obtain ⟨kb, hxb⟩ : ∃ kb : Nat, x.b = kb := ⟨x.b.toNat, by have := hok.1; omega⟩
          have HKL : Hid (ka < kb ∧ kb < L.length ∧ L.length ≤ 64) := by have := hok.1; show _ ∧ _ ∧ _; omega
          have HXI := hid (And.intro hxa hxb)
          have HIT : Hid (iterQ S0 RQ C.length (k + 1) = ((roundQ (L4.map valB) x r).1, C4.set i (roundQ (L4.map valB) x r).2)) := by
            have h9 : iterQ S0 RQ C.length (k + 1) = stepQ (L4.map valB, C4) RQ i := by rw [HMP.out, hi]; rfl
            show _ = _
            rw [h9, stepQ_eq hcx hRQ]
          have HI : Hid (i < C4.length ∧ C4[i]? = some x) := ⟨hil4, hcx⟩
          have HRK := hid hRk
          have HC40 : Hid (C4 = C4.set i { x with sli := x.sli }) := (set_same hcx).symm
          have HOK := hid hok
          have HKN : Hid (k < N) := hlt
          clear hi hx hcx hxm hok hc0 hnr hr hRk hRQ hxa hxb hil4
          go_upto_region 30 with fail
          clear htm hiw hC0 hkw
          refine (fun (hNr18 : Hid (?Tr18 : Prop)) => ?mainr18) (hid ?prfr18)
          case mainr18 =>
            refine wp_region_noPanic ?_
            refine wp_region_U (S := (S3 (fun w' => Sz wB g gc gq L4 C4 R w') (fun w' => Sz wB g gc gq L4 C4 R w'))) (T := (fun j => [0, 0, 0, 0, 0, 0, 0, 0, 0, 0, 1, 2].getD j 0)) (by kernel_rfl) (S3i0 HSR.out.drew) (fun hH => ?_)
            have hWr18 : Weaker (S3 (fun w' => Sz wB g gc gq L4 C4 R w') (fun w' => Sz wB g gc gq L4 C4 R w')) := weaker3 (fun _ q0 => q0)
            refine U_take 0 184 11 0 0 (v := ?vr18_1) rfl (by kernel_rfl) (by kernel_rfl) hWr18 (by kernel_rfl) (by kernel_rfl) (by kernel_rfl) (by kernel_rfl) (by kernel_rfl) (by kernel_rfl) (fun _ _ _ _ h => h) (by kernel_rfl) ?hyr18_1 (by omega) hH ?_
            case hyr18_1 => (intro w' hSw; clear hSw; go_simp; try (with_reducible rfl))
            simp only [List.set_cons_zero, List.set_cons_succ]
            refine U_take 1 185 10 0 0 (v := ?vr18_2) rfl (by kernel_rfl) (by kernel_rfl) hWr18 (by kernel_rfl) (by kernel_rfl) (by kernel_rfl) (by kernel_rfl) (by kernel_rfl) (by kernel_rfl) (fun _ _ _ _ h => h) (by kernel_rfl) ?hyr18_2 (by omega) hH ?_
            case hyr18_2 => (intro w' hSw; clear hSw; go_simp; try (with_reducible rfl))
            simp only [List.set_cons_zero, List.set_cons_succ]
            refine U_take 2 186 9 0 0 (v := ?vr18_3) rfl (by kernel_rfl) (by kernel_rfl) hWr18 (by kernel_rfl) (by kernel_rfl) (by kernel_rfl) (by kernel_rfl) (by kernel_rfl) (by kernel_rfl) (fun _ _ _ _ h => h) (by kernel_rfl) ?hyr18_3 (by omega) hH ?_
            case hyr18_3 => (intro w' hSw; clear hSw; go_simp; try (with_reducible rfl))
            simp only [List.set_cons_zero, List.set_cons_succ]
            refine U_take 3 187 8 0 0 (v := ?vr18_4) rfl (by kernel_rfl) (by kernel_rfl) hWr18 (by kernel_rfl) (by kernel_rfl) (by kernel_rfl) (by kernel_rfl) (by kernel_rfl) (by kernel_rfl) (fun _ _ _ _ h => h) (by kernel_rfl) ?hyr18_4 (by omega) hH ?_
            case hyr18_4 => (intro w' hSw; replace hSw := S3o0 hSw; (try dsimp only at hSw); have q0 := hSw; obtain ⟨d0_0, d0_1, d0_2, d0_3, d0_4, d0_5, d0_6, d0_7, d0_8, d0_9⟩ := cells_ct0 (q0).cl HI.out.1 HI.out.2; obtain ⟨b0_0, b0_1, b0_2, b0_3, b0_4, b0_5, b0_6, b0_7⟩ := cells_rb (q0).rl hkR HRK.out; dsimp only at b0_0 b0_1 b0_2 b0_3 b0_4 b0_5 b0_6 b0_7; have dl0 := (q0).cl.lt; have bl0 := (q0).rl.lt; go_simp; try (with_reducible rfl))
            simp only [List.set_cons_zero, List.set_cons_succ]
            refine U_take 4 188 7 1 0 (v := ?vr18_5) rfl (by kernel_rfl) (by kernel_rfl) hWr18 (by kernel_rfl) (by kernel_rfl) (by kernel_rfl) (by kernel_rfl) (by kernel_rfl) (by kernel_rfl) (fun _ _ _ _ h => h) (by kernel_rfl) ?hyr18_5 (by omega) hH ?_
            case hyr18_5 => (intro w' hSw; clear hSw; go_simp; try (with_reducible rfl))
            simp only [List.set_cons_zero, List.set_cons_succ]
            refine U_take 5 189 6 1 0 (v := ?vr18_6) rfl (by kernel_rfl) (by kernel_rfl) hWr18 (by kernel_rfl) (by kernel_rfl) (by kernel_rfl) (by kernel_rfl) (by kernel_rfl) (by kernel_rfl) (fun _ _ _ _ h => h) (by kernel_rfl) ?hyr18_6 (by omega) hH ?_
            case hyr18_6 => (intro w' hSw; clear hSw; go_simp; try (with_reducible rfl))
            simp only [List.set_cons_zero, List.set_cons_succ]
            refine U_take 6 190 5 1 0 (v := ?vr18_7) rfl (by kernel_rfl) (by kernel_rfl) hWr18 (by kernel_rfl) (by kernel_rfl) (by kernel_rfl) (by kernel_rfl) (by kernel_rfl) (by kernel_rfl) (fun _ _ _ _ h => h) (by kernel_rfl) ?hyr18_7 (by omega) hH ?_
            case hyr18_7 => (intro w' hSw; clear hSw; go_simp; try (with_reducible rfl))
            simp only [List.set_cons_zero, List.set_cons_succ]
            refine U_take 7 191 4 1 0 (v := ?vr18_8) rfl (by kernel_rfl) (by kernel_rfl) hWr18 (by kernel_rfl) (by kernel_rfl) (by kernel_rfl) (by kernel_rfl) (by kernel_rfl) (by kernel_rfl) (fun _ _ _ _ h => h) (by kernel_rfl) ?hyr18_8 (by omega) hH ?_
            case hyr18_8 => (intro w' hSw; replace hSw := S3o1 hSw; (try dsimp only at hSw); have q0 := hSw; obtain ⟨d0_0, d0_1, d0_2, d0_3, d0_4, d0_5, d0_6, d0_7, d0_8, d0_9⟩ := cells_ct0 (q0).cl HI.out.1 HI.out.2; obtain ⟨b0_0, b0_1, b0_2, b0_3, b0_4, b0_5, b0_6, b0_7⟩ := cells_rb (q0).rl hkR HRK.out; dsimp only at b0_0 b0_1 b0_2 b0_3 b0_4 b0_5 b0_6 b0_7; have dl0 := (q0).cl.lt; have bl0 := (q0).rl.lt; go_simp; try (with_reducible rfl))
            simp only [List.set_cons_zero, List.set_cons_succ]
            refine wpAnyU_ready (rs := [8, 9]) (by kernel_rfl) (by simp) ?_
            refine AllReadyU.cons 0 (by kernel_rfl) (o := _) rfl (fun K hK => ?_) ?_
            · try clear hb
              have hG := hH
              replace hG := S3o0 hG; (try dsimp only at hG); have q0 := hG
              go_simp
              refine hK.out _ _ ?hsr18_9 (fun hH2 => ?hrr18_9)
              case hsr18_9 => exact S3i0 (by have hG := hH; replace hG := S3o0 hG; (try dsimp only at hG); have q0 := hG; exact keepSz ((Below.refl _ _).alloc (Nat.le_refl _) _) q0)
              clear hK K hH
              have hH := hH2
              clear hH2
              try simp only [Act.put, List.setIfInBounds_toArray, List.set_cons_zero, List.set_cons_succ]
              have hT : Zn 10 ((wk.alloc (.cells #[.int .i64 0, .int .i64 0, .int .i64 0, .int .i64 0, .int .i64 0, .int .i64 0, .int .i64 0, .int .i64 0, .int .i64 0, .int .i64 0] 36)).drew) wk.heap.size := Zn.drew (Zn.here10 wk 36)
              obtain ⟨gT, hgT⟩ : ∃ g, g = wk.heap.size := ⟨_, rfl⟩
              have hlT : wB.heap.size ≤ gT := by rw [hgT]; have h9 := q0.gr.size; exact h9
              rw [← hgT] at hT
              try rw [← hgT]
              clear hgT q0
              generalize (wk.alloc (.cells #[.int .i64 0, .int .i64 0, .int .i64 0, .int .i64 0, .int .i64 0, .int .i64 0, .int .i64 0, .int .i64 0, .int .i64 0, .int .i64 0] 36)).drew = wx8 at *
              refine wpAnyU_ready (rs := [9]) (by kernel_rfl) (by simp) ?_
              refine AllReadyU.cons 0 (by kernel_rfl) (o := _) rfl (fun K hK => ?_) AllReadyU.nil
              try clear hb
              have hG := hH
              replace hG := S3o0 hG; (try dsimp only at hG); have q0 := hG
              have hZT := Zn.lt hT
              go_simp
              refine hK.out _ _ ?hsr18_10 (fun hH2 => ?hrr18_10)
              case hsr18_10 => exact S3i0 (by have hG := hH; replace hG := S3o0 hG; (try dsimp only at hG); have q0 := hG; exact keepSz ((Below.refl _ _).alloc (Nat.le_refl _) _) q0)
              clear hK K hH
              have hH := hH2
              clear hH2
              try simp only [Act.put, List.setIfInBounds_toArray, List.set_cons_zero, List.set_cons_succ]
              have hU : Zn 8 (wx8.alloc (.cells #[.int .i64 0, .int .i64 0, .int .i64 0, .int .i64 0, .int .i64 0, .int .i64 0, .int .i64 0, .int .i64 0] 89)) wx8.heap.size := Zn.here8 wx8 89
              replace hT := keepZn ((Below.refl _ _).alloc (Nat.le_refl _) (.cells #[.int .i64 0, .int .i64 0, .int .i64 0, .int .i64 0, .int .i64 0, .int .i64 0, .int .i64 0, .int .i64 0] 89)) hT
              obtain ⟨gU, hgU⟩ : ∃ g, g = wx8.heap.size := ⟨_, rfl⟩
              have hlU : wB.heap.size ≤ gU ∧ gT < gU := by rw [hgU]; have h9 := q0.gr.size; exact ⟨h9, hZT⟩
              rw [← hgU] at hU
              try rw [← hgU]
              clear hgU q0
              generalize wx8.alloc (.cells #[.int .i64 0, .int .i64 0, .int .i64 0, .int .i64 0, .int .i64 0, .int .i64 0, .int .i64 0, .int .i64 0] 89) = wx9 at *
              refine wpAnyU_lst (l' := #[true, true, true, true, true, true, true, true, true, true, false, false]) (by kernel_rfl) ?_
              have hl2 : wB.heap.size ≤ gT ∧ wB.heap.size ≤ gU ∧ gT ≠ gU := by omega
              clear hlT hlU
              try clear hZT
              try clear hZU
              try clear hb
              revert hH
              revert hU; revert hT
              revert hl2
              revert gU; revert gT
              revert wx9
              exact hNr18.out
            refine AllReadyU.cons 0 (by kernel_rfl) (o := _) rfl (fun K hK => ?_) ?_
            · try clear hb
              have hG := hH
              replace hG := S3o0 hG; (try dsimp only at hG); have q0 := hG
              go_simp
              refine hK.out _ _ ?hsr18_13 (fun hH2 => ?hrr18_13)
              case hsr18_13 => exact S3i0 (by have hG := hH; replace hG := S3o0 hG; (try dsimp only at hG); have q0 := hG; exact keepSz ((Below.refl _ _).alloc (Nat.le_refl _) _) q0)
              clear hK K hH
              have hH := hH2
              clear hH2
              try simp only [Act.put, List.setIfInBounds_toArray, List.set_cons_zero, List.set_cons_succ]
              have hU : Zn 8 ((wk.alloc (.cells #[.int .i64 0, .int .i64 0, .int .i64 0, .int .i64 0, .int .i64 0, .int .i64 0, .int .i64 0, .int .i64 0] 89)).drew) wk.heap.size := Zn.drew (Zn.here8 wk 89)
              obtain ⟨gU, hgU⟩ : ∃ g, g = wk.heap.size := ⟨_, rfl⟩
              have hlU : wB.heap.size ≤ gU := by rw [hgU]; have h9 := q0.gr.size; exact h9
              rw [← hgU] at hU
              try rw [← hgU]
              clear hgU q0
              generalize (wk.alloc (.cells #[.int .i64 0, .int .i64 0, .int .i64 0, .int .i64 0, .int .i64 0, .int .i64 0, .int .i64 0, .int .i64 0] 89)).drew = wx9 at *
              refine wpAnyU_ready (rs := [8]) (by kernel_rfl) (by simp) ?_
              refine AllReadyU.cons 0 (by kernel_rfl) (o := _) rfl (fun K hK => ?_) AllReadyU.nil
              try clear hb
              have hG := hH
              replace hG := S3o0 hG; (try dsimp only at hG); have q0 := hG
              have hZU := Zn.lt hU
              go_simp
              refine hK.out _ _ ?hsr18_14 (fun hH2 => ?hrr18_14)
              case hsr18_14 => exact S3i0 (by have hG := hH; replace hG := S3o0 hG; (try dsimp only at hG); have q0 := hG; exact keepSz ((Below.refl _ _).alloc (Nat.le_refl _) _) q0)
              clear hK K hH
              have hH := hH2
              clear hH2
              try simp only [Act.put, List.setIfInBounds_toArray, List.set_cons_zero, List.set_cons_succ]
              have hT : Zn 10 (wx9.alloc (.cells #[.int .i64 0, .int .i64 0, .int .i64 0, .int .i64 0, .int .i64 0, .int .i64 0, .int .i64 0, .int .i64 0, .int .i64 0, .int .i64 0] 36)) wx9.heap.size := Zn.here10 wx9 36
              replace hU := keepZn ((Below.refl _ _).alloc (Nat.le_refl _) (.cells #[.int .i64 0, .int .i64 0, .int .i64 0, .int .i64 0, .int .i64 0, .int .i64 0, .int .i64 0, .int .i64 0, .int .i64 0, .int .i64 0] 36)) hU
              obtain ⟨gT, hgT⟩ : ∃ g, g = wx9.heap.size := ⟨_, rfl⟩
              have hlT : wB.heap.size ≤ gT ∧ gU < gT := by rw [hgT]; have h9 := q0.gr.size; exact ⟨h9, hZU⟩
              rw [← hgT] at hT
              try rw [← hgT]
              clear hgT q0
              generalize wx9.alloc (.cells #[.int .i64 0, .int .i64 0, .int .i64 0, .int .i64 0, .int .i64 0, .int .i64 0, .int .i64 0, .int .i64 0, .int .i64 0, .int .i64 0] 36) = wx8 at *
              refine wpAnyU_lst (l' := #[true, true, true, true, true, true, true, true, true, true, false, false]) (by kernel_rfl) ?_
              have hl2 : wB.heap.size ≤ gT ∧ wB.heap.size ≤ gU ∧ gT ≠ gU := by omega
              clear hlT hlU
              try clear hZT
              try clear hZU
              try clear hb
              revert hH
              revert hU; revert hT
              revert hl2
              revert gU; revert gT
              revert wx8
              exact hNr18.out
            exact AllReadyU.nil
          case prfr18 =>
            intro wX gT gU hl2 hT hU hH
            have hWr18 : Weaker (S3 (fun w' => Sz wB g gc gq L4 C4 R w') (fun w' => Sz wB g gc gq L4 C4 R w')) := weaker3 (fun _ q0 => q0)
            refine wpAnyU_ready (rs := [10]) (by kernel_rfl) (by simp) ?_
            refine AllReadyU.cons 1 (by kernel_rfl) (o := _) rfl (fun K hK => ?_) AllReadyU.nil
            try clear hb
            have hG := hH
            replace hG := S3o0 hG; (try dsimp only at hG); have fq0 := hG
            have HSQ := hid fq0
            have HT := hid hT
            have HU := hid hU
            obtain ⟨z0, z1, z2, z3, z4, z5, z6, z7, z8, z9, y0, y1, y2, y3, y4, y5, y6, y7, y8, y9⟩ := hT.all10
            have yf := hT.free
            obtain ⟨t0, t1, t2, t3, t4, t5, t6, t7, u0, u1, u2, u3, u4, u5, u6, u7⟩ := hU.all8
            have uf := hU.free
            have hneTU : ¬ gT = gU := hl2.2.2
            have hneUT : ¬ gU = gT := fun h => hl2.2.2 h.symm
            clear hG fq0
            go_simp
            refine hK.out _ _ ?hsr18_11 (fun hH2 => ?hrr18_11)
            case hsr18_11 => exact S3i1 (by have hh := HSQ.out.setC hl2.1 x; unfold Go.Proofs.Ytilncglnojjlaaa.setC at hh; exact hh)
            clear hK K hH
            have hH := hH2
            clear hH2
            try simp only [Act.put, List.setIfInBounds_toArray, List.set_cons_zero, List.set_cons_succ]
            refine wpAnyU_ready (rs := [11]) (by kernel_rfl) (by simp) ?_
            refine AllReadyU.cons 2 (by kernel_rfl) (o := _) rfl (fun K hK => ?_) AllReadyU.nil
            go_simp
            refine hK.out _ _ ?hsr18_12 (fun hH2 => ?hrr18_12)
            case hsr18_12 => exact S3i2
            clear hK K hH
            have hH := hH2
            clear hH2
            try simp only [Act.put, List.setIfInBounds_toArray, List.set_cons_zero, List.set_cons_succ]
            refine wpAnyU_done (by kernel_rfl) ?_ _ _
            refine NoPanic.normal ?_
            obtain ⟨w5, hw5⟩ : ∃ w5, w5 = setR8 (setC wX gT x) gU x.nx x.ny r.t1 r.t2 r.ease r.slip r.lift r.bound := ⟨_, rfl⟩
            obtain ⟨gx, hgx⟩ : ∃ z, z = gT := ⟨_, rfl⟩
            obtain ⟨gr, hgr⟩ : ∃ z, z = gU := ⟨_, rfl⟩
            have HSR5 : Hid (Sz wB g gc gq L4 C4 R w5) := by rw [hw5]; exact (HSQ.out.setC hl2.1 x).setR8 hl2.2.1 _ _ _ _ _ _ _ _
            have HCG : Hid (Cg w5 gx x) := by rw [hw5, hgx]; exact (setC_at HT.out x).setR8 (fun e => hneTU e.symm) _ _ _ _ _ _ _ _
            have HR8 : Hid (R8 w5 gr x.nx x.ny r.t1 r.t2 r.ease r.slip r.lift r.bound) := by rw [hw5, hgr]; exact setR8_at (HU.out.setC x) _ _ _ _ _ _ _ _
            have HGL : Hid (wB.heap.size ≤ gx ∧ wB.heap.size ≤ gr ∧ gx ≠ gr) := by rw [hgx, hgr]; exact hl2
            unfold setR8 setC at hw5
            clear HSQ HSR HT HU z0 z1 z2 z3 z4 z5 z6 z7 z8 z9 y0 y1 y2 y3 y4 y5 y6 y7 y8 y9 t0 t1 t2 t3 t4 t5 t6 t7 u0 u1 u2 u3 u4 u5 u6 u7 yf uf
            have HSR := HSR5
            clear HSR5
            try clear hH
            go_upto_region 31 with fail
            rw [← hw5, ← hgx, ← hgr]
            clear hw5 hgx hgr hneTU hneUT hl2
            obtain ⟨rr0, rr1, rr2, rr3, rr4, rr5, rr6, rr7, rrf⟩ := id HR8.out
            go_upto_if 194 with fail
            clear rr0 rr1 rr2 rr3 rr4 rr5 rr6 rr7 rrf
            go_cut [27, 28] from 178 to 290 (fun t u wx_ => ∃ L8 C8 s8, Sz wB g gc gq L8 C8 R wx_ ∧ Cg wx_ gx x ∧ R8 wx_ gr x.nx x.ny r.t1 r.t2 r.ease r.slip r.lift r.bound ∧ slipQ (L4.map valB) x r = (L8.map valB, { x with sli := s8 }) ∧ C8 = C4.set i { x with sli := s8 })
            case first =>
              as_aux_lemma =>
              by_cases hz : r.slip = 0
              · have hzb : (r.slip != 0) = false := by simp [hz]
                have HS9 : Hid (slipQ (L4.map valB) x r = (L4.map valB, { x with sli := x.sli })) := by show slipQ _ _ _ = _; unfold slipQ; rw [if_pos hz]
                clear hz
                go_wp2_with fail
                go_meet
                exact ⟨L4, C4, x.sli, HSR.out, HCG.out, HR8.out, HS9.out, HC40.out⟩
              have hzb : (r.slip != 0) = true := by simp [hz]
              obtain ⟨mo, hmo⟩ : ∃ z, z = mulF r.bound x.push := ⟨_, rfl⟩
              have HMO := hid (fmul_calls r.bound x.push)
              rw [← hmo] at HMO
              have hmob : 0 ≤ mo ∧ mo ≤ 9223372036854775807 := by rw [hmo]; exact ⟨mulF_nnS HBNr.out HOK.out.2.2.2.2.1.1, by have := (mulF_bd r.bound x.push).2; omega⟩
              obtain ⟨vz, hvz⟩ : ∃ z, z = relV (L4.map valB) x r.t1 r.t2 := ⟨_, rfl⟩
              have HAL : Hid (∀ w', Sz wB g gc gq L4 C4 R w' → Calls Try.prog 48 #[.slice (some ⟨g, 0, none⟩) L.length cap, .int .i64 x.a, .int .i64 x.b, vecV x.px x.py, vecV x.px x.py, vecV r.t1 r.t2] w' (Ret (.int .i64 vz) w')) := fun w' hr => by
                have hka : ka < L4.length := by have := HKL.out; rw [HLLL4.out]; omega
                have hkb : kb < L4.length := by have := HKL.out; rw [HLLL4.out]; omega
                have h9 := along_calls cap g ka kb L4 x.px x.py x.px x.py r.t1 r.t2 w' hr.bl (fun y hy bx off e => Nat.lt_of_lt_of_le (hr.lo y hy bx off e).1 hr.gr.size) HKL.out.1 hka hkb (by have := HKL.out; rw [HLLL4.out]; omega) _ _ rfl rfl
                rw [HLLL4.out, ← HXI.out.1, ← HXI.out.2] at h9
                have e9 : vz = pulV (L4[ka]'hka).b (L4[kb]'hkb).b x.px x.py x.px x.py r.t1 r.t2 := by
                  rw [hvz]; unfold relV; rw [qB_at HXI.out.1 (y := valB (L4[ka]'hka)) (by rw [List.getElem?_map, List.getElem?_eq_getElem hka]; rfl), qB_at HXI.out.2 (y := valB (L4[kb]'hkb)) (by rw [List.getElem?_map, List.getElem?_eq_getElem hkb]; rfl)]; rfl
                rw [← e9] at h9
                exact h9
              obtain ⟨qd, hqd⟩ : ∃ z, z = divF vz r.slip := ⟨_, rfl⟩
              have HOV := hid (rquot_calls vz r.slip)
              rw [← hqd] at HOV
              obtain ⟨sv, hsv⟩ : ∃ z, z = subF x.sli qd := ⟨_, rfl⟩
              have HSB := hid (fsub_calls x.sli qd)
              rw [← hsv] at HSB
              obtain ⟨sl, hsl⟩ : ∃ z, z = clampN sv mo := ⟨_, rfl⟩
              have HNR := hid (fun w => rnearest_calls sv mo hmob.1 hmob.2 w)
              rw [← hsl] at HNR
              have hcl : slideZ (L4.map valB) x r = sl := by unfold slideZ; rw [← hvz, ← hqd, ← hsv, ← hmo, ← hsl]
              obtain ⟨ds, hds⟩ : ∃ z, z = subF sl x.sli := ⟨_, rfl⟩
              have HSD := hid (fsub_calls sl x.sli)
              rw [← hds] at HSD
              obtain ⟨j1, hj1⟩ : ∃ z, z = mulF r.t1 ds := ⟨_, rfl⟩
              obtain ⟨j2, hj2⟩ : ∃ z, z = mulF r.t2 ds := ⟨_, rfl⟩
              have HSC := hid (vscale_calls r.t1 r.t2 ds)
              rw [← hj1, ← hj2] at HSC
              have HJB : Hid ((-1099511627776 ≤ j1 ∧ j1 ≤ 1099511627776) ∧ (-1099511627776 ≤ j2 ∧ j2 ≤ 1099511627776)) := by rw [hj1, hj2]; exact ⟨mulF_bd _ _, mulF_bd _ _⟩
              have HQ9 : Hid (slipQ (L4.map valB) x r = (pushX (L4.map valB) x j1 j2, { x with sli := sl })) := by
                have h9 : slipQ (L4.map valB) x r = (pushX (L4.map valB) x (mulF r.t1 (subF (slideZ (L4.map valB) x r) x.sli)) (mulF r.t2 (subF (slideZ (L4.map valB) x r) x.sli)), { x with sli := slideZ (L4.map valB) x r }) := (by unfold slipQ; rw [if_neg hz])
                rw [h9, hcl, ← hds, ← hj1, ← hj2] <;> rfl
              have HPSH : Hid (∀ w', Sz wB g gc gq L4 C4 R w' → (-1099511627776 ≤ j1 ∧ j1 ≤ 1099511627776) → (-1099511627776 ≤ j2 ∧ j2 ≤ 1099511627776) → Calls Try.prog 49 #[.slice (some ⟨g, 0, none⟩) L.length cap, .int .i64 x.a, .int .i64 x.b, vecV x.px x.py, vecV x.px x.py, vecV j1 j2] w' (RetPull3 g L4 (pushX (L4.map valB) x j1 j2) w')) := fun w' hr h1 h2 => by
                have h9 := rpushed3_calls cap g ka kb L4 x.px x.py x.px x.py j1 j2 w' hr.bl (fun y hy bx off e => Nat.lt_of_lt_of_le (hr.lo y hy bx off e).1 hr.gr.size) HKL.out.1 (by have := HKL.out; rw [HLLL4.out]; omega) (by have := HKL.out; rw [HLLL4.out]; omega) (by have := HKL.out; rw [HLLL4.out]; omega) _ _ rfl rfl h1 h2
                rw [HLLL4.out, ← HXI.out.1, ← HXI.out.2] at h9
                unfold pushX
                rw [show x.a.toNat = ka from by rw [HXI.out.1]; exact Int.toNat_natCast ka, show x.b.toNat = kb from by rw [HXI.out.2]; exact Int.toNat_natCast kb]
                exact h9
              clear hmo hmob hvz hqd hsv hsl hcl hds hj1 hj2 hz
              obtain ⟨a0, a1, a2, a3, a4, a5, a6, a7, a8, a9⟩ := id HCG.out
              obtain ⟨rr0, rr1, rr2, rr3, rr4, rr5, rr6, rr7, rrf⟩ := id HR8.out
              go_wp2_with fail
              refine (HMO.out _).mono ?_
              rintro e wn0 ⟨rfl, hb⟩
              clear a0 a1 a2 a3 a4 a5 a6 a7 a8 a9 rr0 rr1 rr2 rr3 rr4 rr5 rr6 rr7 rrf
              replace HSR := hid (keepSz hb HSR.out)
              replace HCG := hid (keepCg hb HCG.out)
              replace HR8 := hid (keepR8 hb HR8.out)
              clear hb
              go_upto_region 33 with fail
              refine wp_region_noPanic ?_
              refine wp_region_U (S := (S2 (fun w' => Sz wB g gc gq L4 C4 R w' ∧ Cg w' gx x ∧ R8 w' gr x.nx x.ny r.t1 r.t2 r.ease r.slip r.lift r.bound))) (T := (fun _ => 0)) (by kernel_rfl) (S2i0 ⟨HSR.out.drew, HCG.out.drew, HR8.out.drew⟩) (fun hH => ?_)
              have hWr14 : Weaker (S2 (fun w' => Sz wB g gc gq L4 C4 R w' ∧ Cg w' gx x ∧ R8 w' gr x.nx x.ny r.t1 r.t2 r.ease r.slip r.lift r.bound)) := weaker2 _
              refine U_take 0 200 20 0 0 (v := ?vr14_1) rfl (by kernel_rfl) (by kernel_rfl) hWr14 (by kernel_rfl) (by kernel_rfl) (by kernel_rfl) (by kernel_rfl) (by kernel_rfl) (by kernel_rfl) (fun _ _ _ _ h => h) (by kernel_rfl) ?hyr14_1 (by omega) hH ?_
              case hyr14_1 => (intro w' hSw; clear hSw; go_simp; try (with_reducible rfl))
              simp only [List.set_cons_zero, List.set_cons_succ]
              refine U_take 1 201 19 0 0 (v := ?vr14_2) rfl (by kernel_rfl) (by kernel_rfl) hWr14 (by kernel_rfl) (by kernel_rfl) (by kernel_rfl) (by kernel_rfl) (by kernel_rfl) (by kernel_rfl) (fun _ _ _ _ h => h) (by kernel_rfl) ?hyr14_2 (by omega) hH ?_
              case hyr14_2 => (intro w' hSw; replace hSw := S2o0 hSw; (try dsimp only at hSw); have q0 := hSw.1; have q1 := hSw.2.1; have q2 := hSw.2.2; obtain ⟨qa1_0, qa1_1, qa1_2, qa1_3, qa1_4, qa1_5, qa1_6, qa1_7, qa1_8, qa1_9⟩ := id q1; obtain ⟨qa2_0, qa2_1, qa2_2, qa2_3, qa2_4, qa2_5, qa2_6, qa2_7, qa2_f⟩ := id q2; go_simp; try (with_reducible rfl))
              simp only [List.set_cons_zero, List.set_cons_succ]
              refine U_take 2 202 18 0 0 (v := ?vr14_3) rfl (by kernel_rfl) (by kernel_rfl) hWr14 (by kernel_rfl) (by kernel_rfl) (by kernel_rfl) (by kernel_rfl) (by kernel_rfl) (by kernel_rfl) (fun _ _ _ _ h => h) (by kernel_rfl) ?hyr14_3 (by omega) hH ?_
              case hyr14_3 => (intro w' hSw; clear hSw; go_simp; try (with_reducible rfl))
              simp only [List.set_cons_zero, List.set_cons_succ]
              refine U_take 3 203 17 0 0 (v := ?vr14_4) rfl (by kernel_rfl) (by kernel_rfl) hWr14 (by kernel_rfl) (by kernel_rfl) (by kernel_rfl) (by kernel_rfl) (by kernel_rfl) (by kernel_rfl) (fun _ _ _ _ h => h) (by kernel_rfl) ?hyr14_4 (by omega) hH ?_
              case hyr14_4 => (intro w' hSw; clear hSw; go_simp; try (with_reducible rfl))
              simp only [List.set_cons_zero, List.set_cons_succ]
              refine U_take 4 204 16 0 0 (v := ?vr14_5) rfl (by kernel_rfl) (by kernel_rfl) hWr14 (by kernel_rfl) (by kernel_rfl) (by kernel_rfl) (by kernel_rfl) (by kernel_rfl) (by kernel_rfl) (fun _ _ _ _ h => h) (by kernel_rfl) ?hyr14_5 (by omega) hH ?_
              case hyr14_5 => (intro w' hSw; replace hSw := S2o0 hSw; (try dsimp only at hSw); have q0 := hSw.1; have q1 := hSw.2.1; have q2 := hSw.2.2; obtain ⟨qa1_0, qa1_1, qa1_2, qa1_3, qa1_4, qa1_5, qa1_6, qa1_7, qa1_8, qa1_9⟩ := id q1; obtain ⟨qa2_0, qa2_1, qa2_2, qa2_3, qa2_4, qa2_5, qa2_6, qa2_7, qa2_f⟩ := id q2; go_simp; try (with_reducible rfl))
              simp only [List.set_cons_zero, List.set_cons_succ]
              refine U_take 5 205 15 0 0 (v := ?vr14_6) rfl (by kernel_rfl) (by kernel_rfl) hWr14 (by kernel_rfl) (by kernel_rfl) (by kernel_rfl) (by kernel_rfl) (by kernel_rfl) (by kernel_rfl) (fun _ _ _ _ h => h) (by kernel_rfl) ?hyr14_6 (by omega) hH ?_
              case hyr14_6 => (intro w' hSw; clear hSw; go_simp; try (with_reducible rfl))
              simp only [List.set_cons_zero, List.set_cons_succ]
              refine U_take 6 206 14 0 0 (v := ?vr14_7) rfl (by kernel_rfl) (by kernel_rfl) hWr14 (by kernel_rfl) (by kernel_rfl) (by kernel_rfl) (by kernel_rfl) (by kernel_rfl) (by kernel_rfl) (fun _ _ _ _ h => h) (by kernel_rfl) ?hyr14_7 (by omega) hH ?_
              case hyr14_7 => (intro w' hSw; replace hSw := S2o0 hSw; (try dsimp only at hSw); have q0 := hSw.1; have q1 := hSw.2.1; have q2 := hSw.2.2; obtain ⟨qa1_0, qa1_1, qa1_2, qa1_3, qa1_4, qa1_5, qa1_6, qa1_7, qa1_8, qa1_9⟩ := id q1; obtain ⟨qa2_0, qa2_1, qa2_2, qa2_3, qa2_4, qa2_5, qa2_6, qa2_7, qa2_f⟩ := id q2; go_simp; try (with_reducible rfl))
              simp only [List.set_cons_zero, List.set_cons_succ]
              refine U_take 7 207 13 0 0 (v := ?vr14_8) rfl (by kernel_rfl) (by kernel_rfl) hWr14 (by kernel_rfl) (by kernel_rfl) (by kernel_rfl) (by kernel_rfl) (by kernel_rfl) (by kernel_rfl) (fun _ _ _ _ h => h) (by kernel_rfl) ?hyr14_8 (by omega) hH ?_
              case hyr14_8 => (intro w' hSw; clear hSw; go_simp; try (with_reducible rfl))
              simp only [List.set_cons_zero, List.set_cons_succ]
              refine U_take 8 208 12 0 0 (v := ?vr14_9) rfl (by kernel_rfl) (by kernel_rfl) hWr14 (by kernel_rfl) (by kernel_rfl) (by kernel_rfl) (by kernel_rfl) (by kernel_rfl) (by kernel_rfl) (fun _ _ _ _ h => h) (by kernel_rfl) ?hyr14_9 (by omega) hH ?_
              case hyr14_9 => (intro w' hSw; replace hSw := S2o0 hSw; (try dsimp only at hSw); have q0 := hSw.1; have q1 := hSw.2.1; have q2 := hSw.2.2; obtain ⟨qa1_0, qa1_1, qa1_2, qa1_3, qa1_4, qa1_5, qa1_6, qa1_7, qa1_8, qa1_9⟩ := id q1; obtain ⟨qa2_0, qa2_1, qa2_2, qa2_3, qa2_4, qa2_5, qa2_6, qa2_7, qa2_f⟩ := id q2; go_simp; try (with_reducible rfl))
              simp only [List.set_cons_zero, List.set_cons_succ]
              refine U_take 9 209 11 0 0 (v := ?vr14_10) rfl (by kernel_rfl) (by kernel_rfl) hWr14 (by kernel_rfl) (by kernel_rfl) (by kernel_rfl) (by kernel_rfl) (by kernel_rfl) (by kernel_rfl) (fun _ _ _ _ h => h) (by kernel_rfl) ?hyr14_10 (by omega) hH ?_
              case hyr14_10 => (intro w' hSw; clear hSw; go_simp; try (with_reducible rfl))
              simp only [List.set_cons_zero, List.set_cons_succ]
              refine U_take 10 210 10 0 0 (v := ?vr14_11) rfl (by kernel_rfl) (by kernel_rfl) hWr14 (by kernel_rfl) (by kernel_rfl) (by kernel_rfl) (by kernel_rfl) (by kernel_rfl) (by kernel_rfl) (fun _ _ _ _ h => h) (by kernel_rfl) ?hyr14_11 (by omega) hH ?_
              case hyr14_11 => (intro w' hSw; replace hSw := S2o0 hSw; (try dsimp only at hSw); have q0 := hSw.1; have q1 := hSw.2.1; have q2 := hSw.2.2; obtain ⟨qa1_0, qa1_1, qa1_2, qa1_3, qa1_4, qa1_5, qa1_6, qa1_7, qa1_8, qa1_9⟩ := id q1; obtain ⟨qa2_0, qa2_1, qa2_2, qa2_3, qa2_4, qa2_5, qa2_6, qa2_7, qa2_f⟩ := id q2; go_simp; try (with_reducible rfl))
              simp only [List.set_cons_zero, List.set_cons_succ]
              refine U_take 11 211 9 0 0 (v := ?vr14_12) rfl (by kernel_rfl) (by kernel_rfl) hWr14 (by kernel_rfl) (by kernel_rfl) (by kernel_rfl) (by kernel_rfl) (by kernel_rfl) (by kernel_rfl) (fun _ _ _ _ h => h) (by kernel_rfl) ?hyr14_12 (by omega) hH ?_
              case hyr14_12 => (intro w' hSw; clear hSw; go_simp; try (with_reducible rfl))
              simp only [List.set_cons_zero, List.set_cons_succ]
              refine U_take 12 212 8 0 0 (v := ?vr14_13) rfl (by kernel_rfl) (by kernel_rfl) hWr14 (by kernel_rfl) (by kernel_rfl) (by kernel_rfl) (by kernel_rfl) (by kernel_rfl) (by kernel_rfl) (fun _ _ _ _ h => h) (by kernel_rfl) ?hyr14_13 (by omega) hH ?_
              case hyr14_13 => (intro w' hSw; replace hSw := S2o0 hSw; (try dsimp only at hSw); have q0 := hSw.1; have q1 := hSw.2.1; have q2 := hSw.2.2; obtain ⟨qa1_0, qa1_1, qa1_2, qa1_3, qa1_4, qa1_5, qa1_6, qa1_7, qa1_8, qa1_9⟩ := id q1; obtain ⟨qa2_0, qa2_1, qa2_2, qa2_3, qa2_4, qa2_5, qa2_6, qa2_7, qa2_f⟩ := id q2; go_simp; try (with_reducible rfl))
              simp only [List.set_cons_zero, List.set_cons_succ]
              refine U_take 14 214 7 0 0 (v := ?vr14_14) rfl (by kernel_rfl) (by kernel_rfl) hWr14 (by kernel_rfl) (by kernel_rfl) (by kernel_rfl) (by kernel_rfl) (by kernel_rfl) (by kernel_rfl) (fun _ _ _ _ h => h) (by kernel_rfl) ?hyr14_14 (by omega) hH ?_
              case hyr14_14 => (intro w' hSw; clear hSw; go_simp; try (with_reducible rfl))
              simp only [List.set_cons_zero, List.set_cons_succ]
              refine U_take 15 215 6 0 0 (v := ?vr14_15) rfl (by kernel_rfl) (by kernel_rfl) hWr14 (by kernel_rfl) (by kernel_rfl) (by kernel_rfl) (by kernel_rfl) (by kernel_rfl) (by kernel_rfl) (fun _ _ _ _ h => h) (by kernel_rfl) ?hyr14_15 (by omega) hH ?_
              case hyr14_15 => (intro w' hSw; replace hSw := S2o0 hSw; (try dsimp only at hSw); have q0 := hSw.1; have q1 := hSw.2.1; have q2 := hSw.2.2; obtain ⟨qa1_0, qa1_1, qa1_2, qa1_3, qa1_4, qa1_5, qa1_6, qa1_7, qa1_8, qa1_9⟩ := id q1; obtain ⟨qa2_0, qa2_1, qa2_2, qa2_3, qa2_4, qa2_5, qa2_6, qa2_7, qa2_f⟩ := id q2; go_simp; try (with_reducible rfl))
              simp only [List.set_cons_zero, List.set_cons_succ]
              refine U_take 18 218 5 0 0 (v := ?vr14_16) rfl (by kernel_rfl) (by kernel_rfl) hWr14 (by kernel_rfl) (by kernel_rfl) (by kernel_rfl) (by kernel_rfl) (by kernel_rfl) (by kernel_rfl) (fun _ _ _ _ h => h) (by kernel_rfl) ?hyr14_16 (by omega) hH ?_
              case hyr14_16 => (intro w' hSw; clear hSw; go_simp; try (with_reducible rfl))
              simp only [List.set_cons_zero, List.set_cons_succ]
              refine wpAnyU_ready (rs := [13]) (by kernel_rfl) (by simp) ?_
              refine AllReadyU.cons 0 (by kernel_rfl) (o := _) rfl (fun K hK => ?_) AllReadyU.nil
              try clear hb
              have hG := hH
              replace hG := S2o0 hG; (try dsimp only at hG); have fq0 := hG.1; have fq1 := hG.2.1; have fq2 := hG.2.2
              have HRX := hid fq0
              clear hG fq0 fq1 fq2
              refine step_callZ (HAL.out _ HRX.out) _ _ rfl rfl (by kernel_rfl) (by kernel_rfl) (fun wn hb => ?_)
              refine hK.out _ _ ?hsr14_17 (fun hH2 => ?hrr14_17)
              case hsr14_17 => exact S2i0 (by have hG := hH; replace hG := S2o0 hG; (try dsimp only at hG); have q0 := hG.1; have q1 := hG.2.1; have q2 := hG.2.2; exact ⟨keepSz hb q0, keepCg hb q1, keepR8 hb q2⟩)
              clear hK K hH
              have hH := hH2
              clear hH2
              try simp only [Act.put, List.getElem_toArray, List.getElem_cons_succ, List.getElem_cons_zero, List.setIfInBounds_toArray, List.set_cons_zero, List.set_cons_succ]
              clear HRX
              refine wpAnyU_ready (rs := [16]) (by kernel_rfl) (by simp) ?_
              refine AllReadyU.cons 0 (by kernel_rfl) (o := _) rfl (fun K hK => ?_) AllReadyU.nil
              try clear hb
              refine step_callZ (HOV.out _) _ _ rfl rfl (by kernel_rfl) (by kernel_rfl) (fun wn hb => ?_)
              refine hK.out _ _ ?hsr14_18 (fun hH2 => ?hrr14_18)
              case hsr14_18 => exact S2i0 (by have hG := hH; replace hG := S2o0 hG; (try dsimp only at hG); have q0 := hG.1; have q1 := hG.2.1; have q2 := hG.2.2; exact ⟨keepSz hb q0, keepCg hb q1, keepR8 hb q2⟩)
              clear hK K hH
              have hH := hH2
              clear hH2
              try simp only [Act.put, List.getElem_toArray, List.getElem_cons_succ, List.getElem_cons_zero, List.setIfInBounds_toArray, List.set_cons_zero, List.set_cons_succ]
              refine wpAnyU_ready (rs := [17]) (by kernel_rfl) (by simp) ?_
              refine AllReadyU.cons 0 (by kernel_rfl) (o := _) rfl (fun K hK => ?_) AllReadyU.nil
              try clear hb
              refine step_callZ (HSB.out _) _ _ rfl rfl (by kernel_rfl) (by kernel_rfl) (fun wn hb => ?_)
              refine hK.out _ _ ?hsr14_19 (fun hH2 => ?hrr14_19)
              case hsr14_19 => exact S2i0 (by have hG := hH; replace hG := S2o0 hG; (try dsimp only at hG); have q0 := hG.1; have q1 := hG.2.1; have q2 := hG.2.2; exact ⟨keepSz hb q0, keepCg hb q1, keepR8 hb q2⟩)
              clear hK K hH
              have hH := hH2
              clear hH2
              try simp only [Act.put, List.getElem_toArray, List.getElem_cons_succ, List.getElem_cons_zero, List.setIfInBounds_toArray, List.set_cons_zero, List.set_cons_succ]
              refine wpAnyU_ready (rs := [19]) (by kernel_rfl) (by simp) ?_
              refine AllReadyU.cons 0 (by kernel_rfl) (o := _) rfl (fun K hK => ?_) AllReadyU.nil
              try clear hb
              refine step_callZ (HNR.out _) _ _ rfl rfl (by kernel_rfl) (by kernel_rfl) (fun wn hb => ?_)
              refine hK.out _ _ ?hsr14_20 (fun hH2 => ?hrr14_20)
              case hsr14_20 => exact S2i0 (by have hG := hH; replace hG := S2o0 hG; (try dsimp only at hG); have q0 := hG.1; have q1 := hG.2.1; have q2 := hG.2.2; exact ⟨keepSz hb q0, keepCg hb q1, keepR8 hb q2⟩)
              clear hK K hH
              have hH := hH2
              clear hH2
              try simp only [Act.put, List.getElem_toArray, List.getElem_cons_succ, List.getElem_cons_zero, List.setIfInBounds_toArray, List.set_cons_zero, List.set_cons_succ]
              refine U_take 20 28 0 0 0 (v := ?vr14_21) rfl (by kernel_rfl) (by kernel_rfl) hWr14 (by kernel_rfl) (by kernel_rfl) (by kernel_rfl) (by kernel_rfl) (by kernel_rfl) (by kernel_rfl) (fun _ _ _ _ h => h) (by kernel_rfl) ?hyr14_21 (by omega) hH ?_
              case hyr14_21 => (intro w' hSw; clear hSw; go_simp; try (with_reducible rfl))
              simp only [List.set_cons_zero, List.set_cons_succ]
              refine wpAnyU_done (by kernel_rfl) ?_ _ _
              refine NoPanic.normal ?_
              clear hWr14
              replace hH := S2o0 hH
              (try dsimp only at hH)
              have t0 := hH.1
              have t1 := hH.2.1
              have t2 := hH.2.2
              replace HSR := hid t0
              replace HCG := hid t1
              replace HR8 := hid t2
              clear t0 t1 t2
              try clear hH hb
              go_upto_region 34 with fail
              refine wp_region_noPanic ?_
              refine wp_region_U (S := (S2 (fun w' => Sz wB g gc gq L4 C4 R w' ∧ Cg w' gx x ∧ R8 w' gr x.nx x.ny r.t1 r.t2 r.ease r.slip r.lift r.bound))) (T := (fun j => [0, 0, 0, 0, 0, 0, 0, 0, 0, 0, 0, 0, 0, 0, 0, 0, 1].getD j 0)) (by kernel_rfl) (S2i0 ⟨HSR.out.drew, HCG.out.drew, HR8.out.drew⟩) (fun hH => ?_)
              have hWr15 : Weaker (S2 (fun w' => Sz wB g gc gq L4 C4 R w' ∧ Cg w' gx x ∧ R8 w' gr x.nx x.ny r.t1 r.t2 r.ease r.slip r.lift r.bound)) := weaker2 _
              refine U_take 0 220 16 0 0 (v := ?vr15_1) rfl (by kernel_rfl) (by kernel_rfl) hWr15 (by kernel_rfl) (by kernel_rfl) (by kernel_rfl) (by kernel_rfl) (by kernel_rfl) (by kernel_rfl) (fun _ _ _ _ h => h) (by kernel_rfl) ?hyr15_1 (by omega) hH ?_
              case hyr15_1 => (intro w' hSw; clear hSw; go_simp; try (with_reducible rfl))
              simp only [List.set_cons_zero, List.set_cons_succ]
              refine U_take 1 221 15 0 0 (v := ?vr15_2) rfl (by kernel_rfl) (by kernel_rfl) hWr15 (by kernel_rfl) (by kernel_rfl) (by kernel_rfl) (by kernel_rfl) (by kernel_rfl) (by kernel_rfl) (fun _ _ _ _ h => h) (by kernel_rfl) ?hyr15_2 (by omega) hH ?_
              case hyr15_2 => (intro w' hSw; clear hSw; go_simp; try (with_reducible rfl))
              simp only [List.set_cons_zero, List.set_cons_succ]
              refine U_take 2 222 14 0 0 (v := ?vr15_3) rfl (by kernel_rfl) (by kernel_rfl) hWr15 (by kernel_rfl) (by kernel_rfl) (by kernel_rfl) (by kernel_rfl) (by kernel_rfl) (by kernel_rfl) (fun _ _ _ _ h => h) (by kernel_rfl) ?hyr15_3 (by omega) hH ?_
              case hyr15_3 => (intro w' hSw; replace hSw := S2o0 hSw; (try dsimp only at hSw); have q0 := hSw.1; have q1 := hSw.2.1; have q2 := hSw.2.2; obtain ⟨qa1_0, qa1_1, qa1_2, qa1_3, qa1_4, qa1_5, qa1_6, qa1_7, qa1_8, qa1_9⟩ := id q1; obtain ⟨qa2_0, qa2_1, qa2_2, qa2_3, qa2_4, qa2_5, qa2_6, qa2_7, qa2_f⟩ := id q2; go_simp; try (with_reducible rfl))
              simp only [List.set_cons_zero, List.set_cons_succ]
              refine U_take 3 223 13 0 0 (v := ?vr15_4) rfl (by kernel_rfl) (by kernel_rfl) hWr15 (by kernel_rfl) (by kernel_rfl) (by kernel_rfl) (by kernel_rfl) (by kernel_rfl) (by kernel_rfl) (fun _ _ _ _ h => h) (by kernel_rfl) ?hyr15_4 (by omega) hH ?_
              case hyr15_4 => (intro w' hSw; clear hSw; go_simp; try (with_reducible rfl))
              simp only [List.set_cons_zero, List.set_cons_succ]
              refine U_take 4 224 12 0 0 (v := ?vr15_5) rfl (by kernel_rfl) (by kernel_rfl) hWr15 (by kernel_rfl) (by kernel_rfl) (by kernel_rfl) (by kernel_rfl) (by kernel_rfl) (by kernel_rfl) (fun _ _ _ _ h => h) (by kernel_rfl) ?hyr15_5 (by omega) hH ?_
              case hyr15_5 => (intro w' hSw; replace hSw := S2o0 hSw; (try dsimp only at hSw); have q0 := hSw.1; have q1 := hSw.2.1; have q2 := hSw.2.2; obtain ⟨qa1_0, qa1_1, qa1_2, qa1_3, qa1_4, qa1_5, qa1_6, qa1_7, qa1_8, qa1_9⟩ := id q1; obtain ⟨qa2_0, qa2_1, qa2_2, qa2_3, qa2_4, qa2_5, qa2_6, qa2_7, qa2_f⟩ := id q2; go_simp; try (with_reducible rfl))
              simp only [List.set_cons_zero, List.set_cons_succ]
              refine U_take 5 225 11 0 0 (v := ?vr15_6) rfl (by kernel_rfl) (by kernel_rfl) hWr15 (by kernel_rfl) (by kernel_rfl) (by kernel_rfl) (by kernel_rfl) (by kernel_rfl) (by kernel_rfl) (fun _ _ _ _ h => h) (by kernel_rfl) ?hyr15_6 (by omega) hH ?_
              case hyr15_6 => (intro w' hSw; clear hSw; go_simp; try (with_reducible rfl))
              simp only [List.set_cons_zero, List.set_cons_succ]
              refine U_take 6 226 10 0 0 (v := ?vr15_7) rfl (by kernel_rfl) (by kernel_rfl) hWr15 (by kernel_rfl) (by kernel_rfl) (by kernel_rfl) (by kernel_rfl) (by kernel_rfl) (by kernel_rfl) (fun _ _ _ _ h => h) (by kernel_rfl) ?hyr15_7 (by omega) hH ?_
              case hyr15_7 => (intro w' hSw; replace hSw := S2o0 hSw; (try dsimp only at hSw); have q0 := hSw.1; have q1 := hSw.2.1; have q2 := hSw.2.2; obtain ⟨qa1_0, qa1_1, qa1_2, qa1_3, qa1_4, qa1_5, qa1_6, qa1_7, qa1_8, qa1_9⟩ := id q1; obtain ⟨qa2_0, qa2_1, qa2_2, qa2_3, qa2_4, qa2_5, qa2_6, qa2_7, qa2_f⟩ := id q2; go_simp; try (with_reducible rfl))
              simp only [List.set_cons_zero, List.set_cons_succ]
              refine U_take 7 227 9 0 0 (v := ?vr15_8) rfl (by kernel_rfl) (by kernel_rfl) hWr15 (by kernel_rfl) (by kernel_rfl) (by kernel_rfl) (by kernel_rfl) (by kernel_rfl) (by kernel_rfl) (fun _ _ _ _ h => h) (by kernel_rfl) ?hyr15_8 (by omega) hH ?_
              case hyr15_8 => (intro w' hSw; clear hSw; go_simp; try (with_reducible rfl))
              simp only [List.set_cons_zero, List.set_cons_succ]
              refine U_take 8 228 8 0 0 (v := ?vr15_9) rfl (by kernel_rfl) (by kernel_rfl) hWr15 (by kernel_rfl) (by kernel_rfl) (by kernel_rfl) (by kernel_rfl) (by kernel_rfl) (by kernel_rfl) (fun _ _ _ _ h => h) (by kernel_rfl) ?hyr15_9 (by omega) hH ?_
              case hyr15_9 => (intro w' hSw; replace hSw := S2o0 hSw; (try dsimp only at hSw); have q0 := hSw.1; have q1 := hSw.2.1; have q2 := hSw.2.2; obtain ⟨qa1_0, qa1_1, qa1_2, qa1_3, qa1_4, qa1_5, qa1_6, qa1_7, qa1_8, qa1_9⟩ := id q1; obtain ⟨qa2_0, qa2_1, qa2_2, qa2_3, qa2_4, qa2_5, qa2_6, qa2_7, qa2_f⟩ := id q2; go_simp; try (with_reducible rfl))
              simp only [List.set_cons_zero, List.set_cons_succ]
              refine U_take 9 229 7 0 0 (v := ?vr15_10) rfl (by kernel_rfl) (by kernel_rfl) hWr15 (by kernel_rfl) (by kernel_rfl) (by kernel_rfl) (by kernel_rfl) (by kernel_rfl) (by kernel_rfl) (fun _ _ _ _ h => h) (by kernel_rfl) ?hyr15_10 (by omega) hH ?_
              case hyr15_10 => (intro w' hSw; clear hSw; go_simp; try (with_reducible rfl))
              simp only [List.set_cons_zero, List.set_cons_succ]
              refine U_take 10 230 6 0 0 (v := ?vr15_11) rfl (by kernel_rfl) (by kernel_rfl) hWr15 (by kernel_rfl) (by kernel_rfl) (by kernel_rfl) (by kernel_rfl) (by kernel_rfl) (by kernel_rfl) (fun _ _ _ _ h => h) (by kernel_rfl) ?hyr15_11 (by omega) hH ?_
              case hyr15_11 => (intro w' hSw; replace hSw := S2o0 hSw; (try dsimp only at hSw); have q0 := hSw.1; have q1 := hSw.2.1; have q2 := hSw.2.2; obtain ⟨qa1_0, qa1_1, qa1_2, qa1_3, qa1_4, qa1_5, qa1_6, qa1_7, qa1_8, qa1_9⟩ := id q1; obtain ⟨qa2_0, qa2_1, qa2_2, qa2_3, qa2_4, qa2_5, qa2_6, qa2_7, qa2_f⟩ := id q2; go_simp; try (with_reducible rfl))
              simp only [List.set_cons_zero, List.set_cons_succ]
              refine U_take 11 231 5 0 0 (v := ?vr15_12) rfl (by kernel_rfl) (by kernel_rfl) hWr15 (by kernel_rfl) (by kernel_rfl) (by kernel_rfl) (by kernel_rfl) (by kernel_rfl) (by kernel_rfl) (fun _ _ _ _ h => h) (by kernel_rfl) ?hyr15_12 (by omega) hH ?_
              case hyr15_12 => (intro w' hSw; clear hSw; go_simp; try (with_reducible rfl))
              simp only [List.set_cons_zero, List.set_cons_succ]
              refine U_take 12 232 4 0 0 (v := ?vr15_13) rfl (by kernel_rfl) (by kernel_rfl) hWr15 (by kernel_rfl) (by kernel_rfl) (by kernel_rfl) (by kernel_rfl) (by kernel_rfl) (by kernel_rfl) (fun _ _ _ _ h => h) (by kernel_rfl) ?hyr15_13 (by omega) hH ?_
              case hyr15_13 => (intro w' hSw; clear hSw; go_simp; try (with_reducible rfl))
              simp only [List.set_cons_zero, List.set_cons_succ]
              refine U_take 13 233 3 0 0 (v := ?vr15_14) rfl (by kernel_rfl) (by kernel_rfl) hWr15 (by kernel_rfl) (by kernel_rfl) (by kernel_rfl) (by kernel_rfl) (by kernel_rfl) (by kernel_rfl) (fun _ _ _ _ h => h) (by kernel_rfl) ?hyr15_14 (by omega) hH ?_
              case hyr15_14 => (intro w' hSw; replace hSw := S2o0 hSw; (try dsimp only at hSw); have q0 := hSw.1; have q1 := hSw.2.1; have q2 := hSw.2.2; obtain ⟨qa1_0, qa1_1, qa1_2, qa1_3, qa1_4, qa1_5, qa1_6, qa1_7, qa1_8, qa1_9⟩ := id q1; obtain ⟨qa2_0, qa2_1, qa2_2, qa2_3, qa2_4, qa2_5, qa2_6, qa2_7, qa2_f⟩ := id q2; go_simp; try (with_reducible rfl))
              simp only [List.set_cons_zero, List.set_cons_succ]
              refine wpAnyU_ready (rs := [14]) (by kernel_rfl) (by simp) ?_
              refine AllReadyU.cons 0 (by kernel_rfl) (o := _) rfl (fun K hK => ?_) AllReadyU.nil
              try clear hb
              refine step_callZ (HSD.out _) _ _ rfl rfl (by kernel_rfl) (by kernel_rfl) (fun wn hb => ?_)
              refine hK.out _ _ ?hsr15_15 (fun hH2 => ?hrr15_15)
              case hsr15_15 => exact S2i0 (by have hG := hH; replace hG := S2o0 hG; (try dsimp only at hG); have q0 := hG.1; have q1 := hG.2.1; have q2 := hG.2.2; exact ⟨keepSz hb q0, keepCg hb q1, keepR8 hb q2⟩)
              clear hK K hH
              have hH := hH2
              clear hH2
              try simp only [Act.put, List.getElem_toArray, List.getElem_cons_succ, List.getElem_cons_zero, List.setIfInBounds_toArray, List.set_cons_zero, List.set_cons_succ]
              refine wpAnyU_ready (rs := [15]) (by kernel_rfl) (by simp) ?_
              refine AllReadyU.cons 0 (by kernel_rfl) (o := _) rfl (fun K hK => ?_) AllReadyU.nil
              try clear hb
              refine step_callZ (HSC.out _) _ _ rfl rfl (by kernel_rfl) (by kernel_rfl) (fun wn hb => ?_)
              refine hK.out _ _ ?hsr15_16 (fun hH2 => ?hrr15_16)
              case hsr15_16 => exact S2i0 (by have hG := hH; replace hG := S2o0 hG; (try dsimp only at hG); have q0 := hG.1; have q1 := hG.2.1; have q2 := hG.2.2; exact ⟨keepSz hb q0, keepCg hb q1, keepR8 hb q2⟩)
              clear hK K hH
              have hH := hH2
              clear hH2
              try simp only [Act.put, List.getElem_toArray, List.getElem_cons_succ, List.getElem_cons_zero, List.setIfInBounds_toArray, List.set_cons_zero, List.set_cons_succ]
              refine wpAnyU_ready (rs := [16]) (by kernel_rfl) (by simp) ?_
              refine AllReadyU.cons 1 (by kernel_rfl) (o := _) rfl (fun K hK => ?_) AllReadyU.nil
              try clear hb
              have hG := hH
              replace hG := S2o0 hG; (try dsimp only at hG); have fq0 := hG.1; have fq1 := hG.2.1; have fq2 := hG.2.2
              have HRX := hid fq0
              replace HCG := hid fq1
              replace HR8 := hid fq2
              clear hG fq0 fq1 fq2
              go_simp
              (go_at_call 49; refine (HPSH.out _ HRX.out HJB.out.1 HJB.out.2).mono ?_; rintro e wp ⟨L8, rfl, hbl2, hm2, hg2, hn2⟩)
              refine hK.out _ _ ?hsr15_17 (fun hH2 => ?hrr15_17)
              case hsr15_17 => exact S2i1
              clear hK K hH
              have hH := hH2
              clear hH2
              try simp only [Act.put, List.setIfInBounds_toArray, List.set_cons_zero, List.set_cons_succ]
              have HM2 := hid hm2
              replace HSR := hid (HRX.out.push hbl2 hg2 hn2)
              replace HCG := hid (HCG.out.next hg2 (by have h9 := HSR.out.lt; have h8 := HGL.out; omega))
              replace HR8 := hid (HR8.out.next hg2 (by have h9 := HSR.out.lt; have h8 := HGL.out; omega))
              clear HRX hbl2 hm2 hg2 hn2
              refine wpAnyU_done (by kernel_rfl) ?_ _ _
              refine NoPanic.normal ?_
              go_upto_region 35 with fail
              have hcl9 := HSR.out.cl
              obtain ⟨a0, a1, a2, a3, a4, a5, a6, a7, a8, a9⟩ := cells_ct0 hcl9 HI.out.1 HI.out.2
              have af := HSR.out.cf
              have hclt := hcl9.lt
              clear hcl9
              obtain ⟨ws, hws⟩ : ∃ ws, ws = wp.setCell ⟨gc, i * 10 + 9, none⟩ (.int .i64 sl) := ⟨_, rfl⟩
              obtain ⟨C8, hC8⟩ : ∃ z : List Ct, z = C4.set i { x with sli := sl } := ⟨_, rfl⟩
              have HSR2 : Hid (Sz wB g gc gq L8 C8 R ws) := by rw [hws, hC8]; exact HSR.out.setsli HI.out.1 HI.out.2 sl
              have HCG2 : Hid (Cg ws gx x) := by rw [hws]; exact HCG.out.off (by have h9 := HSR.out.lt; have h8 := HGL.out; omega)
              have HR82 : Hid (R8 ws gr x.nx x.ny r.t1 r.t2 r.ease r.slip r.lift r.bound) := by rw [hws]; exact HR8.out.off (by have h9 := HSR.out.lt; have h8 := HGL.out; omega)
              have HFIN : Hid (slipQ (L4.map valB) x r = (L8.map valB, { x with sli := sl })) := by rw [HQ9.out, HM2.out]; rfl
              have HC8 := hid hC8
              clear HSR HCG HR8 HQ9 HM2 HPSH HSD HSC HJB hC8
              go_wp2_with fail
              rw [← hws]
              go_meet
              exact ⟨L8, C8, sl, HSR2.out, HCG2.out, HR82.out, HFIN.out, HC8.out⟩
            case rest =>
              as_aux_lemma =>
              obtain ⟨L8, C8, s8, hc1, hc2, hc3, hc4, hc5⟩ := hcut
              obtain ⟨wd0, rfl⟩ : ∃ wd0 : World, wd0 = wc := ⟨_, rfl⟩
              replace HSR := hid hc1
              replace HCG := hid hc2
              replace HR8 := hid hc3
              have HSL8 := hid hc4
              have HC8 := hid hc5
              have HLLL8 : Hid (L8.length = L.length) := by have h9 := (slipQ_like (Q := L4.map valB) (r := r) (by rw [List.length_map, HLLL4.out]; exact HOK.out)).len; rw [HSL8.out] at h9; rw [List.length_map, List.length_map, HLLL4.out] at h9; exact h9
              have HI8 : Hid (i < C8.length ∧ C8[i]? = some { x with sli := s8 }) := by have h9 := HI.out.1; rw [HC8.out]; exact ⟨by rw [List.length_set]; exact h9, List.getElem?_set_self h9⟩
              have HDONE : Hid (∀ (L9 : List BE) (x9 : Ct), easeQ (L8.map valB) { x with sli := s8 } r = (L9.map valB, x9) → (L9.map valB, C4.set i x9) = iterQ S0 RQ C.length (k + 1)) := fun L9 x9 h9 => by
                have h8 : roundQ (L4.map valB) x r = (L9.map valB, x9) := by unfold roundQ; rw [HSL8.out]; exact h9
                rw [HIT.out, h8]
              clear hc1 hc2 hc3 hc4 hc5 HSL8
              obtain ⟨rr0, rr1, rr2, rr3, rr4, rr5, rr6, rr7, rrf⟩ := id HR8.out
              by_cases hz : r.ease = 0
              · have hzb : (r.ease != 0) = false := by simp [hz]
                have HFIN := hid (HDONE.out L8 { x with sli := s8 } (by show easeQ _ _ _ = _; unfold easeQ; rw [if_pos hz]))
                have HSR2 := hid HSR.out
                clear hz HSR HCG HR8 HDONE
                go_wp2
                go_roundw
                case rel => exact ⟨k + 1, L8, C8, by have := HKN.out; omega, by go_num, HSR2.out, by rw [← HFIN.out, HC8.out]⟩
                case measure => simp [intOf] <;> omega
              have hzb : (r.ease != 0) = true := by simp [hz]
              go_upto_region 37 with fail
              clear rr0 rr1 rr2 rr3 rr4 rr5 rr6 rr7 rrf hzb
              obtain ⟨vz, hvz⟩ : ∃ z, z = relV (L8.map valB) x x.nx x.ny := ⟨_, rfl⟩
              have HAL : Hid (∀ w', Sz wB g gc gq L8 C8 R w' → Calls Try.prog 48 #[.slice (some ⟨g, 0, none⟩) L.length cap, .int .i64 x.a, .int .i64 x.b, vecV x.px x.py, vecV x.px x.py, vecV x.nx x.ny] w' (Ret (.int .i64 vz) w')) := fun w' hr => by
                have hka : ka < L8.length := by have := HKL.out; rw [HLLL8.out]; omega
                have hkb : kb < L8.length := by have := HKL.out; rw [HLLL8.out]; omega
                have h9 := along_calls cap g ka kb L8 x.px x.py x.px x.py x.nx x.ny w' hr.bl (fun y hy bx off e => Nat.lt_of_lt_of_le (hr.lo y hy bx off e).1 hr.gr.size) HKL.out.1 hka hkb (by have := HKL.out; rw [HLLL8.out]; omega) _ _ rfl rfl
                rw [HLLL8.out, ← HXI.out.1, ← HXI.out.2] at h9
                have e9 : vz = pulV (L8[ka]'hka).b (L8[kb]'hkb).b x.px x.py x.px x.py x.nx x.ny := by
                  rw [hvz]; unfold relV; rw [qB_at HXI.out.1 (y := valB (L8[ka]'hka)) (by rw [List.getElem?_map, List.getElem?_eq_getElem hka]; rfl), qB_at HXI.out.2 (y := valB (L8[kb]'hkb)) (by rw [List.getElem?_map, List.getElem?_eq_getElem hkb]; rfl)]; rfl
                rw [← e9] at h9
                exact h9
              obtain ⟨sb, hsb⟩ : ∃ z, z = subF r.lift vz := ⟨_, rfl⟩
              have HSB := hid (fsub_calls r.lift vz)
              rw [← hsb] at HSB
              obtain ⟨qd, hqd⟩ : ∃ z, z = divF sb r.ease := ⟨_, rfl⟩
              have HOV := hid (rquot_calls sb r.ease)
              rw [← hqd] at HOV
              obtain ⟨ad, had⟩ : ∃ z, z = addF x.push qd := ⟨_, rfl⟩
              have HAD := hid (fadd_calls x.push qd)
              rw [← had] at HAD
              obtain ⟨sl, hsl⟩ : ∃ z, z = max 0 ad := ⟨_, rfl⟩
              have HSL := hid hsl
              have hcl : pressZ (L8.map valB) { x with sli := s8 } r = sl := by
                show max 0 (addF x.push (divF (subF r.lift (relV (L8.map valB) x x.nx x.ny)) r.ease)) = sl
                rw [← hvz, ← hsb, ← hqd, ← had, hsl]
              obtain ⟨ds, hds⟩ : ∃ z, z = subF sl x.push := ⟨_, rfl⟩
              have HSD := hid (fsub_calls sl x.push)
              rw [← hds] at HSD
              obtain ⟨j1, hj1⟩ : ∃ z, z = mulF x.nx ds := ⟨_, rfl⟩
              obtain ⟨j2, hj2⟩ : ∃ z, z = mulF x.ny ds := ⟨_, rfl⟩
              have HSC := hid (vscale_calls x.nx x.ny ds)
              rw [← hj1, ← hj2] at HSC
              have HJB : Hid ((-1099511627776 ≤ j1 ∧ j1 ≤ 1099511627776) ∧ (-1099511627776 ≤ j2 ∧ j2 ≤ 1099511627776)) := by rw [hj1, hj2]; exact ⟨mulF_bd _ _, mulF_bd _ _⟩
              have HQ9 : Hid (easeQ (L8.map valB) { x with sli := s8 } r = (pushX (L8.map valB) x j1 j2, { x with sli := s8, push := sl })) := by
                have h9 : easeQ (L8.map valB) { x with sli := s8 } r = (pushX (L8.map valB) x (mulF x.nx (subF (pressZ (L8.map valB) { x with sli := s8 } r) x.push)) (mulF x.ny (subF (pressZ (L8.map valB) { x with sli := s8 } r) x.push)), { x with sli := s8, push := pressZ (L8.map valB) { x with sli := s8 } r }) := (by unfold easeQ; rw [if_neg hz] <;> rfl)
                rw [h9, hcl, ← hds, ← hj1, ← hj2] <;> rfl
              have HPSH : Hid (∀ w', Sz wB g gc gq L8 C8 R w' → (-1099511627776 ≤ j1 ∧ j1 ≤ 1099511627776) → (-1099511627776 ≤ j2 ∧ j2 ≤ 1099511627776) → Calls Try.prog 49 #[.slice (some ⟨g, 0, none⟩) L.length cap, .int .i64 x.a, .int .i64 x.b, vecV x.px x.py, vecV x.px x.py, vecV j1 j2] w' (RetPull3 g L8 (pushX (L8.map valB) x j1 j2) w')) := fun w' hr h1 h2 => by
                have h9 := rpushed3_calls cap g ka kb L8 x.px x.py x.px x.py j1 j2 w' hr.bl (fun y hy bx off e => Nat.lt_of_lt_of_le (hr.lo y hy bx off e).1 hr.gr.size) HKL.out.1 (by have := HKL.out; rw [HLLL8.out]; omega) (by have := HKL.out; rw [HLLL8.out]; omega) (by have := HKL.out; rw [HLLL8.out]; omega) _ _ rfl rfl h1 h2
                rw [HLLL8.out, ← HXI.out.1, ← HXI.out.2] at h9
                unfold pushX
                rw [show x.a.toNat = ka from by rw [HXI.out.1]; exact Int.toNat_natCast ka, show x.b.toNat = kb from by rw [HXI.out.2]; exact Int.toNat_natCast kb]
                exact h9
              clear hvz hsb hqd had hsl hcl hds hj1 hj2 hz
              refine wp_region_noPanic ?_
              refine wp_region_U (S := (S2 (fun w' => Sz wB g gc gq L8 C8 R w' ∧ Cg w' gx x ∧ R8 w' gr x.nx x.ny r.t1 r.t2 r.ease r.slip r.lift r.bound))) (T := (fun _ => 0)) (by kernel_rfl) (S2i0 ⟨HSR.out.drew, HCG.out.drew, HR8.out.drew⟩) (fun hH => ?_)
              have hWr16 : Weaker (S2 (fun w' => Sz wB g gc gq L8 C8 R w' ∧ Cg w' gx x ∧ R8 w' gr x.nx x.ny r.t1 r.t2 r.ease r.slip r.lift r.bound)) := weaker2 _
              refine U_take 0 245 21 0 0 (v := ?vr16_1) rfl (by kernel_rfl) (by kernel_rfl) hWr16 (by kernel_rfl) (by kernel_rfl) (by kernel_rfl) (by kernel_rfl) (by kernel_rfl) (by kernel_rfl) (fun _ _ _ _ h => h) (by kernel_rfl) ?hyr16_1 (by omega) hH ?_
              case hyr16_1 => (intro w' hSw; clear hSw; go_simp; try (with_reducible rfl))
              simp only [List.set_cons_zero, List.set_cons_succ]
              refine U_take 1 246 20 0 0 (v := ?vr16_2) rfl (by kernel_rfl) (by kernel_rfl) hWr16 (by kernel_rfl) (by kernel_rfl) (by kernel_rfl) (by kernel_rfl) (by kernel_rfl) (by kernel_rfl) (fun _ _ _ _ h => h) (by kernel_rfl) ?hyr16_2 (by omega) hH ?_
              case hyr16_2 => (intro w' hSw; replace hSw := S2o0 hSw; (try dsimp only at hSw); have q0 := hSw.1; have q1 := hSw.2.1; have q2 := hSw.2.2; obtain ⟨qa1_0, qa1_1, qa1_2, qa1_3, qa1_4, qa1_5, qa1_6, qa1_7, qa1_8, qa1_9⟩ := id q1; obtain ⟨qa2_0, qa2_1, qa2_2, qa2_3, qa2_4, qa2_5, qa2_6, qa2_7, qa2_f⟩ := id q2; go_simp; try (with_reducible rfl))
              simp only [List.set_cons_zero, List.set_cons_succ]
              refine U_take 2 247 19 0 0 (v := ?vr16_3) rfl (by kernel_rfl) (by kernel_rfl) hWr16 (by kernel_rfl) (by kernel_rfl) (by kernel_rfl) (by kernel_rfl) (by kernel_rfl) (by kernel_rfl) (fun _ _ _ _ h => h) (by kernel_rfl) ?hyr16_3 (by omega) hH ?_
              case hyr16_3 => (intro w' hSw; clear hSw; go_simp; try (with_reducible rfl))
              simp only [List.set_cons_zero, List.set_cons_succ]
              refine U_take 3 248 18 0 0 (v := ?vr16_4) rfl (by kernel_rfl) (by kernel_rfl) hWr16 (by kernel_rfl) (by kernel_rfl) (by kernel_rfl) (by kernel_rfl) (by kernel_rfl) (by kernel_rfl) (fun _ _ _ _ h => h) (by kernel_rfl) ?hyr16_4 (by omega) hH ?_
              case hyr16_4 => (intro w' hSw; replace hSw := S2o0 hSw; (try dsimp only at hSw); have q0 := hSw.1; have q1 := hSw.2.1; have q2 := hSw.2.2; obtain ⟨qa1_0, qa1_1, qa1_2, qa1_3, qa1_4, qa1_5, qa1_6, qa1_7, qa1_8, qa1_9⟩ := id q1; obtain ⟨qa2_0, qa2_1, qa2_2, qa2_3, qa2_4, qa2_5, qa2_6, qa2_7, qa2_f⟩ := id q2; go_simp; try (with_reducible rfl))
              simp only [List.set_cons_zero, List.set_cons_succ]
              refine U_take 4 249 17 0 0 (v := ?vr16_5) rfl (by kernel_rfl) (by kernel_rfl) hWr16 (by kernel_rfl) (by kernel_rfl) (by kernel_rfl) (by kernel_rfl) (by kernel_rfl) (by kernel_rfl) (fun _ _ _ _ h => h) (by kernel_rfl) ?hyr16_5 (by omega) hH ?_
              case hyr16_5 => (intro w' hSw; clear hSw; go_simp; try (with_reducible rfl))
              simp only [List.set_cons_zero, List.set_cons_succ]
              refine U_take 5 250 16 0 0 (v := ?vr16_6) rfl (by kernel_rfl) (by kernel_rfl) hWr16 (by kernel_rfl) (by kernel_rfl) (by kernel_rfl) (by kernel_rfl) (by kernel_rfl) (by kernel_rfl) (fun _ _ _ _ h => h) (by kernel_rfl) ?hyr16_6 (by omega) hH ?_
              case hyr16_6 => (intro w' hSw; clear hSw; go_simp; try (with_reducible rfl))
              simp only [List.set_cons_zero, List.set_cons_succ]
              refine U_take 6 251 15 0 0 (v := ?vr16_7) rfl (by kernel_rfl) (by kernel_rfl) hWr16 (by kernel_rfl) (by kernel_rfl) (by kernel_rfl) (by kernel_rfl) (by kernel_rfl) (by kernel_rfl) (fun _ _ _ _ h => h) (by kernel_rfl) ?hyr16_7 (by omega) hH ?_
              case hyr16_7 => (intro w' hSw; replace hSw := S2o0 hSw; (try dsimp only at hSw); have q0 := hSw.1; have q1 := hSw.2.1; have q2 := hSw.2.2; obtain ⟨qa1_0, qa1_1, qa1_2, qa1_3, qa1_4, qa1_5, qa1_6, qa1_7, qa1_8, qa1_9⟩ := id q1; obtain ⟨qa2_0, qa2_1, qa2_2, qa2_3, qa2_4, qa2_5, qa2_6, qa2_7, qa2_f⟩ := id q2; go_simp; try (with_reducible rfl))
              simp only [List.set_cons_zero, List.set_cons_succ]
              refine U_take 7 252 14 0 0 (v := ?vr16_8) rfl (by kernel_rfl) (by kernel_rfl) hWr16 (by kernel_rfl) (by kernel_rfl) (by kernel_rfl) (by kernel_rfl) (by kernel_rfl) (by kernel_rfl) (fun _ _ _ _ h => h) (by kernel_rfl) ?hyr16_8 (by omega) hH ?_
              case hyr16_8 => (intro w' hSw; clear hSw; go_simp; try (with_reducible rfl))
              simp only [List.set_cons_zero, List.set_cons_succ]
              refine U_take 8 253 13 0 0 (v := ?vr16_9) rfl (by kernel_rfl) (by kernel_rfl) hWr16 (by kernel_rfl) (by kernel_rfl) (by kernel_rfl) (by kernel_rfl) (by kernel_rfl) (by kernel_rfl) (fun _ _ _ _ h => h) (by kernel_rfl) ?hyr16_9 (by omega) hH ?_
              case hyr16_9 => (intro w' hSw; replace hSw := S2o0 hSw; (try dsimp only at hSw); have q0 := hSw.1; have q1 := hSw.2.1; have q2 := hSw.2.2; obtain ⟨qa1_0, qa1_1, qa1_2, qa1_3, qa1_4, qa1_5, qa1_6, qa1_7, qa1_8, qa1_9⟩ := id q1; obtain ⟨qa2_0, qa2_1, qa2_2, qa2_3, qa2_4, qa2_5, qa2_6, qa2_7, qa2_f⟩ := id q2; go_simp; try (with_reducible rfl))
              simp only [List.set_cons_zero, List.set_cons_succ]
              refine U_take 9 254 12 0 0 (v := ?vr16_10) rfl (by kernel_rfl) (by kernel_rfl) hWr16 (by kernel_rfl) (by kernel_rfl) (by kernel_rfl) (by kernel_rfl) (by kernel_rfl) (by kernel_rfl) (fun _ _ _ _ h => h) (by kernel_rfl) ?hyr16_10 (by omega) hH ?_
              case hyr16_10 => (intro w' hSw; clear hSw; go_simp; try (with_reducible rfl))
              simp only [List.set_cons_zero, List.set_cons_succ]
              refine U_take 10 255 11 0 0 (v := ?vr16_11) rfl (by kernel_rfl) (by kernel_rfl) hWr16 (by kernel_rfl) (by kernel_rfl) (by kernel_rfl) (by kernel_rfl) (by kernel_rfl) (by kernel_rfl) (fun _ _ _ _ h => h) (by kernel_rfl) ?hyr16_11 (by omega) hH ?_
              case hyr16_11 => (intro w' hSw; replace hSw := S2o0 hSw; (try dsimp only at hSw); have q0 := hSw.1; have q1 := hSw.2.1; have q2 := hSw.2.2; obtain ⟨qa1_0, qa1_1, qa1_2, qa1_3, qa1_4, qa1_5, qa1_6, qa1_7, qa1_8, qa1_9⟩ := id q1; obtain ⟨qa2_0, qa2_1, qa2_2, qa2_3, qa2_4, qa2_5, qa2_6, qa2_7, qa2_f⟩ := id q2; go_simp; try (with_reducible rfl))
              simp only [List.set_cons_zero, List.set_cons_succ]
              refine U_take 11 256 10 0 0 (v := ?vr16_12) rfl (by kernel_rfl) (by kernel_rfl) hWr16 (by kernel_rfl) (by kernel_rfl) (by kernel_rfl) (by kernel_rfl) (by kernel_rfl) (by kernel_rfl) (fun _ _ _ _ h => h) (by kernel_rfl) ?hyr16_12 (by omega) hH ?_
              case hyr16_12 => (intro w' hSw; clear hSw; go_simp; try (with_reducible rfl))
              simp only [List.set_cons_zero, List.set_cons_succ]
              refine U_take 12 257 9 0 0 (v := ?vr16_13) rfl (by kernel_rfl) (by kernel_rfl) hWr16 (by kernel_rfl) (by kernel_rfl) (by kernel_rfl) (by kernel_rfl) (by kernel_rfl) (by kernel_rfl) (fun _ _ _ _ h => h) (by kernel_rfl) ?hyr16_13 (by omega) hH ?_
              case hyr16_13 => (intro w' hSw; replace hSw := S2o0 hSw; (try dsimp only at hSw); have q0 := hSw.1; have q1 := hSw.2.1; have q2 := hSw.2.2; obtain ⟨qa1_0, qa1_1, qa1_2, qa1_3, qa1_4, qa1_5, qa1_6, qa1_7, qa1_8, qa1_9⟩ := id q1; obtain ⟨qa2_0, qa2_1, qa2_2, qa2_3, qa2_4, qa2_5, qa2_6, qa2_7, qa2_f⟩ := id q2; go_simp; try (with_reducible rfl))
              simp only [List.set_cons_zero, List.set_cons_succ]
              refine U_take 13 258 8 0 0 (v := ?vr16_14) rfl (by kernel_rfl) (by kernel_rfl) hWr16 (by kernel_rfl) (by kernel_rfl) (by kernel_rfl) (by kernel_rfl) (by kernel_rfl) (by kernel_rfl) (fun _ _ _ _ h => h) (by kernel_rfl) ?hyr16_14 (by omega) hH ?_
              case hyr16_14 => (intro w' hSw; clear hSw; go_simp; try (with_reducible rfl))
              simp only [List.set_cons_zero, List.set_cons_succ]
              refine U_take 14 259 7 0 0 (v := ?vr16_15) rfl (by kernel_rfl) (by kernel_rfl) hWr16 (by kernel_rfl) (by kernel_rfl) (by kernel_rfl) (by kernel_rfl) (by kernel_rfl) (by kernel_rfl) (fun _ _ _ _ h => h) (by kernel_rfl) ?hyr16_15 (by omega) hH ?_
              case hyr16_15 => (intro w' hSw; replace hSw := S2o0 hSw; (try dsimp only at hSw); have q0 := hSw.1; have q1 := hSw.2.1; have q2 := hSw.2.2; obtain ⟨qa1_0, qa1_1, qa1_2, qa1_3, qa1_4, qa1_5, qa1_6, qa1_7, qa1_8, qa1_9⟩ := id q1; obtain ⟨qa2_0, qa2_1, qa2_2, qa2_3, qa2_4, qa2_5, qa2_6, qa2_7, qa2_f⟩ := id q2; go_simp; try (with_reducible rfl))
              simp only [List.set_cons_zero, List.set_cons_succ]
              refine U_take 17 262 6 0 0 (v := ?vr16_16) rfl (by kernel_rfl) (by kernel_rfl) hWr16 (by kernel_rfl) (by kernel_rfl) (by kernel_rfl) (by kernel_rfl) (by kernel_rfl) (by kernel_rfl) (fun _ _ _ _ h => h) (by kernel_rfl) ?hyr16_16 (by omega) hH ?_
              case hyr16_16 => (intro w' hSw; clear hSw; go_simp; try (with_reducible rfl))
              simp only [List.set_cons_zero, List.set_cons_succ]
              refine U_take 18 263 5 0 0 (v := ?vr16_17) rfl (by kernel_rfl) (by kernel_rfl) hWr16 (by kernel_rfl) (by kernel_rfl) (by kernel_rfl) (by kernel_rfl) (by kernel_rfl) (by kernel_rfl) (fun _ _ _ _ h => h) (by kernel_rfl) ?hyr16_17 (by omega) hH ?_
              case hyr16_17 => (intro w' hSw; replace hSw := S2o0 hSw; (try dsimp only at hSw); have q0 := hSw.1; have q1 := hSw.2.1; have q2 := hSw.2.2; obtain ⟨qa1_0, qa1_1, qa1_2, qa1_3, qa1_4, qa1_5, qa1_6, qa1_7, qa1_8, qa1_9⟩ := id q1; obtain ⟨qa2_0, qa2_1, qa2_2, qa2_3, qa2_4, qa2_5, qa2_6, qa2_7, qa2_f⟩ := id q2; go_simp; try (with_reducible rfl))
              simp only [List.set_cons_zero, List.set_cons_succ]
              refine wpAnyU_ready (rs := [15]) (by kernel_rfl) (by simp) ?_
              refine AllReadyU.cons 0 (by kernel_rfl) (o := _) rfl (fun K hK => ?_) AllReadyU.nil
              try clear hb
              have hG := hH
              replace hG := S2o0 hG; (try dsimp only at hG); have fq0 := hG.1; have fq1 := hG.2.1; have fq2 := hG.2.2
              have HRX := hid fq0
              clear hG fq0 fq1 fq2
              refine step_callZ (HAL.out _ HRX.out) _ _ rfl rfl (by kernel_rfl) (by kernel_rfl) (fun wn hb => ?_)
              refine hK.out _ _ ?hsr16_18 (fun hH2 => ?hrr16_18)
              case hsr16_18 => exact S2i0 (by have hG := hH; replace hG := S2o0 hG; (try dsimp only at hG); have q0 := hG.1; have q1 := hG.2.1; have q2 := hG.2.2; exact ⟨keepSz hb q0, keepCg hb q1, keepR8 hb q2⟩)
              clear hK K hH
              have hH := hH2
              clear hH2
              try simp only [Act.put, List.getElem_toArray, List.getElem_cons_succ, List.getElem_cons_zero, List.setIfInBounds_toArray, List.set_cons_zero, List.set_cons_succ]
              clear HRX
              refine wpAnyU_ready (rs := [16]) (by kernel_rfl) (by simp) ?_
              refine AllReadyU.cons 0 (by kernel_rfl) (o := _) rfl (fun K hK => ?_) AllReadyU.nil
              try clear hb
              refine step_callZ (HSB.out _) _ _ rfl rfl (by kernel_rfl) (by kernel_rfl) (fun wn hb => ?_)
              refine hK.out _ _ ?hsr16_19 (fun hH2 => ?hrr16_19)
              case hsr16_19 => exact S2i0 (by have hG := hH; replace hG := S2o0 hG; (try dsimp only at hG); have q0 := hG.1; have q1 := hG.2.1; have q2 := hG.2.2; exact ⟨keepSz hb q0, keepCg hb q1, keepR8 hb q2⟩)
              clear hK K hH
              have hH := hH2
              clear hH2
              try simp only [Act.put, List.getElem_toArray, List.getElem_cons_succ, List.getElem_cons_zero, List.setIfInBounds_toArray, List.set_cons_zero, List.set_cons_succ]
              refine wpAnyU_ready (rs := [19]) (by kernel_rfl) (by simp) ?_
              refine AllReadyU.cons 0 (by kernel_rfl) (o := _) rfl (fun K hK => ?_) AllReadyU.nil
              try clear hb
              refine step_callZ (HOV.out _) _ _ rfl rfl (by kernel_rfl) (by kernel_rfl) (fun wn hb => ?_)
              refine hK.out _ _ ?hsr16_20 (fun hH2 => ?hrr16_20)
              case hsr16_20 => exact S2i0 (by have hG := hH; replace hG := S2o0 hG; (try dsimp only at hG); have q0 := hG.1; have q1 := hG.2.1; have q2 := hG.2.2; exact ⟨keepSz hb q0, keepCg hb q1, keepR8 hb q2⟩)
              clear hK K hH
              have hH := hH2
              clear hH2
              try simp only [Act.put, List.getElem_toArray, List.getElem_cons_succ, List.getElem_cons_zero, List.setIfInBounds_toArray, List.set_cons_zero, List.set_cons_succ]
              refine wpAnyU_ready (rs := [20]) (by kernel_rfl) (by simp) ?_
              refine AllReadyU.cons 0 (by kernel_rfl) (o := _) rfl (fun K hK => ?_) AllReadyU.nil
              try clear hb
              refine step_callZ (HAD.out _) _ _ rfl rfl (by kernel_rfl) (by kernel_rfl) (fun wn hb => ?_)
              refine hK.out _ _ ?hsr16_21 (fun hH2 => ?hrr16_21)
              case hsr16_21 => exact S2i0 (by have hG := hH; replace hG := S2o0 hG; (try dsimp only at hG); have q0 := hG.1; have q1 := hG.2.1; have q2 := hG.2.2; exact ⟨keepSz hb q0, keepCg hb q1, keepR8 hb q2⟩)
              clear hK K hH
              have hH := hH2
              clear hH2
              try simp only [Act.put, List.getElem_toArray, List.getElem_cons_succ, List.getElem_cons_zero, List.setIfInBounds_toArray, List.set_cons_zero, List.set_cons_succ]
              refine U_take 21 29 0 0 0 (v := ?vr16_22) rfl (by kernel_rfl) (by kernel_rfl) hWr16 (by kernel_rfl) (by kernel_rfl) (by kernel_rfl) (by kernel_rfl) (by kernel_rfl) (by kernel_rfl) (fun _ _ _ _ h => h) (by kernel_rfl) ?hyr16_22 (by omega) hH ?_
              case hyr16_22 => (intro w' hSw; clear hSw; go_simp; try (with_reducible rfl))
              simp only [List.set_cons_zero, List.set_cons_succ]
              refine wpAnyU_done (by kernel_rfl) ?_ _ _
              refine NoPanic.normal ?_
              clear hWr16
              replace hH := S2o0 hH
              (try dsimp only at hH)
              have t0 := hH.1
              have t1 := hH.2.1
              have t2 := hH.2.2
              replace HSR := hid t0
              replace HCG := hid t1
              replace HR8 := hid t2
              clear t0 t1 t2
              try clear hH hb
              go_upto_if 267 with fail
              go_cut [29] from 178 to 290 (fun t wx_ => t = .int .i64 sl ∧ Sz wB g gc gq L8 C8 R wx_ ∧ Cg wx_ gx x ∧ R8 wx_ gr x.nx x.ny r.t1 r.t2 r.ease r.slip r.lift r.bound)
              case first =>
                by_cases hneg : ad < 0
                · have hs0 : sl = 0 := by rw [HSL.out]; omega
                  go_wp2_with fail
                  go_meet
                  exact ⟨by rw [hs0], HSR.out, HCG.out, HR8.out⟩
                · have hs0 : sl = ad := by rw [HSL.out]; omega
                  go_wp2_with fail
                  go_meet
                  exact ⟨by rw [hs0], HSR.out, HCG.out, HR8.out⟩
              case rest =>
                obtain ⟨rfl, hc1, hc2, hc3⟩ := hcut
                obtain ⟨wd, rfl⟩ : ∃ wd : World, wd = wc := ⟨_, rfl⟩
                replace HSR := hid hc1
                replace HCG := hid hc2
                replace HR8 := hid hc3
                clear hc1 hc2 hc3 HSL
                go_upto_region 40 with fail
                refine wp_region_noPanic ?_
                refine wp_region_U (S := (S2 (fun w' => Sz wB g gc gq L8 C8 R w' ∧ Cg w' gx x ∧ R8 w' gr x.nx x.ny r.t1 r.t2 r.ease r.slip r.lift r.bound))) (T := (fun j => [0, 0, 0, 0, 0, 0, 0, 0, 0, 0, 0, 0, 0, 0, 0, 0, 1].getD j 0)) (by kernel_rfl) (S2i0 ⟨HSR.out.drew, HCG.out.drew, HR8.out.drew⟩) (fun hH => ?_)
                have hWr17 : Weaker (S2 (fun w' => Sz wB g gc gq L8 C8 R w' ∧ Cg w' gx x ∧ R8 w' gr x.nx x.ny r.t1 r.t2 r.ease r.slip r.lift r.bound)) := weaker2 _
                refine U_take 0 268 16 0 0 (v := ?vr17_1) rfl (by kernel_rfl) (by kernel_rfl) hWr17 (by kernel_rfl) (by kernel_rfl) (by kernel_rfl) (by kernel_rfl) (by kernel_rfl) (by kernel_rfl) (fun _ _ _ _ h => h) (by kernel_rfl) ?hyr17_1 (by omega) hH ?_
                case hyr17_1 => (intro w' hSw; clear hSw; go_simp; try (with_reducible rfl))
                simp only [List.set_cons_zero, List.set_cons_succ]
                refine U_take 1 269 15 0 0 (v := ?vr17_2) rfl (by kernel_rfl) (by kernel_rfl) hWr17 (by kernel_rfl) (by kernel_rfl) (by kernel_rfl) (by kernel_rfl) (by kernel_rfl) (by kernel_rfl) (fun _ _ _ _ h => h) (by kernel_rfl) ?hyr17_2 (by omega) hH ?_
                case hyr17_2 => (intro w' hSw; clear hSw; go_simp; try (with_reducible rfl))
                simp only [List.set_cons_zero, List.set_cons_succ]
                refine U_take 2 270 14 0 0 (v := ?vr17_3) rfl (by kernel_rfl) (by kernel_rfl) hWr17 (by kernel_rfl) (by kernel_rfl) (by kernel_rfl) (by kernel_rfl) (by kernel_rfl) (by kernel_rfl) (fun _ _ _ _ h => h) (by kernel_rfl) ?hyr17_3 (by omega) hH ?_
                case hyr17_3 => (intro w' hSw; replace hSw := S2o0 hSw; (try dsimp only at hSw); have q0 := hSw.1; have q1 := hSw.2.1; have q2 := hSw.2.2; obtain ⟨qa1_0, qa1_1, qa1_2, qa1_3, qa1_4, qa1_5, qa1_6, qa1_7, qa1_8, qa1_9⟩ := id q1; obtain ⟨qa2_0, qa2_1, qa2_2, qa2_3, qa2_4, qa2_5, qa2_6, qa2_7, qa2_f⟩ := id q2; go_simp; try (with_reducible rfl))
                simp only [List.set_cons_zero, List.set_cons_succ]
                refine U_take 3 271 13 0 0 (v := ?vr17_4) rfl (by kernel_rfl) (by kernel_rfl) hWr17 (by kernel_rfl) (by kernel_rfl) (by kernel_rfl) (by kernel_rfl) (by kernel_rfl) (by kernel_rfl) (fun _ _ _ _ h => h) (by kernel_rfl) ?hyr17_4 (by omega) hH ?_
                case hyr17_4 => (intro w' hSw; clear hSw; go_simp; try (with_reducible rfl))
                simp only [List.set_cons_zero, List.set_cons_succ]
                refine U_take 4 272 12 0 0 (v := ?vr17_5) rfl (by kernel_rfl) (by kernel_rfl) hWr17 (by kernel_rfl) (by kernel_rfl) (by kernel_rfl) (by kernel_rfl) (by kernel_rfl) (by kernel_rfl) (fun _ _ _ _ h => h) (by kernel_rfl) ?hyr17_5 (by omega) hH ?_
                case hyr17_5 => (intro w' hSw; replace hSw := S2o0 hSw; (try dsimp only at hSw); have q0 := hSw.1; have q1 := hSw.2.1; have q2 := hSw.2.2; obtain ⟨qa1_0, qa1_1, qa1_2, qa1_3, qa1_4, qa1_5, qa1_6, qa1_7, qa1_8, qa1_9⟩ := id q1; obtain ⟨qa2_0, qa2_1, qa2_2, qa2_3, qa2_4, qa2_5, qa2_6, qa2_7, qa2_f⟩ := id q2; go_simp; try (with_reducible rfl))
                simp only [List.set_cons_zero, List.set_cons_succ]
                refine U_take 5 273 11 0 0 (v := ?vr17_6) rfl (by kernel_rfl) (by kernel_rfl) hWr17 (by kernel_rfl) (by kernel_rfl) (by kernel_rfl) (by kernel_rfl) (by kernel_rfl) (by kernel_rfl) (fun _ _ _ _ h => h) (by kernel_rfl) ?hyr17_6 (by omega) hH ?_
                case hyr17_6 => (intro w' hSw; clear hSw; go_simp; try (with_reducible rfl))
                simp only [List.set_cons_zero, List.set_cons_succ]
                refine U_take 6 274 10 0 0 (v := ?vr17_7) rfl (by kernel_rfl) (by kernel_rfl) hWr17 (by kernel_rfl) (by kernel_rfl) (by kernel_rfl) (by kernel_rfl) (by kernel_rfl) (by kernel_rfl) (fun _ _ _ _ h => h) (by kernel_rfl) ?hyr17_7 (by omega) hH ?_
                case hyr17_7 => (intro w' hSw; replace hSw := S2o0 hSw; (try dsimp only at hSw); have q0 := hSw.1; have q1 := hSw.2.1; have q2 := hSw.2.2; obtain ⟨qa1_0, qa1_1, qa1_2, qa1_3, qa1_4, qa1_5, qa1_6, qa1_7, qa1_8, qa1_9⟩ := id q1; obtain ⟨qa2_0, qa2_1, qa2_2, qa2_3, qa2_4, qa2_5, qa2_6, qa2_7, qa2_f⟩ := id q2; go_simp; try (with_reducible rfl))
                simp only [List.set_cons_zero, List.set_cons_succ]
                refine U_take 7 275 9 0 0 (v := ?vr17_8) rfl (by kernel_rfl) (by kernel_rfl) hWr17 (by kernel_rfl) (by kernel_rfl) (by kernel_rfl) (by kernel_rfl) (by kernel_rfl) (by kernel_rfl) (fun _ _ _ _ h => h) (by kernel_rfl) ?hyr17_8 (by omega) hH ?_
                case hyr17_8 => (intro w' hSw; clear hSw; go_simp; try (with_reducible rfl))
                simp only [List.set_cons_zero, List.set_cons_succ]
                refine U_take 8 276 8 0 0 (v := ?vr17_9) rfl (by kernel_rfl) (by kernel_rfl) hWr17 (by kernel_rfl) (by kernel_rfl) (by kernel_rfl) (by kernel_rfl) (by kernel_rfl) (by kernel_rfl) (fun _ _ _ _ h => h) (by kernel_rfl) ?hyr17_9 (by omega) hH ?_
                case hyr17_9 => (intro w' hSw; replace hSw := S2o0 hSw; (try dsimp only at hSw); have q0 := hSw.1; have q1 := hSw.2.1; have q2 := hSw.2.2; obtain ⟨qa1_0, qa1_1, qa1_2, qa1_3, qa1_4, qa1_5, qa1_6, qa1_7, qa1_8, qa1_9⟩ := id q1; obtain ⟨qa2_0, qa2_1, qa2_2, qa2_3, qa2_4, qa2_5, qa2_6, qa2_7, qa2_f⟩ := id q2; go_simp; try (with_reducible rfl))
                simp only [List.set_cons_zero, List.set_cons_succ]
                refine U_take 9 277 7 0 0 (v := ?vr17_10) rfl (by kernel_rfl) (by kernel_rfl) hWr17 (by kernel_rfl) (by kernel_rfl) (by kernel_rfl) (by kernel_rfl) (by kernel_rfl) (by kernel_rfl) (fun _ _ _ _ h => h) (by kernel_rfl) ?hyr17_10 (by omega) hH ?_
                case hyr17_10 => (intro w' hSw; clear hSw; go_simp; try (with_reducible rfl))
                simp only [List.set_cons_zero, List.set_cons_succ]
                refine U_take 10 278 6 0 0 (v := ?vr17_11) rfl (by kernel_rfl) (by kernel_rfl) hWr17 (by kernel_rfl) (by kernel_rfl) (by kernel_rfl) (by kernel_rfl) (by kernel_rfl) (by kernel_rfl) (fun _ _ _ _ h => h) (by kernel_rfl) ?hyr17_11 (by omega) hH ?_
                case hyr17_11 => (intro w' hSw; replace hSw := S2o0 hSw; (try dsimp only at hSw); have q0 := hSw.1; have q1 := hSw.2.1; have q2 := hSw.2.2; obtain ⟨qa1_0, qa1_1, qa1_2, qa1_3, qa1_4, qa1_5, qa1_6, qa1_7, qa1_8, qa1_9⟩ := id q1; obtain ⟨qa2_0, qa2_1, qa2_2, qa2_3, qa2_4, qa2_5, qa2_6, qa2_7, qa2_f⟩ := id q2; go_simp; try (with_reducible rfl))
                simp only [List.set_cons_zero, List.set_cons_succ]
                refine U_take 11 279 5 0 0 (v := ?vr17_12) rfl (by kernel_rfl) (by kernel_rfl) hWr17 (by kernel_rfl) (by kernel_rfl) (by kernel_rfl) (by kernel_rfl) (by kernel_rfl) (by kernel_rfl) (fun _ _ _ _ h => h) (by kernel_rfl) ?hyr17_12 (by omega) hH ?_
                case hyr17_12 => (intro w' hSw; clear hSw; go_simp; try (with_reducible rfl))
                simp only [List.set_cons_zero, List.set_cons_succ]
                refine U_take 12 280 4 0 0 (v := ?vr17_13) rfl (by kernel_rfl) (by kernel_rfl) hWr17 (by kernel_rfl) (by kernel_rfl) (by kernel_rfl) (by kernel_rfl) (by kernel_rfl) (by kernel_rfl) (fun _ _ _ _ h => h) (by kernel_rfl) ?hyr17_13 (by omega) hH ?_
                case hyr17_13 => (intro w' hSw; clear hSw; go_simp; try (with_reducible rfl))
                simp only [List.set_cons_zero, List.set_cons_succ]
                refine U_take 13 281 3 0 0 (v := ?vr17_14) rfl (by kernel_rfl) (by kernel_rfl) hWr17 (by kernel_rfl) (by kernel_rfl) (by kernel_rfl) (by kernel_rfl) (by kernel_rfl) (by kernel_rfl) (fun _ _ _ _ h => h) (by kernel_rfl) ?hyr17_14 (by omega) hH ?_
                case hyr17_14 => (intro w' hSw; replace hSw := S2o0 hSw; (try dsimp only at hSw); have q0 := hSw.1; have q1 := hSw.2.1; have q2 := hSw.2.2; obtain ⟨qa1_0, qa1_1, qa1_2, qa1_3, qa1_4, qa1_5, qa1_6, qa1_7, qa1_8, qa1_9⟩ := id q1; obtain ⟨qa2_0, qa2_1, qa2_2, qa2_3, qa2_4, qa2_5, qa2_6, qa2_7, qa2_f⟩ := id q2; go_simp; try (with_reducible rfl))
                simp only [List.set_cons_zero, List.set_cons_succ]
                refine wpAnyU_ready (rs := [14]) (by kernel_rfl) (by simp) ?_
                refine AllReadyU.cons 0 (by kernel_rfl) (o := _) rfl (fun K hK => ?_) AllReadyU.nil
                try clear hb
                refine step_callZ (HSD.out _) _ _ rfl rfl (by kernel_rfl) (by kernel_rfl) (fun wn hb => ?_)
                refine hK.out _ _ ?hsr17_15 (fun hH2 => ?hrr17_15)
                case hsr17_15 => exact S2i0 (by have hG := hH; replace hG := S2o0 hG; (try dsimp only at hG); have q0 := hG.1; have q1 := hG.2.1; have q2 := hG.2.2; exact ⟨keepSz hb q0, keepCg hb q1, keepR8 hb q2⟩)
                clear hK K hH
                have hH := hH2
                clear hH2
                try simp only [Act.put, List.getElem_toArray, List.getElem_cons_succ, List.getElem_cons_zero, List.setIfInBounds_toArray, List.set_cons_zero, List.set_cons_succ]
                refine wpAnyU_ready (rs := [15]) (by kernel_rfl) (by simp) ?_
                refine AllReadyU.cons 0 (by kernel_rfl) (o := _) rfl (fun K hK => ?_) AllReadyU.nil
                try clear hb
                refine step_callZ (HSC.out _) _ _ rfl rfl (by kernel_rfl) (by kernel_rfl) (fun wn hb => ?_)
                refine hK.out _ _ ?hsr17_16 (fun hH2 => ?hrr17_16)
                case hsr17_16 => exact S2i0 (by have hG := hH; replace hG := S2o0 hG; (try dsimp only at hG); have q0 := hG.1; have q1 := hG.2.1; have q2 := hG.2.2; exact ⟨keepSz hb q0, keepCg hb q1, keepR8 hb q2⟩)
                clear hK K hH
                have hH := hH2
                clear hH2
                try simp only [Act.put, List.getElem_toArray, List.getElem_cons_succ, List.getElem_cons_zero, List.setIfInBounds_toArray, List.set_cons_zero, List.set_cons_succ]
                refine wpAnyU_ready (rs := [16]) (by kernel_rfl) (by simp) ?_
                refine AllReadyU.cons 1 (by kernel_rfl) (o := _) rfl (fun K hK => ?_) AllReadyU.nil
                try clear hb
                have hG := hH
                replace hG := S2o0 hG; (try dsimp only at hG); have fq0 := hG.1; have fq1 := hG.2.1; have fq2 := hG.2.2
                have HRX := hid fq0
                replace HCG := hid fq1
                replace HR8 := hid fq2
                clear hG fq0 fq1 fq2
                go_simp
                (go_at_call 49; refine (HPSH.out _ HRX.out HJB.out.1 HJB.out.2).mono ?_; rintro e wp ⟨L9, rfl, hbl2, hm2, hg2, hn2⟩)
                refine hK.out _ _ ?hsr17_17 (fun hH2 => ?hrr17_17)
                case hsr17_17 => exact S2i1
                clear hK K hH
                have hH := hH2
                clear hH2
                try simp only [Act.put, List.setIfInBounds_toArray, List.set_cons_zero, List.set_cons_succ]
                have HM2 := hid hm2
                replace HSR := hid (HRX.out.push hbl2 hg2 hn2)
                replace HCG := hid (HCG.out.next hg2 (by have h9 := HSR.out.lt; have h8 := HGL.out; omega))
                replace HR8 := hid (HR8.out.next hg2 (by have h9 := HSR.out.lt; have h8 := HGL.out; omega))
                clear HRX hbl2 hm2 hg2 hn2
                refine wpAnyU_done (by kernel_rfl) ?_ _ _
                refine NoPanic.normal ?_
                go_upto_region 41 with fail
                have hcl9 := HSR.out.cl
                obtain ⟨a0, a1, a2, a3, a4, a5, a6, a7, a8, a9⟩ := cells_ct0 hcl9 HI8.out.1 HI8.out.2
                have af := HSR.out.cf
                have hclt := hcl9.lt
                clear hcl9
                obtain ⟨ws, hws⟩ : ∃ ws, ws = wp.setCell ⟨gc, i * 10 + 8, none⟩ (.int .i64 sl) := ⟨_, rfl⟩
                obtain ⟨C9, hC9⟩ : ∃ z : List Ct, z = C8.set i { x with sli := s8, push := sl } := ⟨_, rfl⟩
                have HSR2 : Hid (Sz wB g gc gq L9 C9 R ws) := by rw [hws, hC9]; exact HSR.out.setpush HI8.out.1 HI8.out.2 sl
                have HCG2 : Hid (Cg ws gx x) := by rw [hws]; exact HCG.out.off (by have h9 := HSR.out.lt; have h8 := HGL.out; omega)
                have HR82 : Hid (R8 ws gr x.nx x.ny r.t1 r.t2 r.ease r.slip r.lift r.bound) := by rw [hws]; exact HR8.out.off (by have h9 := HSR.out.lt; have h8 := HGL.out; omega)
                have HFIN := hid (HDONE.out L9 { x with sli := s8, push := sl } (by rw [HQ9.out, HM2.out]))
                have HC9 := hid hC9
                clear HSR HCG HR8 HQ9 HM2 HPSH HSD HSC HJB hC9 HCG2 HR82 HDONE
                go_wp2
                rw [← hws]
                go_roundw
                case rel => exact ⟨k + 1, L9, C9, by have := HKN.out; omega, by go_num, HSR2.out, by rw [← HFIN.out, HC9.out, HC8.out, List.set_set]⟩
                case measure => simp [intOf] <;> omega
        · have hkn : k = N := by omega
          subst hkn
          have HR : Hid (∃ A' n1' c1' L' B' m d C', (Ending.returned (.tuple #[.slice (some ⟨g, 0, none⟩) L.length cap, .slice (some ⟨gc, 0, none⟩) C.length cc])) = .returned (.tuple #[.slice A' n1' c1', .slice B' m d]) ∧ SlB wk A' n1' c1' L' ∧ SlE layC wk B' m d C' ∧ (L'.map valB, C') = solveQ (L.map valB) C st rn ∧ Below w.heap.size w wk) :=
            ⟨some ⟨g, 0, none⟩, L.length, cap, L4, some ⟨gc, 0, none⟩, C.length, cc, C4, rfl, ⟨⟨HLLL4.out.symm, HCAP.out.1, by have h9 := HCAP.out.2.1; unfold maxLen at h9; omega, fun _ => ⟨g, 0, rfl, HSR.out.bl.cl⟩⟩, HSR.out.bl.co⟩, ⟨HLC4.out.symm, HCAP.out.2.2.1, by have h9 := HCAP.out.2.2.2; unfold maxLen at h9; omega, fun _ => ⟨gc, 0, rfl, HSR.out.cl⟩⟩, by rw [HMP.out, HSOL.out], HBB.out _ HSR.out.gr⟩
          clear HSR HMP HLLL4 HLC4 HSOL hlt
          go_wp2
          exact bodyPost_ret (v := .tuple #[.slice (some ⟨g, 0, none⟩) L.length cap, .slice (some ⟨gc, 0, none⟩) C.length cc]) (by simp [results, Try.results11, go_sem]) rfl HR.out
end
end Go.Proofs.Ytilncglnojjlaaa
