/- Parts of a proof: contracts and laws. -/
import Derived.Test.YtilncglnojjlaaaGreatG13
import Derived.Test.YtilncglnojjlaaaGreatG16
import Derived.Test.YtilncglnojjlaaaGreatG04
namespace Go.Proofs.YtilncglnojjlaaaGreat
section
set_option linter.unusedVariables false
set_option linter.unusedSimpArgs false
open Go.RowKit
def lenQ (x y : Int) : Int := clampF (lenZ (clampF x) (clampF y))
theorem lenQ_bd (x y : Int) : 0 ≤ lenQ x y ∧ lenQ x y ≤ 1099511627776 := by
 obtain ⟨h0, -, -⟩ := len_bd (clampF_bd x) (clampF_bd y)
 refine ⟨?_, (clampF_bd _).2⟩
 show 0 ≤ clampF _
 generalize lenZ (clampF x) (clampF y) = z at *
 unfold clampF
 split
 ·omega
 ·split <;> omega
def reachT (l : List V) : Nat → Int
 | 0 => 0
 | k + 1 => max (reachT l k) (lenQ (px l k) (py l k) + 2)
theorem reachT_bd (l : List V) : ∀ k, 0 ≤ reachT l k ∧ reachT l k ≤ 1099511627778
 | 0 => by simp [reachT]
 | k + 1 => by
  have := reachT_bd l k
  have := lenQ_bd (px l k) (py l k)
  show 0 ≤ max _ _ ∧ max _ _ ≤ _
  omega
def farB (b : Bd) (l : List V) : Int := if b.mass = 0 ∨ b.asleep = true then 0 else reachT l l.length
def turnB (b : Bd) (l : List V) (s : Int) : Int := if b.mass = 0 ∨ b.asleep = true then 0 else mulF (mulF (mulF (max b.spin (-b.spin)) 411775) (farB b l)) s + 4
theorem farB_bd (b : Bd) (l : List V) : 0 ≤ farB b l ∧ farB b l ≤ 1099511627778 := by
 unfold farB
 split
 ·omega
 ·exact reachT_bd l _
theorem turnB_bd (b : Bd) (l : List V) (s : Int) : -1099511627776 ≤ turnB b l s ∧ turnB b l s ≤ 1099511627780 := by
 unfold turnB
 split
 ·omega
 ·have := mulF_bd (mulF (mulF (max b.spin (-b.spin)) 411775) (farB b l)) s
  omega

def rbdE (a : Bd) (l : List V) (b : Bd) (m : List V) (s : Int) : Int := if bodyE a l ≠ 0 then bodyE a l else if bodyE b m ≠ 0 then bodyE b m else if s < 0 ∨ 65536 < s then 1 else 0
def rbdZ (a : Bd) (l : List V) (b : Bd) (m : List V) (s : Int) : Int := mulF (lenQ a.vx a.vy + lenQ b.vx b.vy + 4) s + 8 + turnB a l s + turnB b m s
def rbdV (a : Bd) (l : List V) (b : Bd) (m : List V) (s : Int) : Value := if rbdE a l b m s ≠ 0 then .tuple #[.int .i64 0, .int .i64 (rbdE a l b m s)] else .tuple #[.int .i64 (rbdZ a l b m s), .int .i64 0]
set_option maxRecDepth 100000 in
set_option maxHeartbeats 4000000 in
theorem reachFar_calls (b : Bd) (A : Option Addr) (n c : Nat) (l : List V) (w : World) (hS : Sl w A n c l) : Calls Tryz.prog 17 #[bodyV b A n c] w (Ret (.int .i64 (farB b l)) w) := by
 have hn := hS.len
 have hcap := hS.cap
 have hbig := hS.big
 subst hn
 obtain ⟨W, hW⟩ : ∃ W, W = w.alloc (.cells #[.int .i64 b.px, .int .i64 b.py, .int .i64 b.vx, .int .i64 b.vy, .int .i64 b.ang, .int .i64 b.spin, .int .i64 b.mass, .int .i64 b.iner, .int .i64 b.bounce, .int .i64 b.rub, .slice A l.length c, .bool b.asleep, .int .i64 b.calm] 26) := ⟨_, rfl⟩
 have HK : Hid (BdAt W w.heap.size b A l.length c) := by show BdAt _ _ _ _ _ _; rw [hW]; exact BdAt.here w b A l.length c _
 have hB : Below w.heap.size w W := by rw [hW]; go_grown
 have HS := hid (hS.below hB)
 clear hS
 obtain ⟨k0, k1, k2, k3, k4, k5, k6, k7, k8, k9, k10, k11, k12, kf⟩ := HK.out
 go_enter Tryz.func17, Tryz.ntmps17
 by_cases hm : b.mass = 0
 ·have HR : Hid (farB b l = 0) := by show _ = _; unfold farB; rw [if_pos (.inl hm)]
  have hmb : (b.mass == 0) = true := by simp [hm]
  clear hm
  go_upto_region 1 with fail
  rw [← hW]
  clear hW
  go_wp2
  go_returns
  exact ret_int HR.out.symm hB
 cases ha : b.asleep with
 | true =>
  have HR : Hid (farB b l = 0) := by show _ = _; unfold farB; rw [if_pos (.inr ha)]
  have hmb : (b.mass == 0) = false := by simp [hm]
  rw [ha] at k11
  go_upto_region 1 with fail
  try rw [ha] at hW
  rw [← hW]
  clear hW hm
  go_wp2
  go_returns
  exact ret_int HR.out.symm hB
 | false =>
  have HR : Hid (farB b l = reachT l l.length) := by show _ = _; unfold farB; rw [if_neg (by simp [hm, ha])]
  have hmb : (b.mass == 0) = false := by simp [hm]
  rw [ha] at k11
  go_upto_region 1 with fail
  try rw [ha] at hW
  rw [← hW]
  clear hW hm HK
  go_wp2
  clear k0 k1 k2 k3 k4 k5 k6 k7 k8 k9 k10 k11 k12 kf
  go_loopw [3, 16] (fun o i wr => ∃ k : Nat, k ≤ l.length ∧ i = .int .i64 k ∧ o = .int .i64 (reachT l k) ∧ Below W.heap.size W wr) (fun _ i _ => l.length - (intOf i).toNat)
  case atStart => exact ⟨0, Nat.zero_le _, rfl, rfl, Below.refl _ _⟩
  case round =>
   obtain ⟨k, hk, rfl, rfl, hBk⟩ := hrel
   obtain ⟨wo, rfl⟩ : ∃ wo : World, wo = wr := ⟨_, rfl⟩
   by_cases hlt : k < l.length
   ·obtain ⟨ba, off, hA, hC⟩ := (HS.out.below hBk).at_ (by intro h; subst h; simp at hlt)
    subst hA
    have c0 := hC.x k hlt
    have c1 := hC.y k hlt
    have hbo := hC.lt
    have hlt' : (k : Int) < (l.length : Int) := by omega
    have hkw : IntKind.i64.wrap ((k : Int) + 1) = (k : Int) + 1 := IntWalk.i64_in _ (by omega)
    have hq := lenQ_bd (px l k) (py l k)
    have HST : Hid (reachT l (k + 1) = max (reachT l k) (lenQ (px l k) (py l k) + 2)) := rfl
    have HQ : Hid (clampF (lenZ (clampF (px l k)) (clampF (py l k))) = lenQ (px l k) (py l k)) := rfl
    generalize lenQ (px l k) (py l k) = q at *
    generalize reachT l k = f at *
    generalize px l k = x at *
    generalize py l k = y at *
    have hqw : IntKind.i64.wrap (q + 2) = q + 2 := IntWalk.i64_in _ (by omega)
    have hB1 := hBk.alloc hBk.size (.cells #[.int .i64 x, .int .i64 y] 23)
    clear hC
    go_wp2_with (go_at_call 15; refine (vlen_calls _ _ _).mono ?_; rw [HQ.out]; rintro e wn ⟨rfl, hb⟩; replace hB1 := keepBelow hb hB1)
    go_roundw
    case rel => exact ⟨k + 1, by omega, by go_num, by rw [HST.out], hB1⟩
    case measure => simp [intOf]; omega
   ·have hkn : k = l.length := by omega
    subst hkn
    have hB2 := keepBelow hBk hB
    clear HS
    go_wp2
    go_returns
    exact ret_int HR.out.symm hB2
set_option maxRecDepth 100000 in
set_option maxHeartbeats 4000000 in
theorem turning_calls (b : Bd) (A : Option Addr) (n c : Nat) (l : List V) (s : Int) (w : World) (hS : Sl w A n c l) (hsp : -1099511627776 ≤ b.spin ∧ b.spin ≤ 1099511627776) : Calls Tryz.prog 16 #[bodyV b A n c, .int .i64 s] w (Ret (.int .i64 (turnB b l s)) w) := by
 obtain ⟨W, hW⟩ : ∃ W, W = w.alloc (.cells #[.int .i64 b.px, .int .i64 b.py, .int .i64 b.vx, .int .i64 b.vy, .int .i64 b.ang, .int .i64 b.spin, .int .i64 b.mass, .int .i64 b.iner, .int .i64 b.bounce, .int .i64 b.rub, .slice A n c, .bool b.asleep, .int .i64 b.calm] 26) := ⟨_, rfl⟩
 have HK : Hid (BdAt W w.heap.size b A n c) := by show BdAt _ _ _ _ _ _; rw [hW]; exact BdAt.here w b A n c _
 have hB : Below w.heap.size w W := by rw [hW]; go_grown
 have HFA := hid (fun (w' : World) (hb : Below w.heap.size w w') => reachFar_calls b A n c l w' (hS.below hb))
 clear hS
 obtain ⟨k0, k1, k2, k3, k4, k5, k6, k7, k8, k9, k10, k11, k12, kf⟩ := HK.out
 go_enter Tryz.func16, Tryz.ntmps16
 by_cases hm : b.mass = 0
 ·have HR : Hid (turnB b l s = 0) := by show _ = _; unfold turnB; rw [if_pos (.inl hm)]
  have hmb : (b.mass == 0) = true := by simp [hm]
  clear hm
  go_upto_region 1 with fail
  rw [← hW]
  clear hW
  go_wp2
  go_returns
  exact ret_int HR.out.symm hB
 cases ha : b.asleep with
 | true =>
  have HR : Hid (turnB b l s = 0) := by show _ = _; unfold turnB; rw [if_pos (.inr ha)]
  have hmb : (b.mass == 0) = false := by simp [hm]
  rw [ha] at k11
  go_upto_region 1 with fail
  try rw [ha] at hW
  rw [← hW]
  clear hW hm
  go_wp2
  go_returns
  exact ret_int HR.out.symm hB
 | false =>
  have HR : Hid (turnB b l s = mulF (mulF (mulF (max b.spin (-b.spin)) 411775) (farB b l)) s + 4) := by show _ = _; unfold turnB; rw [if_neg (by simp [hm, ha])]
  have hmb : (b.mass == 0) = false := by simp [hm]
  have hmu := mulF_bd (mulF (mulF (max b.spin (-b.spin)) 411775) (farB b l)) s
  have hnw : IntKind.i64.wrap (-b.spin) = -b.spin := IntWalk.i64_in _ (by omega)
  have haw : IntKind.i64.wrap (mulF (mulF (mulF (max b.spin (-b.spin)) 411775) (farB b l)) s + 4) = mulF (mulF (mulF (max b.spin (-b.spin)) 411775) (farB b l)) s + 4 := IntWalk.i64_in _ (by omega)
  have HA := hid ha
  rw [ha] at k11
  go_upto_region 1 with fail
  try rw [ha] at hW
  rw [← hW]
  clear hW hm hmu
  go_upto_region 3 with fail
  clear k0 k1 k2 k3 k4 k5 k6 k7 k8 k9 k10 k11 k12 kf ha
  refine wp_region_noPanic ?_
  refine wp_region_U (S := (S2 (fun w' => BdAt w' w.heap.size b A n c ∧ Below w.heap.size w w'))) (T := (fun _ => 0)) (by kernel_rfl) (S2i0 ⟨HK.out.drew, hB.drew⟩) (fun hH => ?_)
  have hWr1 : Weaker (S2 (fun w' => BdAt w' w.heap.size b A n c ∧ Below w.heap.size w w')) := weaker2 _
  refine Ut 0 12 13 0 0 (v := ?vr1_1) rfl hWr1 hH ?hyr1_1 ?_
  case hyr1_1 => (intro w' hSw; clear hSw; go_simp; try (with_reducible rfl))
  simp only [sB, sC]
  refine Ut 1 13 12 0 0 (v := ?vr1_2) rfl hWr1 hH ?hyr1_2 ?_
  case hyr1_2 => (intro w' hSw; replace hSw := S2o0 hSw; (try dsimp only at hSw); have q0 := hSw.1; have q1 := hSw.2; obtain ⟨qa0_0, qa0_1, qa0_2, qa0_3, qa0_4, qa0_5, qa0_6, qa0_7, qa0_8, qa0_9, qa0_10, qa0_11, qa0_12, qa0_f⟩ := id q0; go_simp; try (with_reducible rfl))
  simp only [sB, sC]
  refine Ut 2 14 11 0 0 (v := ?vr1_3) rfl hWr1 hH ?hyr1_3 ?_
  case hyr1_3 => (intro w' hSw; clear hSw; go_simp; try (with_reducible rfl))
  simp only [sB, sC]
  refine Ut 3 15 10 0 0 (v := ?vr1_4) rfl hWr1 hH ?hyr1_4 ?_
  case hyr1_4 => (intro w' hSw; replace hSw := S2o0 hSw; (try dsimp only at hSw); have q0 := hSw.1; have q1 := hSw.2; obtain ⟨qa0_0, qa0_1, qa0_2, qa0_3, qa0_4, qa0_5, qa0_6, qa0_7, qa0_8, qa0_9, qa0_10, qa0_11, qa0_12, qa0_f⟩ := id q0; go_simp; try (with_reducible rfl))
  simp only [sB, sC]
  refine Ut 4 16 9 0 0 (v := ?vr1_5) rfl hWr1 hH ?hyr1_5 ?_
  case hyr1_5 => (intro w' hSw; clear hSw; go_simp; try (with_reducible rfl))
  simp only [sB, sC]
  refine Ut 5 17 8 0 0 (v := ?vr1_6) rfl hWr1 hH ?hyr1_6 ?_
  case hyr1_6 => (intro w' hSw; clear hSw; go_simp; try (with_reducible rfl))
  simp only [sB, sC]
  refine Ut 7 19 7 0 0 (v := ?vr1_7) rfl hWr1 hH ?hyr1_7 ?_
  case hyr1_7 => (intro w' hSw; replace hSw := S2o0 hSw; (try dsimp only at hSw); have q0 := hSw.1; have q1 := hSw.2; obtain ⟨qa0_0, qa0_1, qa0_2, qa0_3, qa0_4, qa0_5, qa0_6, qa0_7, qa0_8, qa0_9, qa0_10, qa0_11, qa0_12, qa0_f⟩ := id q0; go_simp; try (with_reducible rfl))
  simp only [sB, sC]
  refine Ut 10 22 6 0 0 (v := ?vr1_8) rfl hWr1 hH ?hyr1_8 ?_
  case hyr1_8 => (intro w' hSw; clear hSw; go_simp; try (with_reducible rfl))
  simp only [sB, sC]
  refine U1 6 0 rfl (fun K hK => ?_)
  try clear hb
  go_simp
  (go_at_call 14; refine (fmul_calls _ _ _).mono ?_; rintro e wn ⟨rfl, hb⟩)
  refine hK.out _ _ ?hsr1_9 (fun hH2 => ?hrr1_9)
  case hsr1_9 => exact S2i0 (by have hG := hH; replace hG := S2o0 hG; (try dsimp only at hG); have q0 := hG.1; have q1 := hG.2; exact ⟨keepBd hb q0, keepBelow hb q1⟩)
  clear hK K hH
  have hH := hH2
  clear hH2
  try simp only [Act.put, sA, sB, sC]
  refine U1 8 0 rfl (fun K hK => ?_)
  try clear hb
  have hG := hH
  replace hG := S2o0 hG; (try dsimp only at hG); have q0 := hG.1; have q1 := hG.2
  go_simp
  (go_at_call 17; refine (HFA.out _ q1).mono ?_; rintro e wn ⟨rfl, hb⟩)
  refine hK.out _ _ ?hsr1_10 (fun hH2 => ?hrr1_10)
  case hsr1_10 => exact S2i0 (by have hG := hH; replace hG := S2o0 hG; (try dsimp only at hG); have q0 := hG.1; have q1 := hG.2; exact ⟨keepBd hb q0, keepBelow hb q1⟩)
  clear hK K hH
  have hH := hH2
  clear hH2
  try simp only [Act.put, sA, sB, sC]
  refine U1 9 0 rfl (fun K hK => ?_)
  try clear hb
  go_simp
  (go_at_call 14; refine (fmul_calls _ _ _).mono ?_; rintro e wn ⟨rfl, hb⟩)
  refine hK.out _ _ ?hsr1_11 (fun hH2 => ?hrr1_11)
  case hsr1_11 => exact S2i0 (by have hG := hH; replace hG := S2o0 hG; (try dsimp only at hG); have q0 := hG.1; have q1 := hG.2; exact ⟨keepBd hb q0, keepBelow hb q1⟩)
  clear hK K hH
  have hH := hH2
  clear hH2
  try simp only [Act.put, sA, sB, sC]
  refine U1 11 0 rfl (fun K hK => ?_)
  try clear hb
  go_simp
  (go_at_call 14; refine (fmul_calls _ _ _).mono ?_; rintro e wn ⟨rfl, hb⟩)
  refine hK.out _ _ ?hsr1_12 (fun hH2 => ?hrr1_12)
  case hsr1_12 => exact S2i0 (by have hG := hH; replace hG := S2o0 hG; (try dsimp only at hG); have q0 := hG.1; have q1 := hG.2; exact ⟨keepBd hb q0, keepBelow hb q1⟩)
  clear hK K hH
  have hH := hH2
  clear hH2
  try simp only [Act.put, sA, sB, sC]
  refine Ut 12 24 1 0 0 (v := ?vr1_13) rfl hWr1 hH ?hyr1_13 ?_
  case hyr1_13 => (intro w' hSw; clear hSw; go_simp; try (with_reducible rfl))
  simp only [sB, sC]
  refine Ut 13 4 0 0 0 (v := ?vr1_14) rfl hWr1 hH ?hyr1_14 ?_
  case hyr1_14 => (intro w' hSw; clear hSw; go_simp; try (with_reducible rfl))
  simp only [sB, sC]
  refine wpAnyU_done (by kernel_rfl) ?_ _ _
  refine NoPanic.normal ?_
  clear hWr1
  replace hH := S2o0 hH
  (try dsimp only at hH)
  have t0 := hH.1
  have t1 := hH.2
  go_wp2
  go_returns
  exact ret_int HR.out.symm t1
theorem rbd_two (xa xb : BE) : bodiesTo [xa, xb] 2 = if bodyE xa.b xa.l ≠ 0 then bodyE xa.b xa.l else bodyE xb.b xb.l := by
 rw [bodiesTo_succ (by simp), bodiesTo_succ (by simp)]
 simp [bodiesTo]
theorem cells_bd_two {w : World} {g : Nat} {xa xb : BE} (h : ∀ i v, (encB xa)[i]? = some v → w.cell? ⟨g, i, none⟩ = some v) (h' : ∀ i v, (encB xb)[i]? = some v → w.cell? ⟨g, 13 + i, none⟩ = some v) (hg : g < w.heap.size) : CellsE layB w g 0 [xa, xb] := by
 refine ⟨hg, fun j hj i v hv => ?_⟩
 match j, hj, hv with
 | 0, _, hv => have := h i v hv; simpa using this
 | 1, _, hv => have := h' i v hv; show w.cell? ⟨g, 0 + 1 * 13 + i, none⟩ = some v; rw [show 0 + 1 * 13 + i = 13 + i by omega]; exact this
set_option maxRecDepth 100000 in
set_option maxHeartbeats 8000000 in
theorem bound_calls (a b : Bd) (A B : Option Addr) (n c m d : Nat) (l l2 : List V) (s : Int) (w : World) (hS : Sl w A n c l) (hM : Sl w B m d l2) : Calls Tryz.prog 5 #[bodyV a A n c, bodyV b B m d, .int .i64 s] w (Ret (rbdV a l b l2 s) w) := by
 obtain ⟨W, hW⟩ : ∃ W, W = (w.alloc (.cells #[.int .i64 a.px, .int .i64 a.py, .int .i64 a.vx, .int .i64 a.vy, .int .i64 a.ang, .int .i64 a.spin, .int .i64 a.mass, .int .i64 a.iner, .int .i64 a.bounce, .int .i64 a.rub, .slice A n c, .bool a.asleep, .int .i64 a.calm] 26)).alloc (.cells #[.int .i64 b.px, .int .i64 b.py, .int .i64 b.vx, .int .i64 b.vy, .int .i64 b.ang, .int .i64 b.spin, .int .i64 b.mass, .int .i64 b.iner, .int .i64 b.bounce, .int .i64 b.rub, .slice B m d, .bool b.asleep, .int .i64 b.calm] 26) := ⟨_, rfl⟩
 obtain ⟨w2, hw2⟩ : ∃ w2, w2 = W.alloc (.cells #[.int .i64 a.px, .int .i64 a.py, .int .i64 a.vx, .int .i64 a.vy, .int .i64 a.ang, .int .i64 a.spin, .int .i64 a.mass, .int .i64 a.iner, .int .i64 a.bounce, .int .i64 a.rub, .slice A n c, .bool a.asleep, .int .i64 a.calm, .int .i64 b.px, .int .i64 b.py, .int .i64 b.vx, .int .i64 b.vy, .int .i64 b.ang, .int .i64 b.spin, .int .i64 b.mass, .int .i64 b.iner, .int .i64 b.bounce, .int .i64 b.rub, .slice B m d, .bool b.asleep, .int .i64 b.calm] 26) := ⟨_, rfl⟩
 have HKA0 : Hid (BdAt W w.heap.size a A n c) := by show BdAt _ _ _ _ _ _; rw [hW]; exact (BdAt.here w a A n c _).alloc _
 have HKB0 : Hid (BdAt W (w.heap.size + 1) b B m d) := by show BdAt _ _ _ _ _ _; rw [hW]; have := BdAt.here (w.alloc (.cells #[.int .i64 a.px, .int .i64 a.py, .int .i64 a.vx, .int .i64 a.vy, .int .i64 a.ang, .int .i64 a.spin, .int .i64 a.mass, .int .i64 a.iner, .int .i64 a.bounce, .int .i64 a.rub, .slice A n c, .bool a.asleep, .int .i64 a.calm] 26)) b B m d 26; simpa using this
 have HKA : Hid (BdAt w2 w.heap.size a A n c) := by show BdAt _ _ _ _ _ _; rw [hw2]; exact HKA0.out.alloc _
 have HKB : Hid (BdAt w2 (w.heap.size + 1) b B m d) := by show BdAt _ _ _ _ _ _; rw [hw2]; exact HKB0.out.alloc _
 have hB0 : Below w.heap.size w W := by rw [hW]; go_grown
 have hB2 : Below w.heap.size w w2 := by rw [hw2]; exact hB0.alloc hB0.size _
 have hWs : W.heap.size = w.heap.size + 2 := by rw [hW]; simp
 have HSL : Hid (SlB w2 (some ⟨w.heap.size + 2, 0, none⟩) 2 2 [⟨a, A, n, c, l⟩, ⟨b, B, m, d, l2⟩]) := by
  refine ⟨⟨rfl, Nat.le_refl _, by omega, fun _ => ⟨w.heap.size + 2, 0, rfl, cells_bd_two (fun i v hv => ?_) (fun i v hv => ?_) (by rw [hw2]; simp [hWs])⟩⟩, fun x hx => ?_⟩
  ·have hv : (encB ⟨a, A, n, c, l⟩)[i]? = some v := hv
   unfold encB at hv
   rw [hw2, ← hWs]
   match i, hv with
   | 0, hv => have e : some _ = some v := hv; cases e; go_simp
   | 1, hv => have e : some _ = some v := hv; cases e; go_simp
   | 2, hv => have e : some _ = some v := hv; cases e; go_simp
   | 3, hv => have e : some _ = some v := hv; cases e; go_simp
   | 4, hv => have e : some _ = some v := hv; cases e; go_simp
   | 5, hv => have e : some _ = some v := hv; cases e; go_simp
   | 6, hv => have e : some _ = some v := hv; cases e; go_simp
   | 7, hv => have e : some _ = some v := hv; cases e; go_simp
   | 8, hv => have e : some _ = some v := hv; cases e; go_simp
   | 9, hv => have e : some _ = some v := hv; cases e; go_simp
   | 10, hv => have e : some _ = some v := hv; cases e; go_simp
   | 11, hv => have e : some _ = some v := hv; cases e; go_simp
   | 12, hv => have e : some _ = some v := hv; cases e; go_simp
   | i + 13, hv => simp at hv
  ·have hv : (encB ⟨b, B, m, d, l2⟩)[i]? = some v := hv
   unfold encB at hv
   rw [hw2, ← hWs]
   match i, hv with
   | 0, hv => have e : some _ = some v := hv; cases e; go_simp
   | 1, hv => have e : some _ = some v := hv; cases e; go_simp
   | 2, hv => have e : some _ = some v := hv; cases e; go_simp
   | 3, hv => have e : some _ = some v := hv; cases e; go_simp
   | 4, hv => have e : some _ = some v := hv; cases e; go_simp
   | 5, hv => have e : some _ = some v := hv; cases e; go_simp
   | 6, hv => have e : some _ = some v := hv; cases e; go_simp
   | 7, hv => have e : some _ = some v := hv; cases e; go_simp
   | 8, hv => have e : some _ = some v := hv; cases e; go_simp
   | 9, hv => have e : some _ = some v := hv; cases e; go_simp
   | 10, hv => have e : some _ = some v := hv; cases e; go_simp
   | 11, hv => have e : some _ = some v := hv; cases e; go_simp
   | 12, hv => have e : some _ = some v := hv; cases e; go_simp
   | i + 13, hv => simp at hv
  ·simp at hx
   rcases hx with rfl | rfl
   ·exact hS.below hB2
   ·exact hM.below hB2
 have HTA := hid (fun (w' : World) (hb : Below w.heap.size w w') (hsp : -1099511627776 ≤ a.spin ∧ a.spin ≤ 1099511627776) => turning_calls a A n c l s w' (hS.below hb) hsp)
 have HTB := hid (fun (w' : World) (hb : Below w.heap.size w w') (hsp : -1099511627776 ≤ b.spin ∧ b.spin ≤ 1099511627776) => turning_calls b B m d l2 s w' (hM.below hb) hsp)
 have HTW := hid (rbd_two ⟨a, A, n, c, l⟩ ⟨b, B, m, d, l2⟩)
 clear hS hM HKA0 HKB0
 obtain ⟨k0, k1, k2, k3, k4, k5, k6, k7, k8, k9, k10, k11, k12, -⟩ := HKA.out
 obtain ⟨m0, m1, m2, m3, m4, m5, m6, m7, m8, m9, m10, m11, m12, -⟩ := HKB.out
 generalize hL : ([⟨a, A, n, c, l⟩, ⟨b, B, m, d, l2⟩] : List BE) = L at *
 have hLl : L.length = 2 := by rw [← hL]; rfl
 have HLL := hid hL
 clear hL
 go_enter Tryz.func5, Tryz.ntmps5
 go_upto_region 2 with fail
 rw [← hW, ← hw2]
 clear hW hw2 hB0 hWs k0 k1 k2 k3 k4 k5 k6 k7 k8 k9 k10 k11 k12 m0 m1 m2 m3 m4 m5 m6 m7 m8 m9 m10 m11 m12
 have HRE : Hid (∀ e, e ≠ 0 → bodiesTo L 2 = e → rbdV a l b l2 s = .tuple #[.int .i64 0, .int .i64 e]) := fun e he h => by
  rw [HTW.out] at h
  have e2 : rbdE a l b l2 s = e := by
   unfold rbdE
   by_cases h0 : bodyE a l = 0
   ·rw [if_neg (by simp [h0])]
    rw [if_neg (by simp [h0])] at h
    rw [if_pos (by rw [h]; exact he)]
    exact h
   ·rw [if_pos h0] at h ⊢
    exact h
  unfold rbdV
  rw [e2, if_pos he]
 have HRZ : Hid (bodiesTo L 2 = 0 → bodyE a l = 0 ∧ bodyE b l2 = 0) := fun h => by
  rw [HTW.out] at h
  by_cases h0 : bodyE a l = 0
  ·rw [if_neg (by simp [h0])] at h; exact ⟨h0, h⟩
  ·rw [if_pos h0] at h; exact absurd h h0
 clear HTW HLL
 go_loopw [15] (fun i wr => ∃ k : Nat, k ≤ 2 ∧ i = .int .i64 k ∧ bodiesTo L k = 0 ∧ Below w2.heap.size w2 wr) (fun i _ => 2 - (intOf i).toNat)
 case atStart => exact ⟨0, Nat.zero_le _, rfl, rfl, Below.refl _ _⟩
 case round =>
  obtain ⟨k, hk, rfl, hz, hB8⟩ := hrel
  obtain ⟨wo, rfl⟩ : ∃ wo : World, wo = wr := ⟨_, rfl⟩
  by_cases hlt : k < 2
  ·have hltL : k < L.length := by omega
   have HSw := hid (HSL.out.below hB8)
   obtain ⟨ba, off, hA, hC⟩ := HSw.out.sl.at_ (by intro h; rw [h] at hLl; simp at hLl)
   obtain ⟨rfl, rfl⟩ : ba = w.heap.size + 2 ∧ off = 0 := by cases hA; exact ⟨rfl, rfl⟩
   clear hA
   obtain ⟨x, hx⟩ : ∃ x, x = L[k] := ⟨_, rfl⟩
   have HX := hid (show Sl wo x.A x.n x.c x.l from HSw.out.co x (by rw [hx]; exact List.getElem_mem hltL))
   have HZ : Hid (bodiesTo L (k + 1) = bodyE x.b x.l) := by show _ = _; rw [bodiesTo_succ hltL, if_neg (by simp [hz]), hx]
   have HST : Hid (bodiesTo L (k + 1) ≠ 0 → bodiesTo L 2 = bodiesTo L (k + 1)) := fun h => bodiesTo_stop L (m := 2) (by omega) hlt h
   obtain ⟨d0, d1, d2, d3, d4, d5, d6, d7, d8, d9, d10, d11, d12⟩ := cells_bd hC hltL hx
   rw [Nat.zero_add] at d0 d1 d2 d3 d4 d5 d6 d7 d8 d9 d10 d11 d12
   have hbo := hC.lt
   have hlt' : (k : Int) < 2 := by omega
   have hkw : IntKind.i64.wrap ((k : Int) + 1) = (k : Int) + 1 := IntWalk.i64_in _ (by omega)
   clear hC hx hz HSw
   go_wp2_with fail
   have HX2 := hid (HX.out.alloc (.cells #[.int .i64 x.b.px, .int .i64 x.b.py, .int .i64 x.b.vx, .int .i64 x.b.vy, .int .i64 x.b.ang, .int .i64 x.b.spin, .int .i64 x.b.mass, .int .i64 x.b.iner, .int .i64 x.b.bounce, .int .i64 x.b.rub, .slice x.A x.n x.c, .bool x.b.asleep, .int .i64 x.b.calm] 26))
   refine (bcheck_calls x.b x.A x.n x.c x.l _ HX2.out).mono ?_
   rintro e w3 ⟨rfl, hb1⟩
   have hB1 : Below w2.heap.size w2 w3 := keepBelow hb1 (hB8.alloc hB8.size _)
   clear hb1 HX HX2 hB8 d0 d1 d2 d3 d4 d5 d6 d7 d8 d9 d10 d11 d12 hbo
   by_cases hE : bodyE x.b x.l = 0
   ·rw [hE]
    go_wp2
    go_roundw
    case rel => exact ⟨k + 1, by omega, by go_num, by rw [HZ.out, hE], hB1⟩
    case measure => simp [intOf]; omega
   ·have hne : (bodyE x.b x.l != 0) = true := by simp [hE]
    have HR := hid (HRE.out (bodyE x.b x.l) hE (by rw [HST.out (by rw [HZ.out]; exact hE), HZ.out]))
    have hBf := keepBelow hB1 hB2
    clear HZ HST HRE HRZ
    generalize bodyE x.b x.l = z at *
    go_wp2
    refine bodyPost_ret (v := .tuple #[.int .i64 0, .int .i64 z]) (by simp [results, Tryz.results5, go_sem]) rfl ⟨by rw [HR.out], hBf⟩
  ·have hk2 : k = 2 := by omega
   subst hk2
   obtain ⟨hea, heb⟩ := HRZ.out hz
   have hBf := keepBelow hB8 hB2
   have HE : Hid (rbdE a l b l2 s = if s < 0 ∨ 65536 < s then 1 else 0) := by show _ = _; unfold rbdE; rw [if_neg (by simp [hea]), if_neg (by simp [heb])]
   have sa := (numE_zero (bodyE_zero hea).2).2.2.1
   have sb := (numE_zero (bodyE_zero heb).2).2.2.1
   have HTA2 := hid (fun (w' : World) (hb : Below w.heap.size w w') => HTA.out w' hb (by omega))
   have HTB2 := hid (fun (w' : World) (hb : Below w.heap.size w w') => HTB.out w' hb (by omega))
   clear HRE HRZ hz hea heb sa sb HTA HTB HSL
   by_cases hs0 : s < 0
   ·have HR : Hid (rbdV a l b l2 s = .tuple #[.int .i64 0, .int .i64 1]) := by
     have e1 : rbdE a l b l2 s = 1 := by rw [HE.out, if_pos (.inl hs0)]
     show _ = _
     unfold rbdV
     rw [e1]
     rfl
    clear HE
    go_wp2
    refine bodyPost_ret (v := .tuple #[.int .i64 0, .int .i64 1]) (by simp [results, Tryz.results5, go_sem]) rfl ⟨by rw [HR.out], hBf⟩
   by_cases hs1 : 65536 < s
   ·have HR : Hid (rbdV a l b l2 s = .tuple #[.int .i64 0, .int .i64 1]) := by
     have e1 : rbdE a l b l2 s = 1 := by rw [HE.out, if_pos (.inr hs1)]
     show _ = _
     unfold rbdV
     rw [e1]
     rfl
    clear HE
    go_wp2
    refine bodyPost_ret (v := .tuple #[.int .i64 0, .int .i64 1]) (by simp [results, Tryz.results5, go_sem]) rfl ⟨by rw [HR.out], hBf⟩
   have HR : Hid (rbdV a l b l2 s = .tuple #[.int .i64 (rbdZ a l b l2 s), .int .i64 0]) := by
    have e1 : rbdE a l b l2 s = 0 := by rw [HE.out, if_neg (by omega)]
    show _ = _
    unfold rbdV
    rw [e1]
    rfl
   have HRQ : Hid (rbdZ a l b l2 s = mulF (lenQ a.vx a.vy + lenQ b.vx b.vy + 4) s + 8 + turnB a l s + turnB b l2 s) := rfl
   have ta := turnB_bd a l s
   have tb := turnB_bd b l2 s
   have qa := lenQ_bd a.vx a.vy
   have qb := lenQ_bd b.vx b.vy
   have HVA : Hid (clampF (lenZ (clampF a.vx) (clampF a.vy)) = lenQ a.vx a.vy) := rfl
   have HVB : Hid (clampF (lenZ (clampF b.vx) (clampF b.vy)) = lenQ b.vx b.vy) := rfl
   have qm := mulF_bd (lenQ a.vx a.vy + lenQ b.vx b.vy + 4) s
   generalize turnB a l s = tta at *
   generalize turnB b l2 s = ttb at *
   generalize lenQ a.vx a.vy = va at *
   generalize lenQ b.vx b.vy = vb at *
   obtain ⟨mv, hmv⟩ : ∃ mv, mv = mulF (va + vb + 4) s := ⟨_, rfl⟩
   have HMV : Hid (mulF (va + vb + 4) s = mv) := hmv.symm
   rw [← hmv] at HRQ qm
   clear hmv HE
   generalize rbdZ a l b l2 s = z at *
   have g1 : IntKind.i64.wrap (va + vb) = va + vb := IntWalk.i64_in _ (by omega)
   have g2 : IntKind.i64.wrap (va + vb + 4) = va + vb + 4 := IntWalk.i64_in _ (by omega)
   have g3 : IntKind.i64.wrap (mv + 8) = mv + 8 := IntWalk.i64_in _ (by omega)
   have g4 : IntKind.i64.wrap (mv + 8 + tta) = mv + 8 + tta := IntWalk.i64_in _ (by omega)
   have g5 : IntKind.i64.wrap (mv + 8 + tta + ttb) = mv + 8 + tta + ttb := IntWalk.i64_in _ (by omega)
   go_upto_region 10 with fail
   clear ta tb qa qb qm
   refine wp_region_noPanic ?_
   refine wp_region_U (S := (S2 (fun w' => BdAt w' w.heap.size a A n c ∧ BdAt w' (w.heap.size + 1) b B m d ∧ Below w.heap.size w w'))) (T := (fun _ => 0)) (by kernel_rfl) (S2i0 ⟨(keepBd hB8 HKA.out).drew, (keepBd hB8 HKB.out).drew, (keepBelow hB8 hB2).drew⟩) (fun hH => ?_)
   have hWr2 : Weaker (S2 (fun w' => BdAt w' w.heap.size a A n c ∧ BdAt w' (w.heap.size + 1) b B m d ∧ Below w.heap.size w w')) := weaker2 _
   refine Ut 0 31 20 0 0 (v := ?vr2_1) rfl hWr2 hH ?hyr2_1 ?_
   case hyr2_1 => (intro w' hSw; clear hSw; go_simp; try (with_reducible rfl))
   simp only [sB, sC]
   refine Ut 1 32 19 0 0 (v := ?vr2_2) rfl hWr2 hH ?hyr2_2 ?_
   case hyr2_2 => (intro w' hSw; replace hSw := S2o0 hSw; (try dsimp only at hSw); have q0 := hSw.1; have q1 := hSw.2.1; have q2 := hSw.2.2; obtain ⟨qa0_0, qa0_1, qa0_2, qa0_3, qa0_4, qa0_5, qa0_6, qa0_7, qa0_8, qa0_9, qa0_10, qa0_11, qa0_12, qa0_f⟩ := id q0; obtain ⟨qa1_0, qa1_1, qa1_2, qa1_3, qa1_4, qa1_5, qa1_6, qa1_7, qa1_8, qa1_9, qa1_10, qa1_11, qa1_12, qa1_f⟩ := id q1; go_simp; try (with_reducible rfl))
   simp only [sB, sC]
   refine Ut 3 34 18 0 0 (v := ?vr2_3) rfl hWr2 hH ?hyr2_3 ?_
   case hyr2_3 => (intro w' hSw; clear hSw; go_simp; try (with_reducible rfl))
   simp only [sB, sC]
   refine Ut 4 35 17 0 0 (v := ?vr2_4) rfl hWr2 hH ?hyr2_4 ?_
   case hyr2_4 => (intro w' hSw; replace hSw := S2o0 hSw; (try dsimp only at hSw); have q0 := hSw.1; have q1 := hSw.2.1; have q2 := hSw.2.2; obtain ⟨qa0_0, qa0_1, qa0_2, qa0_3, qa0_4, qa0_5, qa0_6, qa0_7, qa0_8, qa0_9, qa0_10, qa0_11, qa0_12, qa0_f⟩ := id q0; obtain ⟨qa1_0, qa1_1, qa1_2, qa1_3, qa1_4, qa1_5, qa1_6, qa1_7, qa1_8, qa1_9, qa1_10, qa1_11, qa1_12, qa1_f⟩ := id q1; go_simp; try (with_reducible rfl))
   simp only [sB, sC]
   refine Ut 8 39 16 0 0 (v := ?vr2_5) rfl hWr2 hH ?hyr2_5 ?_
   case hyr2_5 => (intro w' hSw; clear hSw; go_simp; try (with_reducible rfl))
   simp only [sB, sC]
   refine Ut 11 42 15 0 0 (v := ?vr2_6) rfl hWr2 hH ?hyr2_6 ?_
   case hyr2_6 => (intro w' hSw; replace hSw := S2o0 hSw; (try dsimp only at hSw); have q0 := hSw.1; have q1 := hSw.2.1; have q2 := hSw.2.2; obtain ⟨qa0_0, qa0_1, qa0_2, qa0_3, qa0_4, qa0_5, qa0_6, qa0_7, qa0_8, qa0_9, qa0_10, qa0_11, qa0_12, qa0_f⟩ := id q0; obtain ⟨qa1_0, qa1_1, qa1_2, qa1_3, qa1_4, qa1_5, qa1_6, qa1_7, qa1_8, qa1_9, qa1_10, qa1_11, qa1_12, qa1_f⟩ := id q1; go_simp; try (with_reducible rfl))
   simp only [sB, sC]
   refine Ut 12 43 14 0 0 (v := ?vr2_7) rfl hWr2 hH ?hyr2_7 ?_
   case hyr2_7 => (intro w' hSw; clear hSw; go_simp; try (with_reducible rfl))
   simp only [sB, sC]
   refine Ut 15 46 13 0 0 (v := ?vr2_8) rfl hWr2 hH ?hyr2_8 ?_
   case hyr2_8 => (intro w' hSw; replace hSw := S2o0 hSw; (try dsimp only at hSw); have q0 := hSw.1; have q1 := hSw.2.1; have q2 := hSw.2.2; obtain ⟨qa0_0, qa0_1, qa0_2, qa0_3, qa0_4, qa0_5, qa0_6, qa0_7, qa0_8, qa0_9, qa0_10, qa0_11, qa0_12, qa0_f⟩ := id q0; obtain ⟨qa1_0, qa1_1, qa1_2, qa1_3, qa1_4, qa1_5, qa1_6, qa1_7, qa1_8, qa1_9, qa1_10, qa1_11, qa1_12, qa1_f⟩ := id q1; go_simp; try (with_reducible rfl))
   simp only [sB, sC]
   refine Ut 16 47 12 0 0 (v := ?vr2_9) rfl hWr2 hH ?hyr2_9 ?_
   case hyr2_9 => (intro w' hSw; clear hSw; go_simp; try (with_reducible rfl))
   simp only [sB, sC]
   refine U1 2 0 rfl (fun K hK => ?_)
   try clear hb
   go_simp
   (go_at_call 15; refine (vlen_calls _ _ _).mono ?_; rintro e wn ⟨rfl, hb⟩)
   refine hK.out _ _ ?hsr2_10 (fun hH2 => ?hrr2_10)
   case hsr2_10 => exact S2i0 (by have hG := hH; replace hG := S2o0 hG; (try dsimp only at hG); have q0 := hG.1; have q1 := hG.2.1; have q2 := hG.2.2; exact ⟨keepBd hb q0, keepBd hb q1, keepBelow hb q2⟩)
   clear hK K hH
   have hH := hH2
   clear hH2
   try simp only [Act.put, sA, sB, sC]
   rw [show clampF (lenZ (clampF a.vx) (clampF a.vy)) = va from HVA.out]
   refine U1 5 0 rfl (fun K hK => ?_)
   try clear hb
   go_simp
   (go_at_call 15; refine (vlen_calls _ _ _).mono ?_; rintro e wn ⟨rfl, hb⟩)
   refine hK.out _ _ ?hsr2_11 (fun hH2 => ?hrr2_11)
   case hsr2_11 => exact S2i0 (by have hG := hH; replace hG := S2o0 hG; (try dsimp only at hG); have q0 := hG.1; have q1 := hG.2.1; have q2 := hG.2.2; exact ⟨keepBd hb q0, keepBd hb q1, keepBelow hb q2⟩)
   clear hK K hH
   have hH := hH2
   clear hH2
   try simp only [Act.put, sA, sB, sC]
   rw [show clampF (lenZ (clampF b.vx) (clampF b.vy)) = vb from HVB.out]
   refine Ut 6 37 9 0 0 (v := ?vr2_12) rfl hWr2 hH ?hyr2_12 ?_
   case hyr2_12 => (intro w' hSw; clear hSw; go_simp; try (with_reducible rfl))
   simp only [sB, sC]
   refine Ut 7 38 8 0 0 (v := ?vr2_13) rfl hWr2 hH ?hyr2_13 ?_
   case hyr2_13 => (intro w' hSw; clear hSw; go_simp; try (with_reducible rfl))
   simp only [sB, sC]
   refine U1 9 0 rfl (fun K hK => ?_)
   try clear hb
   go_simp
   (go_at_call 14; refine (fmul_calls _ _ _).mono ?_; rintro e wn ⟨rfl, hb⟩)
   refine hK.out _ _ ?hsr2_14 (fun hH2 => ?hrr2_14)
   case hsr2_14 => exact S2i0 (by have hG := hH; replace hG := S2o0 hG; (try dsimp only at hG); have q0 := hG.1; have q1 := hG.2.1; have q2 := hG.2.2; exact ⟨keepBd hb q0, keepBd hb q1, keepBelow hb q2⟩)
   clear hK K hH
   have hH := hH2
   clear hH2
   try simp only [Act.put, sA, sB, sC]
   rw [show mulF (va + vb + 4) s = mv from HMV.out]
   refine Ut 10 41 6 0 0 (v := ?vr2_15) rfl hWr2 hH ?hyr2_15 ?_
   case hyr2_15 => (intro w' hSw; clear hSw; go_simp; try (with_reducible rfl))
   simp only [sB, sC]
   refine U1 13 0 rfl (fun K hK => ?_)
   try clear hb
   have hG := hH
   replace hG := S2o0 hG; (try dsimp only at hG); have q0 := hG.1; have q1 := hG.2.1; have q2 := hG.2.2
   go_simp
   (go_at_call 16; refine (HTA2.out _ q2).mono ?_; rintro e wn ⟨rfl, hb⟩)
   refine hK.out _ _ ?hsr2_16 (fun hH2 => ?hrr2_16)
   case hsr2_16 => exact S2i0 (by have hG := hH; replace hG := S2o0 hG; (try dsimp only at hG); have q0 := hG.1; have q1 := hG.2.1; have q2 := hG.2.2; exact ⟨keepBd hb q0, keepBd hb q1, keepBelow hb q2⟩)
   clear hK K hH
   have hH := hH2
   clear hH2
   try simp only [Act.put, sA, sB, sC]
   refine Ut 14 45 4 0 0 (v := ?vr2_17) rfl hWr2 hH ?hyr2_17 ?_
   case hyr2_17 => (intro w' hSw; clear hSw; go_simp; try (with_reducible rfl))
   simp only [sB, sC]
   refine U1 17 0 rfl (fun K hK => ?_)
   try clear hb
   have hG := hH
   replace hG := S2o0 hG; (try dsimp only at hG); have q0 := hG.1; have q1 := hG.2.1; have q2 := hG.2.2
   go_simp
   (go_at_call 16; refine (HTB2.out _ q2).mono ?_; rintro e wn ⟨rfl, hb⟩)
   refine hK.out _ _ ?hsr2_18 (fun hH2 => ?hrr2_18)
   case hsr2_18 => exact S2i0 (by have hG := hH; replace hG := S2o0 hG; (try dsimp only at hG); have q0 := hG.1; have q1 := hG.2.1; have q2 := hG.2.2; exact ⟨keepBd hb q0, keepBd hb q1, keepBelow hb q2⟩)
   clear hK K hH
   have hH := hH2
   clear hH2
   try simp only [Act.put, sA, sB, sC]
   refine Ut 18 49 2 0 0 (v := ?vr2_19) rfl hWr2 hH ?hyr2_19 ?_
   case hyr2_19 => (intro w' hSw; clear hSw; go_simp; try (with_reducible rfl))
   simp only [sB, sC]
   refine Ut 19 6 1 0 0 (v := ?vr2_20) rfl hWr2 hH ?hyr2_20 ?_
   case hyr2_20 => (intro w' hSw; clear hSw; go_simp; try (with_reducible rfl))
   simp only [sB, sC]
   refine Ut 20 7 0 0 0 (v := ?vr2_21) rfl hWr2 hH ?hyr2_21 ?_
   case hyr2_21 => (intro w' hSw; clear hSw; go_simp; try (with_reducible rfl))
   simp only [sB, sC]
   refine wpAnyU_done (by kernel_rfl) ?_ _ _
   refine NoPanic.normal ?_
   clear hWr2
   replace hH := S2o0 hH
   (try dsimp only at hH)
   have t0 := hH.1
   have t1 := hH.2.1
   have t2 := hH.2.2
   go_wp2
   refine bodyPost_ret (v := .tuple #[.int .i64 z, .int .i64 0]) (by simp [results, Tryz.results5, go_sem, HRQ.out]) rfl ⟨by rw [HR.out], t2⟩
end
end Go.Proofs.YtilncglnojjlaaaGreat
