/- Parts of a proof: contracts and laws. -/
import Derived.Test.YtiaoandbdgdecaaGreatPM43
import Derived.Test.YtiaoandbdgdecaaGreatPM47
import Derived.Test.YtiaoandbdgdecaaGreatPM05
namespace Go.Proofs.YtiaoandbdgdecaaGreat
section
set_option linter.unusedVariables false
set_option linter.unusedSimpArgs false
open Go.RowKit
theorem cells2_ct {w : World} {g off : Nat} {x y : Ct} (h : CellsE layC w g off [x, y]) : w.cell? ⟨g, off, none⟩ = some (.int .i64 x.a) ∧ w.cell? ⟨g, off + 1, none⟩ = some (.int .i64 x.b) ∧ w.cell? ⟨g, off + 2, none⟩ = some (.int .i64 x.id) ∧ w.cell? ⟨g, off + 3, none⟩ = some (.int .i64 x.px) ∧ w.cell? ⟨g, off + 4, none⟩ = some (.int .i64 x.py) ∧ w.cell? ⟨g, off + 5, none⟩ = some (.int .i64 x.nx) ∧ w.cell? ⟨g, off + 6, none⟩ = some (.int .i64 x.ny) ∧ w.cell? ⟨g, off + 7, none⟩ = some (.int .i64 x.dep) ∧ w.cell? ⟨g, off + 8, none⟩ = some (.int .i64 x.push) ∧ w.cell? ⟨g, off + 9, none⟩ = some (.int .i64 x.sli) ∧ w.cell? ⟨g, off + 10, none⟩ = some (.int .i64 y.a) ∧ w.cell? ⟨g, off + 11, none⟩ = some (.int .i64 y.b) ∧ w.cell? ⟨g, off + 12, none⟩ = some (.int .i64 y.id) ∧ w.cell? ⟨g, off + 13, none⟩ = some (.int .i64 y.px) ∧ w.cell? ⟨g, off + 14, none⟩ = some (.int .i64 y.py) ∧ w.cell? ⟨g, off + 15, none⟩ = some (.int .i64 y.nx) ∧ w.cell? ⟨g, off + 16, none⟩ = some (.int .i64 y.ny) ∧ w.cell? ⟨g, off + 17, none⟩ = some (.int .i64 y.dep) ∧ w.cell? ⟨g, off + 18, none⟩ = some (.int .i64 y.push) ∧ w.cell? ⟨g, off + 19, none⟩ = some (.int .i64 y.sli) := by
 obtain ⟨a0, a1, a2, a3, a4, a5, a6, a7, a8, a9⟩ := cells_ct h (show 0 < [x, y].length by simp) (show x = [x, y][0] from rfl)
 obtain ⟨b0, b1, b2, b3, b4, b5, b6, b7, b8, b9⟩ := cells_ct h (show 1 < [x, y].length by simp) (show y = [x, y][1] from rfl)
 simp only [Nat.zero_mul, Nat.one_mul, Nat.add_zero, Nat.add_assoc, Nat.reduceAdd] at *
 exact ⟨a0, a1, a2, a3, a4, a5, a6, a7, a8, a9, b0, b1, b2, b3, b4, b5, b6, b7, b8, b9⟩
set_option maxRecDepth 100000 in
set_option maxHeartbeats 4000000 in
theorem indexP_calls (A : Option Addr) (n c : Nat) (l : List (Nat × Nat)) (x1 x2 : Int) (hm : ∃ p ∈ l, x1 = (p.1 : Nat) ∧ x2 = (p.2 : Nat)) (w : World) (hS : SlE layPair w A n c l) :
  Calls Tryz.prog 40 #[.slice A n c, .agg #[.int .i64 x1, .int .i64 x2]] w fun e w' => (∃ k : Nat, k < l.length ∧ e = .returned (.int .i64 k)) ∧ Below w.heap.size w w' := by
 have hn := hS.len
 subst hn
 have hbig := Nat.le_trans hS.cap hS.big
 obtain ⟨gp, hgp⟩ : ∃ g, g = w.heap.size := ⟨_, rfl⟩
 obtain ⟨W, hW⟩ : ∃ W, W = w.alloc (.cells #[.int .i64 x1, .int .i64 x2] 44) := ⟨_, rfl⟩
 have hBW : Below w.heap.size w W := by rw [hW]; go_grown
 have HS := hid (hS.below hBW)
 have p0 : W.cell? ⟨gp, 0, none⟩ = some (.int .i64 x1) := by rw [hW, hgp]; go_simp
 have p1 : W.cell? ⟨gp, 1, none⟩ = some (.int .i64 x2) := by rw [hW, hgp]; go_simp
 have HP := hid (And.intro p0 p1)
 have HM := hid hm
 have HWB := hid hBW
 clear hS hm p0 p1
 go_enter Tryz.func40, Tryz.ntmps40
 go_wp2
 rw [← hW, ← hgp]
 clear hW hgp
 go_loopw [8] (fun j wr => ∃ k : Nat, k ≤ l.length ∧ j = .int .i64 k ∧ (∀ i (hi : i < l.length), i < k → ¬ (x1 = (l[i].1 : Nat) ∧ x2 = (l[i].2 : Nat))) ∧ Below W.heap.size W wr) (fun j _ => l.length - (intOf j).toNat)
 case atStart => exact ⟨0, Nat.zero_le _, rfl, fun i _ h => absurd h (Nat.not_lt_zero i), Below.refl _ _⟩
 case round =>
  obtain ⟨i, hi, rfl, hno, hBW2⟩ := hrel
  have HNO := hid hno
  clear hno
  obtain ⟨wo, rfl⟩ : ∃ wo : World, wo = wr := ⟨_, rfl⟩
  have hB : Below w.heap.size w wo := keepBelow hBW2 HWB.out
  by_cases hlt : i < l.length
  ·have hlt' : (i : Int) < (l.length : Int) := by omega
   have hwk : IntKind.i64.wrap ((i : Int) + 1) = (i : Int) + 1 := IntWalk.i64_in _ (by omega)
   obtain ⟨b, off, hA, hC⟩ := (HS.out.below hBW2).at_ (by intro h; rw [h] at hlt; simp at hlt)
   subst hA
   obtain ⟨x, hx⟩ : ∃ x, x = l[i] := ⟨_, rfl⟩
   have HX := hid hx
   have HC := hid hC
   have p0 := keepCell hBW2 HP.out.1
   have p1 := keepCell hBW2 HP.out.2
   have HBW2 := hid hBW2
   obtain ⟨eb, heb⟩ : ∃ eb, eb = (x1 == (x.1 : Int) && x2 == (x.2 : Int)) := ⟨_, rfl⟩
   have HEQ := run_eqP x1 x2 x.1 x.2
   rw [← heb] at HEQ
   have HEB := hid heb
   clear hC hx hBW2 heb
   go_upto_region 4 with fail
   refine wp_region_noPanic ?_
   refine wp_region_U (S := (S2 (fun w' => w'.cell? ⟨gp, 0, none⟩ = some (.int .i64 x1) ∧ w'.cell? ⟨gp, 1, none⟩ = some (.int .i64 x2) ∧ CellsE layPair w' b off l ∧ Below w.heap.size w w'))) (T := (fun _ => 0)) (by kernel_rfl) (S2i0 ⟨p0, p1, CellsE.below (Below.refl _ _).drew HC.out, hB.drew⟩) (fun hH => ?_)
   have hWr5 : Weaker (S2 (fun w' => w'.cell? ⟨gp, 0, none⟩ = some (.int .i64 x1) ∧ w'.cell? ⟨gp, 1, none⟩ = some (.int .i64 x2) ∧ CellsE layPair w' b off l ∧ Below w.heap.size w w')) := weaker2 _
   refine Ut 0 11 5 0 0 (v := ?vr5_1) rfl hWr5 hH ?hyr5_1 ?_
   case hyr5_1 => (intro w' hSw; replace hSw := S2o0 hSw; (try dsimp only at hSw); have q0 := hSw.1; have q1 := hSw.2.1; have q2 := hSw.2.2.1; have q3 := hSw.2.2.2; obtain ⟨qa2_0, qa2_1⟩ := CellsE.pairK (q2) hlt HX.out; go_simp; try (with_reducible rfl))
   simp only [sB, sC]
   refine Ut 1 12 4 0 0 (v := ?vr5_2) rfl hWr5 hH ?hyr5_2 ?_
   case hyr5_2 => (intro w' hSw; clear hSw; go_simp; try (with_reducible rfl))
   simp only [sB, sC]
   refine Ut 2 13 3 0 0 (v := ?vr5_3) rfl hWr5 hH ?hyr5_3 ?_
   case hyr5_3 => (intro w' hSw; clear hSw; go_simp; try (with_reducible rfl))
   simp only [sB, sC]
   refine Ut 3 14 2 0 0 (v := ?vr5_4) rfl hWr5 hH ?hyr5_4 ?_
   case hyr5_4 => (intro w' hSw; clear hSw; go_simp; try (with_reducible rfl))
   simp only [sB, sC]
   refine Ut 4 15 1 0 0 (v := ?vr5_5) rfl hWr5 hH ?hyr5_5 ?_
   case hyr5_5 => (intro w' hSw; replace hSw := S2o0 hSw; (try dsimp only at hSw); have q0 := hSw.1; have q1 := hSw.2.1; have q2 := hSw.2.2.1; have q3 := hSw.2.2.2; obtain ⟨qa2_0, qa2_1⟩ := CellsE.pairK (q2) hlt HX.out; go_simp; try (with_reducible rfl))
   simp only [sB, sC]
   refine Ut 5 16 0 0 0 (v := ?vr5_6) rfl hWr5 hH ?hyr5_6 ?_
   case hyr5_6 => (intro w' hSw; clear hSw; go_simp; try (with_reducible rfl))
   simp only [sB, sC]
   refine wpAnyU_done (by kernel_rfl) ?_ _ _
   refine NoPanic.normal ?_
   clear hWr5
   replace hH := S2o0 hH
   (try dsimp only at hH)
   have t0 := hH.1
   have t1 := hH.2.1
   have t2 := hH.2.2.1
   have t3 := hH.2.2.2
   have HBQ : Hid (Below W.heap.size W wo.drew) := HBW2.out.drew
   clear t0 t1 t2 p0 p1 hB HBW2 HEQ
   generalize wo.drew = wq at *
   cases eb with
   | true =>
    have HR : Hid ((∃ k : Nat, k < l.length ∧ Ending.returned (.int .i64 (i : Int)) = .returned (.int .i64 k)) ∧ Below w.heap.size w wq) := ⟨⟨i, hlt, rfl⟩, t3⟩
    clear HEB HNO
    go_wp2
    refine bodyPost_ret (v := .int .i64 i) (by simp [results, Tryz.results40, go_sem]) rfl HR.out
   | false =>
    have HN2 : Hid (∀ j (hj : j < l.length), j < i + 1 → ¬ (x1 = (l[j].1 : Nat) ∧ x2 = (l[j].2 : Nat))) := fun j hj hji => by
     rcases Nat.lt_or_ge j i with q | q
     ·exact HNO.out j hj q
     ·obtain rfl : j = i := by omega
      rw [← HX.out]
      rintro ⟨e1, e2⟩
      have := HEB.out
      simp [e1, e2] at this
    clear HEB HNO
    go_wp2
    go_roundw
    case rel => exact ⟨i + 1, hlt, by go_num, HN2.out, HBQ.out⟩
    case measure => simp [intOf]; omega
  ·exfalso
   obtain ⟨p, hp, e1, e2⟩ := HM.out
   obtain ⟨k, hk, rfl⟩ := List.getElem_of_mem hp
   exact HNO.out k hk (by omega) ⟨e1, e2⟩
set_option maxRecDepth 100000 in
theorem containsP_calls (A : Option Addr) (n c : Nat) (l : List (Nat × Nat)) (x1 x2 : Int) (hm : ∃ p ∈ l, x1 = (p.1 : Nat) ∧ x2 = (p.2 : Nat)) (w : World) (hS : SlE layPair w A n c l) :
  Calls Tryz.prog 14 #[.slice A n c, .agg #[.int .i64 x1, .int .i64 x2]] w (Ret (.bool true) w) := by
 obtain ⟨W, hW⟩ : ∃ W, W = w.alloc (.cells #[.int .i64 x1, .int .i64 x2] 44) := ⟨_, rfl⟩
 have hBW : Below w.heap.size w W := by rw [hW]; go_grown
 have HI := hid (indexP_calls A n c l x1 x2 hm W (hS.below hBW))
 clear hm hS
 go_enter Tryz.func14, Tryz.ntmps14
 go_wp2_with fail
 rw [← hW]
 clear hW
 refine HI.out.mono ?_
 rintro e w1 ⟨⟨k, hk, rfl⟩, hb⟩
 have hB := keepBelow hb hBW
 have hk0 : (k : Int) ≥ 0 := by omega
 clear HI hb hBW
 go_wp2
 go_returns
 exact ret_bool (by simp) hB

def setO (B : Int) (i : Nat) (x : Ct) : Ct := { x with push := B + i, sli := -(i : Int) }
def oldL (B : Int) (C : List Ct) (k : Nat) : List Ct := C.mapIdx fun i x => if i < k then setO B i x else x
theorem oldL_len (B : Int) (C : List Ct) (k : Nat) : (oldL B C k).length = C.length := by unfold oldL; simp
theorem oldL_at {B : Int} {C : List Ct} {k i : Nat} (h : i < C.length) : (oldL B C k)[i]'(by rw [oldL_len]; exact h) = if i < k then setO B i C[i] else C[i] := by simp [oldL]
theorem oldL_zero (B : Int) (C : List Ct) : oldL B C 0 = C := by
 refine List.ext_getElem (oldL_len _ _ _) fun i h1 h2 => ?_
 rw [oldL_at h2, if_neg (by omega)]
theorem oldL_set {B : Int} {C : List Ct} {k : Nat} (h : k < C.length) : (oldL B C k).set k (setO B k C[k]) = oldL B C (k + 1) := by
 refine List.ext_getElem (by rw [List.length_set, oldL_len, oldL_len]) fun i h1 h2 => ?_
 have hi : i < C.length := by rw [oldL_len] at h2; exact h2
 rw [oldL_at hi]
 by_cases e : i = k
 ·subst e
  rw [List.getElem_set_self, if_pos (by omega)]
 ·rw [List.getElem_set_ne (by omega), oldL_at hi]
  by_cases e2 : i < k
  ·rw [if_pos e2, if_pos (by omega)]
  ·rw [if_neg e2, if_neg (by omega)]
theorem oldL_key {B : Int} {C : List Ct} {k i : Nat} (h : i < C.length) : keyC ((oldL B C k)[i]'(by rw [oldL_len]; exact h)) = keyC C[i] := by
 rw [oldL_at h]
 split <;> rfl
theorem oldL_ord {B : Int} {C : List Ct} (hs : C.Pairwise fun x y => ordC x y = -1) {k i : Nat} (h : i + 1 < C.length) : ordC ((oldL B C k)[i]'(by rw [oldL_len]; omega)) ((oldL B C k)[i + 1]'(by rw [oldL_len]; exact h)) = -1 := by
 rw [ordC_key (oldL_key (by omega)) (oldL_key h)]
 exact List.pairwise_iff_getElem.1 hs i (i + 1) (by omega) h (by omega)
theorem oldL_car {B : Int} {C : List Ct} (hs : C.Pairwise fun x y => ordC x y = -1) : carL (oldL B C C.length) C = oldL B C C.length :=
 carL_self hs (oldL_len _ _ _) fun i hi => ⟨B + i, -(i : Int), by rw [oldL_at hi, if_pos hi]; rfl⟩
theorem fnd_pair {L : List BE} {c : Ct} (h : c ∈ fndL L) : ∃ p ∈ nearL L, c.a = (p.1 : Nat) ∧ c.b = (p.2 : Nat) := by
 obtain ⟨p, hp, t, -, rfl⟩ := mem_fnd.1 h
 exact ⟨p, hp, rfl, rfl⟩
theorem finds_fact (A1 A2 : Option Addr) (n1 n2 c1 c2 : Nat) : bodiesE [⟨bdK 0 0 0, A1, n1, c1, sqK 0 0 1⟩, ⟨bdK 0 2 65536, A2, n2, c2, sqK 0 0 1⟩] = 0 ∧ (match fndL [⟨bdK 0 0 0, A1, n1, c1, sqK 0 0 1⟩, ⟨bdK 0 2 65536, A2, n2, c2, sqK 0 0 1⟩] with | [x, y] => decide (x.b = 1) && decide (x.dep = 0) && decide (ordC x y = -1) | _ => false) = true := ⟨by kernel_rfl, by kernel_rfl⟩
set_option maxRecDepth 100000 in
set_option maxHeartbeats 4000000 in
theorem finds_calls (w : World) : Calls Tryz.prog 10 #[] w (Ret (.bool true) w) := by
 have HQ := hid finds_fact
 have HB1 := hid (kblock_calls_fix 0 0 1 (by omega) (by omega) (by omega))
 have HB2 := hid (kblock_calls_mov 0 2 1 (by omega) (by omega) (by omega))
 generalize sqK 0 0 1 = q at *
 go_enter Tryz.func10, Tryz.ntmps10
 go_wp2_with fail
 refine (HB1.out _).mono ?_
 rintro e w1 ⟨A1, n1, c1, rfl, hs1, hf1, hb1⟩
 have HS1 := hid hs1
 clear hs1 hf1 HB1
 go_wp2_with fail
 refine (HB2.out _).mono ?_
 rintro e w2 ⟨A2, n2, c2, rfl, hs2, hf2, hb2⟩
 obtain ⟨g, hg⟩ : ∃ g, g = w2.heap.size := ⟨_, rfl⟩
 obtain ⟨w3, hw3⟩ : ∃ w3, w3 = w2.alloc (.cells #[.int .i64 (bdK 0 0 0).px, .int .i64 (bdK 0 0 0).py, .int .i64 (bdK 0 0 0).vx, .int .i64 (bdK 0 0 0).vy, .int .i64 (bdK 0 0 0).ang, .int .i64 (bdK 0 0 0).spin, .int .i64 (bdK 0 0 0).mass, .int .i64 (bdK 0 0 0).iner, .int .i64 (bdK 0 0 0).bounce, .int .i64 (bdK 0 0 0).rub, .slice A1 n1 c1, .bool (bdK 0 0 0).asleep, .int .i64 (bdK 0 0 0).calm, .int .i64 (bdK 0 2 65536).px, .int .i64 (bdK 0 2 65536).py, .int .i64 (bdK 0 2 65536).vx, .int .i64 (bdK 0 2 65536).vy, .int .i64 (bdK 0 2 65536).ang, .int .i64 (bdK 0 2 65536).spin, .int .i64 (bdK 0 2 65536).mass, .int .i64 (bdK 0 2 65536).iner, .int .i64 (bdK 0 2 65536).bounce, .int .i64 (bdK 0 2 65536).rub, .slice A2 n2 c2, .bool (bdK 0 2 65536).asleep, .int .i64 (bdK 0 2 65536).calm] 58) := ⟨_, rfl⟩
 have hB2 := keepBelow hb2 hb1
 have hb3 : Below w2.heap.size w2 w3 := by rw [hw3]; go_grown
 have hc3 : CellsE layB w3 g 0 [⟨bdK 0 0 0, A1, n1, c1, q⟩, ⟨bdK 0 2 65536, A2, n2, c2, q⟩] := by
  have HO : OwnE layB 58 w3 w2.heap.size (.slice (some ⟨g, 0, none⟩) 2 2) [⟨bdK 0 0 0, A1, n1, c1, q⟩, ⟨bdK 0 2 65536, A2, n2, c2, q⟩] := by
   rw [hw3, hg]
   exact ⟨by simp [flatE, layB, encB], .inr ⟨w2.heap.size, 2, _, rfl, Nat.le_refl _, heap_alloc_new w2 _, Nat.le_refl _, by decide, by simp [layB], by simp [flatE, layB, encB, bdK]⟩⟩
  rcases HO.form with ⟨h1, -⟩ | ⟨g', cap', hv, -, -, -, -, hf, hc⟩
  ·cases h1
  ·cases hv; exact hc
 have hs13 := (HS1.out.below hb2).below hb3
 have hs23 := hs2.below hb3
 obtain ⟨hE, hM⟩ := HQ.out A1 A2 n1 n2 c1 c2
 have HS3 : Hid (SlB w3 (some ⟨g, 0, none⟩) 2 2 [⟨bdK 0 0 0, A1, n1, c1, q⟩, ⟨bdK 0 2 65536, A2, n2, c2, q⟩]) := ⟨⟨rfl, Nat.le_refl _, by omega, fun _ => ⟨g, 0, rfl, hc3⟩⟩, fun x hx => by
  rcases List.mem_cons.1 hx with rfl | hx
  ·exact hs13
  ·rw [List.mem_singleton.1 hx]; exact hs23⟩
 obtain ⟨L, hL⟩ : ∃ L : List BE, L = [⟨bdK 0 0 0, A1, n1, c1, q⟩, ⟨bdK 0 2 65536, A2, n2, c2, q⟩] := ⟨_, rfl⟩
 rw [← hL] at HS3 hE hM
 have HF := hid (kfind_calls (some ⟨g, 0, none⟩) none 2 2 0 0 L [] w3 HS3.out (SlE.nil _ _))
 obtain ⟨x, y, hxy⟩ : ∃ x y, fndL L = [x, y] := by
  generalize fndL L = C at *
  match C, hM with
  | [x, y], _ => exact ⟨x, y, rfl⟩
 rw [hxy] at hM
 simp only [Bool.and_eq_true, decide_eq_true_iff] at hM
 obtain ⟨⟨hxb, hxd⟩, hxo⟩ := hM
 have HEZ := hid hE
 have HFE : Hid (findE L [] = [x, y]) := by show _ = _; unfold findE; rw [if_pos hE, carL_nil _ (fnd_zero L), hxy]
 have HOR := hid (order_calls x y)
 rw [hxo] at HOR
 have hB3 := hid (keepBelow hb3 hB2)
 clear hs2 hf2 hb1 hb2 hB2 hb3 hc3 hs13 hs23 HS3 HS1 HB2 HQ hL hE hxy hxo
 go_wp2_with fail
 rw [← hg, ← hw3]
 clear hw3 hg
 refine HF.out.mono ?_
 rintro e w4 ⟨A4, n4, c4, rfl, hs4, hb4⟩
 rw [HFE.out] at hs4
 rw [HEZ.out]
 have HB4 := hid (keepBelow hb4 hB3.out)
 have hn4 := hs4.len
 have hn4 : n4 = 2 := hn4
 subst hn4
 obtain ⟨gr, ofr, rfl, hce⟩ := hs4.at_ (by simp)
 have HCE := hid hce
 have hxb' : (x.b == 1) = true := by simp [hxb]
 have hxd' : (x.dep == 0) = true := by simp [hxd]
 clear hs4 hb4 hce HF hB3 HFE HEZ hxb hxd
 go_upto_region 2 with fail
 refine wp_region_noPanic ?_
 refine wp_region_U (S := (S2 (fun w' => CellsE layC w' gr ofr [x, y] ∧ Below w.heap.size w w'))) (T := (fun _ => 0)) (by kernel_rfl) (S2i0 ⟨CellsE.below (Below.refl _ _).drew HCE.out, HB4.out.drew⟩) (fun hH => ?_)
 have hWr6 : Weaker (S2 (fun w' => CellsE layC w' gr ofr [x, y] ∧ Below w.heap.size w w')) := weaker2 _
 refine Ut 0 10 17 0 0 (v := ?vr6_1) rfl hWr6 hH ?hyr6_1 ?_
 case hyr6_1 => (intro w' hSw; clear hSw; go_simp; try (with_reducible rfl))
 simp only [sB, sC]
 refine Ut 1 11 16 0 0 (v := ?vr6_2) rfl hWr6 hH ?hyr6_2 ?_
 case hyr6_2 => (intro w' hSw; clear hSw; go_simp; try (with_reducible rfl))
 simp only [sB, sC]
 refine Ut 2 12 15 0 0 (v := ?vr6_3) rfl hWr6 hH ?hyr6_3 ?_
 case hyr6_3 => (intro w' hSw; clear hSw; go_simp; try (with_reducible rfl))
 simp only [sB, sC]
 refine Ut 3 13 14 0 0 (v := ?vr6_4) rfl hWr6 hH ?hyr6_4 ?_
 case hyr6_4 => (intro w' hSw; clear hSw; go_simp; try (with_reducible rfl))
 simp only [sB, sC]
 refine Ut 4 14 13 0 0 (v := ?vr6_5) rfl hWr6 hH ?hyr6_5 ?_
 case hyr6_5 => (intro w' hSw; clear hSw; go_simp; try (with_reducible rfl))
 simp only [sB, sC]
 refine Ut 5 15 12 0 0 (v := ?vr6_6) rfl hWr6 hH ?hyr6_6 ?_
 case hyr6_6 => (intro w' hSw; clear hSw; go_simp; try (with_reducible rfl))
 simp only [sB, sC]
 refine Ut 6 16 11 0 0 (v := ?vr6_7) rfl hWr6 hH ?hyr6_7 ?_
 case hyr6_7 => (intro w' hSw; clear hSw; go_simp; try (with_reducible rfl))
 simp only [sB, sC]
 refine Ut 7 17 10 0 0 (v := ?vr6_8) rfl hWr6 hH ?hyr6_8 ?_
 case hyr6_8 => (intro w' hSw; clear hSw; go_simp; try (with_reducible rfl))
 simp only [sB, sC]
 refine Ut 8 18 9 0 0 (v := ?vr6_9) rfl hWr6 hH ?hyr6_9 ?_
 case hyr6_9 => (intro w' hSw; clear hSw; go_simp; try (with_reducible rfl))
 simp only [sB, sC]
 refine Ut 9 19 8 0 0 (v := ?vr6_10) rfl hWr6 hH ?hyr6_10 ?_
 case hyr6_10 => (intro w' hSw; clear hSw; go_simp; try (with_reducible rfl))
 simp only [sB, sC]
 refine Ut 10 20 7 0 0 (v := ?vr6_11) rfl hWr6 hH ?hyr6_11 ?_
 case hyr6_11 => (intro w' hSw; replace hSw := S2o0 hSw; (try dsimp only at hSw); have q0 := hSw.1; have q1 := hSw.2; obtain ⟨qa0_0, qa0_1, qa0_2, qa0_3, qa0_4, qa0_5, qa0_6, qa0_7, qa0_8, qa0_9, qa0_10, qa0_11, qa0_12, qa0_13, qa0_14, qa0_15, qa0_16, qa0_17, qa0_18, qa0_19⟩ := cells2_ct (q0); go_simp; try (with_reducible rfl))
 simp only [sB, sC]
 refine Ut 11 21 6 0 0 (v := ?vr6_12) rfl hWr6 hH ?hyr6_12 ?_
 case hyr6_12 => (intro w' hSw; clear hSw; go_simp; try (with_reducible rfl))
 simp only [sB, sC]
 refine Ut 12 22 5 0 0 (v := ?vr6_13) rfl hWr6 hH ?hyr6_13 ?_
 case hyr6_13 => (intro w' hSw; clear hSw; go_simp; try (with_reducible rfl))
 simp only [sB, sC]
 refine Ut 13 23 4 0 0 (v := ?vr6_14) rfl hWr6 hH ?hyr6_14 ?_
 case hyr6_14 => (intro w' hSw; replace hSw := S2o0 hSw; (try dsimp only at hSw); have q0 := hSw.1; have q1 := hSw.2; obtain ⟨qa0_0, qa0_1, qa0_2, qa0_3, qa0_4, qa0_5, qa0_6, qa0_7, qa0_8, qa0_9, qa0_10, qa0_11, qa0_12, qa0_13, qa0_14, qa0_15, qa0_16, qa0_17, qa0_18, qa0_19⟩ := cells2_ct (q0); go_simp; try (with_reducible rfl))
 simp only [sB, sC]
 refine U1 14 0 rfl (fun K hK => ?_)
 try clear hb
 go_simp
 (go_at_call 13; refine (HOR.out _).mono ?_; rintro e wn ⟨rfl, hb⟩)
 refine hK.out _ _ ?hsr6_15 (fun hH2 => ?hrr6_15)
 case hsr6_15 => exact S2i0 (by have hG := hH; replace hG := S2o0 hG; (try dsimp only at hG); have q0 := hG.1; have q1 := hG.2; exact ⟨CellsE.below hb q0, keepBelow hb q1⟩)
 clear hK K hH
 have hH := hH2
 clear hH2
 try simp only [Act.put, sA, sB, sC]
 refine Ut 15 25 2 0 0 (v := ?vr6_16) rfl hWr6 hH ?hyr6_16 ?_
 case hyr6_16 => (intro w' hSw; clear hSw; go_simp; try (with_reducible rfl))
 simp only [sB, sC]
 refine Ut 16 26 1 0 0 (v := ?vr6_17) rfl hWr6 hH ?hyr6_17 ?_
 case hyr6_17 => (intro w' hSw; clear hSw; go_simp; try (with_reducible rfl))
 simp only [sB, sC]
 refine Ut 17 0 0 0 0 (v := ?vr6_18) rfl hWr6 hH ?hyr6_18 ?_
 case hyr6_18 => (intro w' hSw; clear hSw; go_simp; try (with_reducible rfl))
 simp only [sB, sC]
 refine wpAnyU_done (by kernel_rfl) ?_ _ _
 refine NoPanic.normal ?_
 clear hWr6
 replace hH := S2o0 hH
 (try dsimp only at hH)
 have t0 := hH.1
 have t1 := hH.2
 go_wp2
 go_returns
 exact ret_bool (by simp) t1
end
end Go.Proofs.YtiaoandbdgdecaaGreat
