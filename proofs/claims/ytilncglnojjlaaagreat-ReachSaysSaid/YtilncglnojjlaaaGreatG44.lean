/- Parts of a proof: contracts and laws. -/
import Derived.Test.YtilncglnojjlaaaGreatG38
import Derived.Test.YtilncglnojjlaaaGreatG39
import Derived.Test.YtilncglnojjlaaaGreatG29
import Derived.Test.YtilncglnojjlaaaGreatG43
import Derived.Test.YtilncglnojjlaaaGreatG04
namespace Go.Proofs.YtilncglnojjlaaaGreat
section
set_option linter.unusedVariables false
set_option linter.unusedSimpArgs false
open Go.RowKit
theorem mulF_commR (a b : Int) : mulF a b = mulF b a := by unfold mulF mdF; rw [Int.mul_comm (clampF a)]
theorem angF_modR (a : Int) : angF a = a % 65536 := by
 unfold angF
 have e := Int.tmod_add_mul_tdiv a 65536
 have t1 := Int.tmod_lt_of_pos a (show (0 : Int) < 65536 by omega)
 have t2 := Int.lt_tmod_of_pos a (show (0 : Int) < 65536 by omega)
 rw [Int.tmod_eq_emod_of_nonneg (show 0 ≤ a.tmod 65536 + 65536 by omega)]
 omega
theorem moveB_stepR {b : Bd} {l : List V} {s : Int} (hE : bodyE b l = 0) (h0 : 0 ≤ s) (h1 : s ≤ 65536) : moveB b l s = stepB b s := by
 unfold moveB stepB
 by_cases hc : b.mass = 0 ∨ b.asleep = true
 ·rw [if_pos (by rcases hc with h | h; exact .inr (.inl h); exact .inr (.inr (.inl h))), if_pos hc]
 ·rw [if_neg (by rintro (h | h | h | h | h); exact h hE; exact hc (.inl h); exact hc (.inr h); omega; omega), if_neg hc, angF_modR, mulF_commR b.vx, mulF_commR b.vy, mulF_commR b.spin]
theorem rapart_eqR {a b : List V} (ha : checkE a = 0) (hb : checkE b = 0) : rapartZ a b = apartZ a b := by
 unfold rapartZ
 rw [meet_eq ha hb, meets_nin ha hb]
 cases h : ninB (minusL a b) with
 | true => unfold apartZ; rw [if_pos (bothE_zero.2 ⟨ha, hb⟩), if_pos h]; simp
 | false => simp only [Bool.false_eq_true, if_false]; exact apart_eq ha hb h
def sS (L : List BE) : Nat → Int
 | 0 => 0
 | k + 1 => sS L k + (match L[k]? with | some x => (14 * farB x.b x.l).tdiv 65536 | none => 0)
set_option maxRecDepth 100000 in
set_option maxHeartbeats 16000000 in
theorem rtime_calls (a b : Bd) (A B : Option Addr) (n c m d : Nat) (l l2 : List V) (s : Int) (w : World) (hS : Sl w A n c l) (hM : Sl w B m d l2) (hea : bodyE a l = 0) (heb : bodyE b l2 = 0) (hs0 : 0 ≤ s ∧ s ≤ 65536) : Calls Tryz.prog 9 #[bodyV a A n c, bodyV b B m d, .int .i64 s] w (Ret (.tuple #[.int .i64 (timeO a l b l2 s).1, .bool (timeO a l b l2 s).2]) w) := by
 obtain ⟨W, hW⟩ : ∃ W, W = (w.alloc (.cells #[.int .i64 a.px, .int .i64 a.py, .int .i64 a.vx, .int .i64 a.vy, .int .i64 a.ang, .int .i64 a.spin, .int .i64 a.mass, .int .i64 a.iner, .int .i64 a.bounce, .int .i64 a.rub, .slice A n c, .bool a.asleep, .int .i64 a.calm] 26)).alloc (.cells #[.int .i64 b.px, .int .i64 b.py, .int .i64 b.vx, .int .i64 b.vy, .int .i64 b.ang, .int .i64 b.spin, .int .i64 b.mass, .int .i64 b.iner, .int .i64 b.bounce, .int .i64 b.rub, .slice B m d, .bool b.asleep, .int .i64 b.calm] 26) := ⟨_, rfl⟩
 have HKA : Hid (BdAt W w.heap.size a A n c) := by show BdAt _ _ _ _ _ _; rw [hW]; exact (BdAt.here w a A n c _).alloc _
 have HKB : Hid (BdAt W (w.heap.size + 1) b B m d) := by show BdAt _ _ _ _ _ _; rw [hW]; have := BdAt.here (w.alloc (.cells #[.int .i64 a.px, .int .i64 a.py, .int .i64 a.vx, .int .i64 a.vy, .int .i64 a.ang, .int .i64 a.spin, .int .i64 a.mass, .int .i64 a.iner, .int .i64 a.bounce, .int .i64 a.rub, .slice A n c, .bool a.asleep, .int .i64 a.calm] 26)) b B m d 26; simpa using this
 have hB : Below w.heap.size w W := by rw [hW]; go_grown
 have HSL0 := hid (fun (w' : World) (hb : Below w.heap.size w w') => SlB.two (a := a) (b := b) 26 (hS.below hb) (hM.below hb))
 have HBO := hid (fun (z : Int) (hz : 0 ≤ z) (w' : World) (hb : Below w.heap.size w w') => rbound_calls a b A B n c m d l l2 z w' (hS.below hb) (hM.below hb) hea heb hz)
 have HB1 := hid (HBO.out s hs0.1)
 have HB2 := hid (HBO.out 65536 (by omega))
 clear HBO
 have z1 := rbdZ_bd a l b l2 hs0.1
 have z2 := rbdZ_bd a l b l2 (s := 65536) (by omega)
 have f1 := farB_bd a l
 have f2 := farB_bd b l2
 have na := numE_zero (bodyE_zero hea).2
 have nb := numE_zero (bodyE_zero heb).2
 have HSA0 := hid (fun (z : Int) (w' : World) => rstep_calls a A n c z ⟨na.1.1, na.1.2.1⟩ na.1.2.2 na.2.2.2.1 w')
 have HSB0 := hid (fun (z : Int) (w' : World) => rstep_calls b B m d z ⟨nb.1.1, nb.1.2.1⟩ nb.1.2.2 nb.2.2.2.1 w')
 have HST0 : Hid (∀ z, 0 ≤ z → z ≤ 65536 → bodyE (stepB a z) l = 0 ∧ bodyE (stepB b z) l2 = 0 ∧ moveB a l z = stepB a z ∧ moveB b l2 z = stepB b z) := fun z h0 h1 => ⟨by rw [← moveB_stepR hea h0 h1]; exact moveB_ok hea, by rw [← moveB_stepR heb h0 h1]; exact moveB_ok heb, moveB_stepR hea h0 h1, moveB_stepR heb h0 h1⟩
 have HPA0 := hid (fun (z : Int) (h0 : 0 ≤ z) (h1 : z ≤ 65536) (w' : World) (hb : Below w.heap.size w w') => rplaced_calls (stepB a z) A n c l w' (HST0.out z h0 h1).1 (hS.below hb))
 have HPB0 := hid (fun (z : Int) (h0 : 0 ≤ z) (h1 : z ≤ 65536) (w' : World) (hb : Below w.heap.size w w') => rplaced_calls (stepB b z) B m d l2 w' (HST0.out z h0 h1).2.1 (hM.below hb))
 have HCK : Hid (∀ t, checkE (atL a l s t) = 0 ∧ checkE (atL b l2 s t) = 0) := fun t => ⟨placed_ok (moveB_ok hea), placed_ok (moveB_ok heb)⟩
 have HAP : Hid (∀ t, 0 ≤ apartZ (atL a l s t) (atL b l2 s t) ∧ apartZ (atL a l s t) (atL b l2 s t) ≤ 1099511627776) := fun t => apartZ_bd (HCK.out t).1 (HCK.out t).2
 have HMT : Hid (∀ t, tmMeet a l b l2 s t = rmeetB (atL a l s t) (atL b l2 s t)) := fun t => nmeet_req (HCK.out t).1 (HCK.out t).2
 have HAQ : Hid (∀ t, rapartZ (atL a l s t) (atL b l2 s t) = apartZ (atL a l s t) (atL b l2 s t)) := fun t => rapart_eqR (HCK.out t).1 (HCK.out t).2
 have HNX : Hid (∀ t, tmNext a l b l2 s t = min 65536 (t + max 256 ((max 0 (apartZ (atL a l s t) (atL b l2 s t) - slkZ a l b l2) * 65536).tdiv (rbdZ a l b l2 s)))) := fun t => rfl
 have HTO : Hid (timeO a l b l2 s = timeR (tmMeet a l b l2 s) (tmNext a l b l2 s) 300 0) := rfl
 have HPR : Hid (∀ t, 0 ≤ t ∧ t ≤ 65536 → 0 ≤ mulF s t ∧ mulF s t ≤ 65536 ∧ atL a l s t = placeL (stepB a (mulF s t)) l ∧ atL b l2 s t = placeL (stepB b (mulF s t)) l2) := fun t ht => by
  have hp := mulF_part hs0 ht
  have h9 := HST0.out (mulF s t) hp.1 hp.2
  exact ⟨hp.1, hp.2, by unfold atL; rw [h9.2.2.1], by unfold atL; rw [h9.2.2.2]⟩
 generalize hL : ([⟨a, A, n, c, l⟩, ⟨b, B, m, d, l2⟩] : List BE) = L at *
 have hLl : L.length = 2 := by rw [← hL]; rfl
 have HOK : Hid (∀ x ∈ L, bodyE x.b x.l = 0) := fun x hx => by
  rw [← hL] at hx
  simp at hx
  rcases hx with rfl | rfl
  ·exact hea
  ·exact heb
 obtain ⟨mz, hmz⟩ : ∃ z, z = rbdZ a l b l2 65536 := ⟨_, rfl⟩
 obtain ⟨q1, hq1⟩ : ∃ q, q = mz.tdiv 65536 := ⟨_, rfl⟩
 rw [← hmz] at z2 HB2
 have e1 : q1 = mz / 65536 := by rw [hq1, Int.tdiv_eq_ediv_of_nonneg (by omega)]
 have b1 : 0 ≤ q1 ∧ q1 ≤ 100000000 := by omega
 have bfa : 0 ≤ (14 * farB a l).tdiv 65536 ∧ (14 * farB a l).tdiv 65536 ≤ 1000000000 := by rw [Int.tdiv_eq_ediv_of_nonneg (by omega)]; omega
 have bfb : 0 ≤ (14 * farB b l2).tdiv 65536 ∧ (14 * farB b l2).tdiv 65536 ≤ 1000000000 := by rw [Int.tdiv_eq_ediv_of_nonneg (by omega)]; omega
 have HSK : Hid (slkZ a l b l2 = 16 + q1 * 2 + sS L 2) := by
  show 16 + 2 * (rbdZ a l b l2 65536).tdiv 65536 + (14 * farB a l).tdiv 65536 + (14 * farB b l2).tdiv 65536 = _
  rw [← hmz, ← hq1, ← hL]
  show _ = 16 + q1 * 2 + (0 + (14 * farB a l).tdiv 65536 + (14 * farB b l2).tdiv 65536)
  omega
 have HTB : Hid (∀ k, k ≤ 2 → 0 ≤ sS L k ∧ sS L k ≤ 2000000000) := fun k hk => by
  match k, hk with
  | 0, _ => show _ ≤ (0 : Int) ∧ (0 : Int) ≤ _; omega
  | 1, _ => rw [← hL]; show _ ≤ 0 + (14 * farB a l).tdiv 65536 ∧ 0 + (14 * farB a l).tdiv 65536 ≤ _; omega
  | 2, _ => rw [← hL]; show _ ≤ 0 + (14 * farB a l).tdiv 65536 + (14 * farB b l2).tdiv 65536 ∧ 0 + (14 * farB a l).tdiv 65536 + (14 * farB b l2).tdiv 65536 ≤ _; omega
 have HSKB : Hid (0 ≤ slkZ a l b l2 ∧ slkZ a l b l2 ≤ 10000000000) := by have h8 := HTB.out 2 (by omega); have h9 := HSK.out; show _ ∧ _; omega
 have w1' : IntKind.i64.wrap (mz.tdiv 65536) = q1 := by rw [← hq1]; exact IntWalk.i64_in _ (by omega)
 have w2' : IntKind.i64.wrap (q1 * 2) = q1 * 2 := IntWalk.i64_in _ (by omega)
 have w3' : IntKind.i64.wrap (16 + q1 * 2) = 16 + q1 * 2 := IntWalk.i64_in _ (by omega)
 clear hS hM hea heb hL hmz hq1 e1 bfa bfb f1 f2 na nb hs0 HST0
 generalize slkZ a l b l2 = sk at *
 generalize tmNext a l b l2 s = nx at *
 generalize tmMeet a l b l2 s = mt at *
 generalize timeO a l b l2 s = tq at *
 generalize rbdZ a l b l2 s = most at *
 obtain ⟨k0, k1, k2, k3, k4, k5, k6, k7, k8, k9, k10, k11, k12, -⟩ := HKA.out
 obtain ⟨m0, m1, m2, m3, m4, m5, m6, m7, m8, m9, m10, m11, m12, -⟩ := HKB.out
 have hlw : w.heap.size + 1 < W.heap.size := HKB.out.lt
 go_enter Tryz.func9, Tryz.ntmps9
 go_upto_region 1 with fail
 rw [← hW]
 clear hW
 go_wp2_with fail
 refine (HB1.out _ hB).mono ?_
 rintro e w1 ⟨rfl, hb⟩
 replace hB := keepBelow hb hB
 replace HKA := hid (keepBd hb HKA.out)
 replace HKB := hid (keepBd hb HKB.out)
 clear hb k0 k1 k2 k3 k4 k5 k6 k7 k8 k9 k10 k11 k12 m0 m1 m2 m3 m4 m5 m6 m7 m8 m9 m10 m11 m12 hlw HB1
 obtain ⟨k0, k1, k2, k3, k4, k5, k6, k7, k8, k9, k10, k11, k12, -⟩ := HKA.out
 obtain ⟨m0, m1, m2, m3, m4, m5, m6, m7, m8, m9, m10, m11, m12, -⟩ := HKB.out
 go_wp2_with fail
 refine (HB2.out _ hB).mono ?_
 rintro e w2 ⟨rfl, hb⟩
 replace hB := keepBelow hb hB
 replace HKA := hid (keepBd hb HKA.out)
 replace HKB := hid (keepBd hb HKB.out)
 clear hb k0 k1 k2 k3 k4 k5 k6 k7 k8 k9 k10 k11 k12 m0 m1 m2 m3 m4 m5 m6 m7 m8 m9 m10 m11 m12 HB2
 obtain ⟨k0, k1, k2, k3, k4, k5, k6, k7, k8, k9, k10, k11, k12, -⟩ := HKA.out
 obtain ⟨m0, m1, m2, m3, m4, m5, m6, m7, m8, m9, m10, m11, m12, -⟩ := HKB.out
 have hlw2 : w.heap.size + 1 < w2.heap.size := lt_of_cell m0
 obtain ⟨w3, hw3⟩ : ∃ w3, w3 = w2.alloc (.cells #[.int .i64 a.px, .int .i64 a.py, .int .i64 a.vx, .int .i64 a.vy, .int .i64 a.ang, .int .i64 a.spin, .int .i64 a.mass, .int .i64 a.iner, .int .i64 a.bounce, .int .i64 a.rub, .slice A n c, .bool a.asleep, .int .i64 a.calm, .int .i64 b.px, .int .i64 b.py, .int .i64 b.vx, .int .i64 b.vy, .int .i64 b.ang, .int .i64 b.spin, .int .i64 b.mass, .int .i64 b.iner, .int .i64 b.bounce, .int .i64 b.rub, .slice B m d, .bool b.asleep, .int .i64 b.calm] 26) := ⟨_, rfl⟩
 have hb3 : Below w2.heap.size w2 w3 := by rw [hw3]; exact (Below.refl _ _).alloc (Nat.le_refl _) _
 have HSL : Hid (SlB w3 (some ⟨w2.heap.size, 0, none⟩) 2 2 L) := by rw [hw3]; exact HSL0.out _ hB
 obtain ⟨g1, hg1⟩ : ∃ g1, g1 = w2.heap.size := ⟨_, rfl⟩
 have hB3 := keepBelow hb3 hB
 have HKA3 := hid (keepBd hb3 HKA.out)
 have HKB3 := hid (keepBd hb3 HKB.out)
 clear HSL0 hb3
 go_upto_region 4 with fail
 rw [← hw3, ← hg1]
 rw [← hg1] at HSL
 clear hw3 hg1 k0 k1 k2 k3 k4 k5 k6 k7 k8 k9 k10 k11 k12 m0 m1 m2 m3 m4 m5 m6 m7 m8 m9 m10 m11 m12 hlw2 HKA HKB hB
 go_loopw [9, 32] (fun o i wr => ∃ k : Nat, k ≤ 2 ∧ i = .int .i64 k ∧ o = .int .i64 (16 + q1 * 2 + sS L k) ∧ Below w3.heap.size w3 wr) (fun _ i _ => 2 - (intOf i).toNat)
 case atStart => exact ⟨0, Nat.zero_le _, rfl, by simp [sS], Below.refl _ _⟩
 case round =>
  obtain ⟨k, hk, rfl, rfl, hB8⟩ := hrel
  obtain ⟨wo, rfl⟩ : ∃ wo : World, wo = wr := ⟨_, rfl⟩
  by_cases hlt : k < 2
  ·have hltL : k < L.length := by omega
   have HSw := hid (HSL.out.below hB8)
   obtain ⟨ba, off, hA, hC⟩ := HSw.out.sl.at_ (by intro h; rw [h] at hLl; simp at hLl)
   obtain ⟨rfl, rfl⟩ : ba = g1 ∧ off = 0 := by cases hA; exact ⟨rfl, rfl⟩
   clear hA
   obtain ⟨x, hx⟩ : ∃ x, x = L[k] := ⟨_, rfl⟩
   have hxm : x ∈ L := by rw [hx]; exact List.getElem_mem hltL
   have HXM := hid hxm
   have hxo := HOK.out x hxm
   have hx8 := (checkE_zero (shapeE_zero (bodyE_zero hxo).1)).1
   have hx3 := (checkE_zero (shapeE_zero (bodyE_zero hxo).1)).2.1
   have HST : Hid (sS L (k + 1) = sS L k + (14 * farB x.b x.l).tdiv 65536) := by show sS L k + _ = _; rw [List.getElem?_eq_getElem hltL, ← hx]
   obtain ⟨d0, d1, d2, d3, d4, d5, d6, d7, d8, d9, d10, d11, d12⟩ := cells_bd hC hltL hx
   rw [Nat.zero_add] at d0 d1 d2 d3 d4 d5 d6 d7 d8 d9 d10 d11 d12
   have hbo := hC.lt
   have hlt' : (k : Int) < 2 := by omega
   have hkw : IntKind.i64.wrap ((k : Int) + 1) = (k : Int) + 1 := IntWalk.i64_in _ (by omega)
   have htb := HTB.out k (by omega)
   have htb1 := HTB.out (k + 1) (by omega)
   rw [HST.out] at htb1
   obtain ⟨tk, htk⟩ : ∃ z, z = sS L k := ⟨_, rfl⟩
   rw [← htk] at htb htb1 HST ⊢
   obtain ⟨gx, hgx⟩ : ∃ g, g = wo.heap.size := ⟨_, rfl⟩
   obtain ⟨wz, hwz⟩ : ∃ z, z = wo.alloc (.cells #[.int .i64 x.b.px, .int .i64 x.b.py, .int .i64 x.b.vx, .int .i64 x.b.vy, .int .i64 x.b.ang, .int .i64 x.b.spin, .int .i64 x.b.mass, .int .i64 x.b.iner, .int .i64 x.b.bounce, .int .i64 x.b.rub, .slice x.A x.n x.c, .bool x.b.asleep, .int .i64 x.b.calm] 26) := ⟨_, rfl⟩
   have HKX := hid (show BdAt wz gx x.b x.A x.n x.c by rw [hwz, hgx]; exact BdAt.here wo x.b x.A x.n x.c _)
   have hB4 : Below w3.heap.size w3 wz := by rw [hwz]; exact hB8.alloc hB8.size _
   clear hC hx hxm HSw htk
   go_upto_region 6 with fail
   rw [← hwz, ← hgx]
   clear hwz hgx d0 d1 d2 d3 d4 d5 d6 d7 d8 d9 d10 d11 d12 hbo
   obtain ⟨k0, k1, k2, k3, k4, k5, k6, k7, k8, k9, k10, k11, k12, kf⟩ := HKX.out
   go_wp2_with fail
   refine (rfree_calls x.b x.A x.n x.c _).mono ?_
   rintro e w4 ⟨rfl, hb⟩
   replace hB4 := keepBelow hb hB4
   replace HKX := hid (keepBd hb HKX.out)
   clear hb k0 k1 k2 k3 k4 k5 k6 k7 k8 k9 k10 k11 k12 kf
   cases hfr : freeB x.b with
   | false =>
    have HT0 : Hid ((14 * farB x.b x.l).tdiv 65536 = 0) := by
     show _ = _
     unfold farB
     rw [if_pos]
     ·rfl
     unfold freeB at hfr
     rcases Int.decEq x.b.mass 0 with h | h
     ·right; simpa [h] using hfr
     ·left; exact h
    clear hfr HKX
    go_wp2
    go_roundw
    case rel => exact ⟨k + 1, by omega, by go_num, by rw [HST.out, HT0.out, Int.add_zero], hB4⟩
    case measure => simp [intOf] <;> omega
   | true =>
    have hnf := freeB_true hfr
    have rb := reachT_bd x.l x.l.length
    obtain ⟨rc, hrc⟩ : ∃ z, z = reachT x.l x.l.length := ⟨_, rfl⟩
    have hfb : farB x.b x.l = rc := by unfold farB; rw [if_neg hnf, hrc]
    rw [hfb] at htb1 HST
    rw [← hrc] at rb
    obtain ⟨q2, hq2⟩ : ∃ q, q = (14 * rc).tdiv 65536 := ⟨_, rfl⟩
    rw [← hq2] at htb1 HST
    have HRO : Hid (∀ w', Below w3.heap.size w3 w' → Calls Tryz.prog 27 #[bodyV x.b x.A x.n x.c] w' (Ret (.int .i64 rc) w')) := fun w' hb => by rw [hrc]; exact rreachOf_calls x.b x.A x.n x.c x.l w' ((HSL.out.below hb).co x (HXM.out)) (by omega) hx8
    have y1 : IntKind.i64.wrap (14 * rc) = 14 * rc := IntWalk.i64_in _ (by omega)
    have y2 : IntKind.i64.wrap ((14 * rc).tdiv 65536) = q2 := by rw [← hq2]; exact IntWalk.i64_in _ (by omega)
    have y3 : IntKind.i64.wrap (16 + q1 * 2 + tk + q2) = 16 + q1 * 2 + tk + q2 := IntWalk.i64_in _ (by omega)
    clear hfr hnf hrc hfb hq2 htb htb1 rb
    obtain ⟨k0, k1, k2, k3, k4, k5, k6, k7, k8, k9, k10, k11, k12, kf⟩ := HKX.out
    go_wp2_with fail
    refine (HRO.out _ hB4).mono ?_
    rintro e w5 ⟨rfl, hb⟩
    replace hB4 := keepBelow hb hB4
    clear hb k0 k1 k2 k3 k4 k5 k6 k7 k8 k9 k10 k11 k12 kf HKX HRO
    go_wp2
    go_roundw
    case rel => exact ⟨k + 1, by omega, by go_num, by rw [HST.out, ← Int.add_assoc], hB4⟩
    case measure => simp [intOf] <;> omega
  ·have hk2 : k = 2 := by omega
   subst hk2
   rw [← HSK.out]
   have hB := keepBelow hB8 hB3
   have HKA := hid (keepBd hB8 HKA3.out)
   have HKB := hid (keepBd hB8 HKB3.out)
   obtain ⟨wb, hwb⟩ : ∃ wb : World, wb = wo := ⟨_, rfl⟩
   rw [← hwb] at HKA HKB hB ⊢
   clear hwb hB8 hB3 HKA3 HKB3 HSK HTB HSL HOK hlt hk w1' w2' w3'
   go_wp2
   go_loopw [12, 45] (fun o i wr => ∃ (t : Int) (k : Nat), o = .int .i64 t ∧ i = .int .i64 k ∧ (0 ≤ t ∧ t ≤ 65536) ∧ k ≤ 299 ∧ timeR mt nx 300 0 = timeR mt nx (299 - k + 1) t ∧ 256 * (k : Int) ≤ t ∧ Below wb.heap.size wb wr) (fun _ i _ => 300 - (intOf i).toNat)
   case atStart => exact ⟨0, 0, rfl, rfl, by omega, by omega, rfl, by omega, Below.refl _ _⟩
   case round =>
    obtain ⟨t, k, rfl, rfl, ht, hk, hti, hf, hBk⟩ := hrel
    obtain ⟨wo, rfl⟩ : ∃ wo : World, wo = wr := ⟨_, rfl⟩
    have HTI := hid (HTO.out.trans hti)
    clear hti
    have hk300 : (k : Int) < 300 := by omega
    have hkw : IntKind.i64.wrap ((k : Int) + 1) = (k : Int) + 1 := IntWalk.i64_in _ (by omega)
    have hpr := HPR.out t ht
    obtain ⟨z, hz⟩ : ∃ z, z = mulF s t := ⟨_, rfl⟩
    rw [← hz] at hpr
    have HAT := hid (fmul_calls s t)
    rw [← hz] at HAT
    have HSA := hid (HSA0.out z)
    have HSB := hid (HSB0.out z)
    have HPA := hid (HPA0.out z hpr.1 hpr.2.1)
    have HPB := hid (HPB0.out z hpr.1 hpr.2.1)
    have HEA := hid hpr.2.2
    clear hz hpr
    generalize placeL (stepB a z) l = pa at *
    generalize placeL (stepB b z) l2 = pb at *
    generalize stepB a z = ma at *
    generalize stepB b z = mb at *
    have HCP : Hid (checkE pa = 0 ∧ checkE pb = 0) := by rw [← HEA.out.1, ← HEA.out.2]; exact HCK.out t
    go_wp2_with fail
    refine (HAT.out _).mono ?_
    rintro e wm ⟨rfl, hb⟩
    replace hBk := keepBelow hb hBk
    clear hb
    obtain ⟨wo2, rfl⟩ : ∃ wo2 : World, wo2 = wm := ⟨_, rfl⟩
    go_upto_region 13 with fail
    refine wp_region_noPanic ?_
    refine wp_region_U (S := (S2 (fun w' => BdAt w' w.heap.size a A n c ∧ BdAt w' (w.heap.size + 1) b B m d ∧ Below w.heap.size w w' ∧ Below wo2.heap.size wo2 w'))) (T := (fun _ => 0)) (by kernel_rfl) (S2i0 ⟨(keepBd hBk HKA.out).drew, (keepBd hBk HKB.out).drew, (keepBelow hBk hB).drew, (Below.refl _ _).drew⟩) (fun hH => ?_)
    have hWr5 : Weaker (S2 (fun w' => BdAt w' w.heap.size a A n c ∧ BdAt w' (w.heap.size + 1) b B m d ∧ Below w.heap.size w w' ∧ Below wo2.heap.size wo2 w')) := weaker2 _
    refine Ut 0 50 9 0 0 (v := ?vr5_1) rfl hWr5 hH ?hyr5_1 ?_
    case hyr5_1 => (intro w' hSw; replace hSw := S2o0 hSw; (try dsimp only at hSw); have q0 := hSw.1; have q1 := hSw.2.1; have q2 := hSw.2.2.1; have q3 := hSw.2.2.2; obtain ⟨qa0_0, qa0_1, qa0_2, qa0_3, qa0_4, qa0_5, qa0_6, qa0_7, qa0_8, qa0_9, qa0_10, qa0_11, qa0_12, qa0_f⟩ := id q0; obtain ⟨qa1_0, qa1_1, qa1_2, qa1_3, qa1_4, qa1_5, qa1_6, qa1_7, qa1_8, qa1_9, qa1_10, qa1_11, qa1_12, qa1_f⟩ := id q1; go_simp; try (with_reducible rfl))
    simp only [sB, sC]
    refine Ut 1 51 8 0 0 (v := ?vr5_2) rfl hWr5 hH ?hyr5_2 ?_
    case hyr5_2 => (intro w' hSw; clear hSw; go_simp; try (with_reducible rfl))
    simp only [sB, sC]
    refine Ut 4 54 7 0 0 (v := ?vr5_3) rfl hWr5 hH ?hyr5_3 ?_
    case hyr5_3 => (intro w' hSw; replace hSw := S2o0 hSw; (try dsimp only at hSw); have q0 := hSw.1; have q1 := hSw.2.1; have q2 := hSw.2.2.1; have q3 := hSw.2.2.2; obtain ⟨qa0_0, qa0_1, qa0_2, qa0_3, qa0_4, qa0_5, qa0_6, qa0_7, qa0_8, qa0_9, qa0_10, qa0_11, qa0_12, qa0_f⟩ := id q0; obtain ⟨qa1_0, qa1_1, qa1_2, qa1_3, qa1_4, qa1_5, qa1_6, qa1_7, qa1_8, qa1_9, qa1_10, qa1_11, qa1_12, qa1_f⟩ := id q1; go_simp; try (with_reducible rfl))
    simp only [sB, sC]
    refine Ut 5 55 6 0 0 (v := ?vr5_4) rfl hWr5 hH ?hyr5_4 ?_
    case hyr5_4 => (intro w' hSw; clear hSw; go_simp; try (with_reducible rfl))
    simp only [sB, sC]
    refine U1 2 0 rfl (fun K hK => ?_)
    try clear hb
    go_simp
    (go_at_call 29; refine (HSA.out _).mono ?_; rintro e wn ⟨rfl, hb⟩; try replace hp1 := hp1.below hb)
    refine hK.out _ _ ?hsr5_5 (fun hH2 => ?hrr5_5)
    case hsr5_5 => exact S2i0 (by have hG := hH; replace hG := S2o0 hG; (try dsimp only at hG); have q0 := hG.1; have q1 := hG.2.1; have q2 := hG.2.2.1; have q3 := hG.2.2.2; exact ⟨keepBd hb q0, keepBd hb q1, keepBelow hb q2, keepBelow hb q3⟩)
    clear hK K hH
    have hH := hH2
    clear hH2
    try simp only [Act.put, sA, sB, sC]
    refine U1 3 0 rfl (fun K hK => ?_)
    try clear hb
    have hG := hH
    replace hG := S2o0 hG; (try dsimp only at hG); have q0 := hG.1; have q1 := hG.2.1; have q2 := hG.2.2.1; have q3 := hG.2.2.2
    go_simp
    (go_at_call 28; refine (HPA.out _ q2).mono ?_; rintro e wn ⟨A2, n2, c2, rfl, hp1, -, hb⟩)
    refine hK.out _ _ ?hsr5_6 (fun hH2 => ?hrr5_6)
    case hsr5_6 => exact S2i0 (by have hG := hH; replace hG := S2o0 hG; (try dsimp only at hG); have q0 := hG.1; have q1 := hG.2.1; have q2 := hG.2.2.1; have q3 := hG.2.2.2; exact ⟨keepBd hb q0, keepBd hb q1, keepBelow hb q2, keepBelow hb q3⟩)
    clear hK K hH
    have hH := hH2
    clear hH2
    try simp only [Act.put, sA, sB, sC]
    refine U1 6 0 rfl (fun K hK => ?_)
    try clear hb
    go_simp
    (go_at_call 29; refine (HSB.out _).mono ?_; rintro e wn ⟨rfl, hb⟩; try replace hp1 := hp1.below hb)
    refine hK.out _ _ ?hsr5_7 (fun hH2 => ?hrr5_7)
    case hsr5_7 => exact S2i0 (by have hG := hH; replace hG := S2o0 hG; (try dsimp only at hG); have q0 := hG.1; have q1 := hG.2.1; have q2 := hG.2.2.1; have q3 := hG.2.2.2; exact ⟨keepBd hb q0, keepBd hb q1, keepBelow hb q2, keepBelow hb q3⟩)
    clear hK K hH
    have hH := hH2
    clear hH2
    try simp only [Act.put, sA, sB, sC]
    refine U1 7 0 rfl (fun K hK => ?_)
    try clear hb
    have hG := hH
    replace hG := S2o0 hG; (try dsimp only at hG); have q0 := hG.1; have q1 := hG.2.1; have q2 := hG.2.2.1; have q3 := hG.2.2.2
    go_simp
    (go_at_call 28; refine (HPB.out _ q2).mono ?_; rintro e wn ⟨A3, n3, c3, rfl, hp2, -, hb⟩; try replace hp1 := hp1.below hb)
    refine hK.out _ _ ?hsr5_8 (fun hH2 => ?hrr5_8)
    case hsr5_8 => exact S2i0 (by have hG := hH; replace hG := S2o0 hG; (try dsimp only at hG); have q0 := hG.1; have q1 := hG.2.1; have q2 := hG.2.2.1; have q3 := hG.2.2.2; exact ⟨keepBd hb q0, keepBd hb q1, keepBelow hb q2, keepBelow hb q3⟩)
    clear hK K hH
    have hH := hH2
    clear hH2
    try simp only [Act.put, sA, sB, sC]
    refine Ut 8 14 1 0 0 (v := ?vr5_9) rfl hWr5 hH ?hyr5_9 ?_
    case hyr5_9 => (intro w' hSw; clear hSw; go_simp; try (with_reducible rfl))
    simp only [sB, sC]
    refine Ut 9 15 0 0 0 (v := ?vr5_10) rfl hWr5 hH ?hyr5_10 ?_
    case hyr5_10 => (intro w' hSw; clear hSw; go_simp; try (with_reducible rfl))
    simp only [sB, sC]
    refine wpAnyU_done (by kernel_rfl) ?_ _ _
    refine NoPanic.normal ?_
    clear hWr5
    replace hH := S2o0 hH
    (try dsimp only at hH)
    have t0 := hH.1
    have t1 := hH.2.1
    have t2 := hH.2.2.1
    have t3 := hH.2.2.2
    clear t0 t1 hb HSA HSB HPA HPB HAT
    have hBf := t2
    have hBo := keepBelow t3 hBk
    clear t2 t3
    have HMT2 : Hid (mt t = rmeetB pa pb) := by show _ = _; rw [HMT.out, HEA.out.1, HEA.out.2]
    go_wp2_with fail
    refine (rmeet_calls A2 A3 n2 c2 n3 c3 pa pb _ hp1 hp2 HCP.out.1 HCP.out.2).mono ?_
    rintro e w8 ⟨rfl, hb⟩
    replace hBf := keepBelow hb hBf
    replace hBo := keepBelow hb hBo
    have HP1 := hid (hp1.below hb)
    have HP2 := hid (hp2.below hb)
    clear hb hp1 hp2
    have HER := hid (rApart_calls A2 A3 n2 c2 n3 c3 pa pb w8 HP1.out HP2.out HCP.out.1 HCP.out.2)
    have HST : Hid (timeR mt nx (299 - k + 1) t = if mt t = true then (t, true) else if t = 65536 then (0, false) else timeR mt nx (299 - k) (nx t)) := rfl
    cases hm : rmeetB pa pb with
    | true =>
     have HV : Hid (tq = (t, true)) := by show _ = _; rw [HTI.out, HST.out, HMT2.out, hm, if_pos rfl]
     clear HST HTI HER
     go_wp2
     refine bodyPost_ret (v := .tuple #[.int .i64 t, .bool true]) (by simp [results, Tryz.results9, go_sem]) rfl ⟨by rw [HV.out], hBf⟩
    | false =>
     by_cases h1 : t = 65536
     ·have HV : Hid (tq = (0, false)) := by show _ = _; rw [HTI.out, HST.out, HMT2.out, hm, if_neg (by simp), if_pos h1]
      clear HST HTI HER
      go_wp2
      refine bodyPost_ret (v := .tuple #[.int .i64 0, .bool false]) (by simp [results, Tryz.results9, go_sem]) rfl ⟨by rw [HV.out], hBf⟩
     ·have HV : Hid (timeR mt nx (299 - k + 1) t = timeR mt nx (299 - (k + 1) + 1) (nx t)) := by show _ = _; rw [HST.out, HMT2.out, hm, if_neg (by simp), if_neg h1, show 299 - (k + 1) + 1 = 299 - k by omega]
      have hap := HAP.out t
      have HNT := hid (HNX.out t)
      have haq := HAQ.out t
      rw [HEA.out.1, HEA.out.2] at hap HNT haq
      rw [haq] at HER
      clear haq
      generalize apartZ pa pb = ap at *
      have hsb := HSKB.out
      have p0 : 0 ≤ max 0 (ap - sk) ∧ max 0 (ap - sk) ≤ 1099511627776 := by omega
      obtain ⟨qq, hqq⟩ : ∃ q, q = (max 0 (ap - sk) * 65536).tdiv most := ⟨_, rfl⟩
      have hqb : 0 ≤ qq ∧ qq ≤ 72057594037927936 := by
       rw [hqq, Int.tdiv_eq_ediv_of_nonneg (by omega)]
       refine ⟨Int.ediv_nonneg (by omega) (by omega), ?_⟩
       have := Int.ediv_le_self most (a := max 0 (ap - sk) * 65536) (by omega)
       omega
      have vn : ¬ most = 0 := by omega
      rw [← hqq] at HNT
      have HLE : Hid (0 ≤ nx t ∧ nx t ≤ 65536 ∧ 256 * ((k : Int) + 1) ≤ nx t ∧ t < nx t) := by have := HNT.out; show _ ∧ _; omega
      have HTJ : Hid (timeR mt nx 300 0 = timeR mt nx (299 - (k + 1) + 1) (nx t)) := HTO.out.symm.trans (HTI.out.trans HV.out)
      have HQQ := hid hqq
      clear HST HTI HV hap
      go_wp2_with fail
      refine HER.out.mono ?_
      rintro e w9 ⟨rfl, hb⟩
      replace hBo := keepBelow hb hBo
      clear hb HER HP1 HP2 hBf
      obtain ⟨by_, hby⟩ : ∃ z, z = max 256 qq := ⟨_, rfl⟩
      have HBY := hid hby
      have hbyb : 256 ≤ by_ ∧ by_ ≤ 72057594037927936 := by omega
      have v4 : IntKind.i64.wrap (t + by_) = t + by_ := IntWalk.i64_in _ (by omega)
      have HNT2 : Hid (nx t = min 65536 (t + by_)) := by have := HNT.out; show _ = _; rw [HBY.out]; exact this
      clear hby HNT
      by_cases hsk : sk < ap
      ·have hmx : max 0 (ap - sk) = ap - sk := by omega
       rw [hmx] at hqq
       have hgt : ap > sk := hsk
       have v1 : IntKind.i64.wrap (ap - sk) = ap - sk := IntWalk.i64_in _ (by omega)
       have v2 : IntKind.i64.wrap ((ap - sk) * 65536) = (ap - sk) * 65536 := IntWalk.i64_in _ (by omega)
       have v3 : IntKind.i64.wrap (((ap - sk) * 65536).tdiv most) = qq := by rw [← hqq]; exact IntWalk.i64_in _ (by omega)
       clear hqq hmx HQQ
       by_cases hq2 : 256 < qq
       ·have he : by_ = qq := by have := HBY.out; omega
        have hq3 : qq > 256 := hq2
        rw [he] at v4 HNT2 hbyb
        clear he HBY
        by_cases ho : t + qq > 65536
        ·have hn : nx t = 65536 := by have := HNT2.out; omega
         have HN := hid hn
         clear hn HNT2
         go_wp2
         go_roundw
         case rel => (first | exact ⟨nx t, k + 1, by rw [HN.out], by go_num, ⟨HLE.out.1, HLE.out.2.1⟩, by have := HLE.out; omega, HTJ.out, by have := HLE.out; omega, hBo⟩ | ((repeat apply Exists.intro); exact ⟨⟨nx t, k + 1, by rw [HN.out], by go_num, ⟨HLE.out.1, HLE.out.2.1⟩, by have := HLE.out; omega, HTJ.out, by have := HLE.out; omega, hBo⟩, rfl⟩))
         case measure => simp [intOf] <;> omega
        ·have hn : nx t = t + qq := by have := HNT2.out; omega
         have HN := hid hn
         clear hn HNT2
         go_wp2
         go_roundw
         case rel => (first | exact ⟨nx t, k + 1, by rw [HN.out], by go_num, ⟨HLE.out.1, HLE.out.2.1⟩, by have := HLE.out; omega, HTJ.out, by have := HLE.out; omega, hBo⟩ | ((repeat apply Exists.intro); exact ⟨⟨nx t, k + 1, by rw [HN.out], by go_num, ⟨HLE.out.1, HLE.out.2.1⟩, by have := HLE.out; omega, HTJ.out, by have := HLE.out; omega, hBo⟩, rfl⟩))
         case measure => simp [intOf] <;> omega
       ·have he : by_ = 256 := by have := HBY.out; omega
        have hq3 : ¬ qq > 256 := hq2
        rw [he] at v4 HNT2 hbyb
        clear he HBY
        by_cases ho : t + 256 > 65536
        ·have hn : nx t = 65536 := by have := HNT2.out; omega
         have HN := hid hn
         clear hn HNT2
         go_wp2
         go_roundw
         case rel => (first | exact ⟨nx t, k + 1, by rw [HN.out], by go_num, ⟨HLE.out.1, HLE.out.2.1⟩, by have := HLE.out; omega, HTJ.out, by have := HLE.out; omega, hBo⟩ | ((repeat apply Exists.intro); exact ⟨⟨nx t, k + 1, by rw [HN.out], by go_num, ⟨HLE.out.1, HLE.out.2.1⟩, by have := HLE.out; omega, HTJ.out, by have := HLE.out; omega, hBo⟩, rfl⟩))
         case measure => simp [intOf] <;> omega
        ·have hn : nx t = t + 256 := by have := HNT2.out; omega
         have HN := hid hn
         clear hn HNT2
         go_wp2
         go_roundw
         case rel => (first | exact ⟨nx t, k + 1, by rw [HN.out], by go_num, ⟨HLE.out.1, HLE.out.2.1⟩, by have := HLE.out; omega, HTJ.out, by have := HLE.out; omega, hBo⟩ | ((repeat apply Exists.intro); exact ⟨⟨nx t, k + 1, by rw [HN.out], by go_num, ⟨HLE.out.1, HLE.out.2.1⟩, by have := HLE.out; omega, HTJ.out, by have := HLE.out; omega, hBo⟩, rfl⟩))
         case measure => simp [intOf] <;> omega
      ·have hgt : ¬ ap > sk := hsk
       have hq0 : qq = 0 := by rw [hqq, show max 0 (ap - sk) = 0 by omega, Int.zero_mul]; exact Int.zero_tdiv _
       have he : by_ = 256 := by have := HBY.out; omega
       rw [he] at v4 HNT2 hbyb
       clear he HBY hqq HQQ hq0
       by_cases ho : t + 256 > 65536
       ·have hn : nx t = 65536 := by have := HNT2.out; omega
        have HN := hid hn
        clear hn HNT2
        go_wp2
        go_roundw
        case rel => exact ⟨_, _, _, _, _, _, _, _, _, ⟨nx t, by rw [HN.out], k + 1, by go_num, ⟨HLE.out.1, HLE.out.2.1⟩, by have := HLE.out; omega, HTJ.out, by have := HLE.out; omega⟩, rfl, rfl, rfl, rfl, rfl, rfl, rfl, rfl, rfl⟩
        case measure => simp [intOf] <;> omega
       ·have hn : nx t = t + 256 := by have := HNT2.out; omega
        have HN := hid hn
        clear hn HNT2
        go_wp2
        go_roundw
        case rel => exact ⟨_, _, _, _, _, _, _, _, _, ⟨nx t, by rw [HN.out], k + 1, by go_num, ⟨HLE.out.1, HLE.out.2.1⟩, by have := HLE.out; omega, HTJ.out, by have := HLE.out; omega⟩, rfl, rfl, rfl, rfl, rfl, rfl, rfl, rfl, rfl⟩
        case measure => simp [intOf] <;> omega
end
end Go.Proofs.YtilncglnojjlaaaGreat
