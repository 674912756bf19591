/- Parts of a proof: contracts and laws. -/
import Derived.Test.YtilncglnojjlaaaGreatG17
import Derived.Test.YtilncglnojjlaaaGreatG26
import Derived.Test.YtilncglnojjlaaaGreatG29
import Derived.Test.YtilncglnojjlaaaGreatG04
namespace Go.Proofs.YtilncglnojjlaaaGreat
section
set_option linter.unusedVariables false
set_option linter.unusedSimpArgs false
open Go.RowKit
theorem clampN_in {n m : Int} (h : 0 ≤ m) : -m ≤ clampN n m ∧ clampN n m ≤ m := by unfold clampN; omega
theorem angF_in (a : Int) : 0 ≤ angF a ∧ angF a ≤ 65535 := by
 unfold angF
 have h1 := Int.tmod_lt_of_pos a (show (0 : Int) < 65536 by omega)
 have h2 := Int.lt_tmod_of_pos a (show (0 : Int) < 65536 by omega)
 have h3 := Int.tmod_nonneg (a := a.tmod 65536 + 65536) 65536 (by omega)
 have h4 := Int.tmod_lt_of_pos (a.tmod 65536 + 65536) (show (0 : Int) < 65536 by omega)
 omega
theorem moveB_ok {b : Bd} {l : List V} {s : Int} (h : bodyE b l = 0) : bodyE (moveB b l s) l = 0 := by
 unfold moveB
 by_cases c : bodyE b l ≠ 0 ∨ b.mass = 0 ∨ b.asleep = true ∨ s < 0 ∨ 65536 < s
 ·rw [if_pos c]; exact h
 ·rw [if_neg c]
  obtain ⟨h1, h2⟩ := bodyE_zero h
  unfold bodyE
  rw [if_neg (by simp [h1])]
  have w1 : withinB 58982400 (clampN (b.px + mulF b.vx s) 58982400) (clampN (b.py + mulF b.vy s) 58982400) = true := withinB_iff.2 (by
   have := clampN_in (n := b.px + mulF b.vx s) (m := 58982400) (by omega)
   have := clampN_in (n := b.py + mulF b.vy s) (m := 58982400) (by omega)
   omega)
  have i1 : inB (angF (b.ang + mulF b.spin s)) 0 65535 = true := inB_iff.2 (angF_in _)
  unfold numE at h2 ⊢
  by_cases c1 : (withinB 58982400 b.px b.py && withinB 268435456 b.vx b.vy && inB b.spin (-16777216) 16777216 && inB b.ang 0 65535) = true
  ·rw [if_pos c1] at h2
   simp only [Bool.and_eq_true] at c1
   dsimp only
   rw [if_pos (by simp only [w1, i1, c1.1.1.2, c1.1.2, Bool.and_self])]
   exact h2
  ·rw [if_neg c1] at h2; cases h2
theorem clampF_nn {a : Int} (h : 0 ≤ a) : 0 ≤ clampF a := by
 unfold clampF
 split
 ·omega
 ·split <;> omega
theorem mulF_nn {a b : Int} (ha : 0 ≤ a) (hb : 0 ≤ b) : 0 ≤ mulF a b := by
 unfold mulF mdF
 split
 ·omega
 ·refine clampF_nn ?_
  have h1 := Int.mul_nonneg (clampF_nn ha) (clampF_nn hb)
  rw [show clampF 65536 = 65536 from rfl]
  unfold rnd
  rw [if_neg (by omega)]
  exact Int.ediv_nonneg (by omega) (by omega)
theorem mulF_part {s t : Int} (hs : 0 ≤ s ∧ s ≤ 65536) (ht : 0 ≤ t ∧ t ≤ 65536) : 0 ≤ mulF s t ∧ mulF s t ≤ 65536 := by
 refine ⟨mulF_nn hs.1 ht.1, ?_⟩
 rw [mulF_rnd (by omega) (by omega)]
 have := rnd_specF (W := s * t) (n := 65536) (by omega)
 have h1 := mul_bd (x := s) (y := t) (M := 65536) (N := 65536) (by omega) (by omega) (by omega) (by omega)
 omega
theorem turnB_nn (b : Bd) (l : List V) {s : Int} (hs : 0 ≤ s) : 0 ≤ turnB b l s := by
 unfold turnB
 split
 ·omega
 ·have := mulF_nn (mulF_nn (mulF_nn (show 0 ≤ max b.spin (-b.spin) by omega) (show (0 : Int) ≤ 411775 by omega)) (farB_bd b l).1) hs
  omega
theorem rbdZ_bd (a : Bd) (l : List V) (b : Bd) (m : List V) {s : Int} (hs : 0 ≤ s) : 8 ≤ rbdZ a l b m s ∧ rbdZ a l b m s ≤ 4000000000000 := by
 unfold rbdZ
 have h1 := turnB_nn a l hs
 have h2 := turnB_nn b m hs
 have h3 := mulF_nn (a := lenQ a.vx a.vy + lenQ b.vx b.vy + 4) (by have := (lenQ_bd a.vx a.vy).1; have := (lenQ_bd b.vx b.vy).1; omega) hs
 have h4 := mulF_bd (lenQ a.vx a.vy + lenQ b.vx b.vy + 4) s
 have h5 := turnB_bd a l s
 have h6 := turnB_bd b m s
 omega

def atL (a : Bd) (l : List V) (s t : Int) : List V := placeL (moveB a l (mulF s t)) l
def slkZ (a : Bd) (l : List V) (b : Bd) (m : List V) : Int := 16 + 2 * (rbdZ a l b m 65536).tdiv 65536 + (14 * farB a l).tdiv 65536 + (14 * farB b m).tdiv 65536
def tmMeet (a : Bd) (l : List V) (b : Bd) (m : List V) (s t : Int) : Bool := nmeetB (atL a l s t) (atL b m s t)
def tmNext (a : Bd) (l : List V) (b : Bd) (m : List V) (s t : Int) : Int := min 65536 (t + max 256 ((max 0 (apartZ (atL a l s t) (atL b m s t) - slkZ a l b m) * 65536).tdiv (rbdZ a l b m s)))
def timeR (mt : Int → Bool) (nx : Int → Int) : Nat → Int → Int × Bool
 | 0, t => (t, true)
 | f + 1, t => if mt t = true then (t, true) else if t = 65536 then (0, false) else timeR mt nx f (nx t)
def timeO (a : Bd) (l : List V) (b : Bd) (m : List V) (s : Int) : Int × Bool := timeR (tmMeet a l b m s) (tmNext a l b m s) 300 0
def timeV (a : Bd) (l : List V) (b : Bd) (m : List V) (s : Int) : Value := if rbdE a l b m s ≠ 0 then .tuple #[.int .i64 0, .bool false, .int .i64 (rbdE a l b m s)] else .tuple #[.int .i64 (timeO a l b m s).1, .bool (timeO a l b m s).2, .int .i64 0]
theorem apartZ_bd {p q : List V} (hp : checkE p = 0) (hq : checkE q = 0) : 0 ≤ apartZ p q ∧ apartZ p q ≤ 1099511627776 := by
 unfold apartZ
 have hw := (minus_bd p q).1
 split
 ·split
  ·omega
  ·generalize minusL p q = D at *
   have key : ∀ k, k ≤ D.length → 0 ≤ farTo D k ∧ farTo D k ≤ 1073741824 := fun k => by
    induction k with
    | zero => intro _; show 0 ≤ (1073741824 : Int) ∧ (1073741824 : Int) ≤ 1073741824; omega
    | succ k ih =>
     intro hk
     obtain ⟨i1, i2⟩ := ih (by omega)
     obtain ⟨a1, a2, a3, a4⟩ := withinB_iff.1 (allWithin_at hw (show k < D.length by omega))
     obtain ⟨b1, b2, b3, b4⟩ := withinB_iff.1 (allWithin_at hw (Nat.mod_lt (k + 1) (show 0 < D.length by omega)))
     have hf := farZ_bd (x1 := px D k) (y1 := py D k) (x2 := px D ((k + 1) % D.length)) (y2 := py D ((k + 1) % D.length)) ⟨a1, a2⟩ ⟨a3, a4⟩ ⟨b1, b2⟩ ⟨b3, b4⟩
     show 0 ≤ (if _ < farTo D k then _ else farTo D k) ∧ (if _ < farTo D k then _ else farTo D k) ≤ _
     split <;> omega
   have := key _ (Nat.le_refl _)
   omega
 ·omega
set_option maxRecDepth 100000 in
set_option maxHeartbeats 8000000 in
theorem time_calls (a b : Bd) (A B : Option Addr) (n c m d : Nat) (l l2 : List V) (s : Int) (w : World) (hS : Sl w A n c l) (hM : Sl w B m d l2) (hl : l.length ≤ 8796093022208) (hl2 : l2.length ≤ 8796093022208) : Calls Tryz.prog 6 #[bodyV a A n c, bodyV b B m d, .int .i64 s] w (Ret (timeV a l b l2 s) w) := by
 obtain ⟨W, hW⟩ : ∃ W, W = (w.alloc (.cells #[.int .i64 a.px, .int .i64 a.py, .int .i64 a.vx, .int .i64 a.vy, .int .i64 a.ang, .int .i64 a.spin, .int .i64 a.mass, .int .i64 a.iner, .int .i64 a.bounce, .int .i64 a.rub, .slice A n c, .bool a.asleep, .int .i64 a.calm] 26)).alloc (.cells #[.int .i64 b.px, .int .i64 b.py, .int .i64 b.vx, .int .i64 b.vy, .int .i64 b.ang, .int .i64 b.spin, .int .i64 b.mass, .int .i64 b.iner, .int .i64 b.bounce, .int .i64 b.rub, .slice B m d, .bool b.asleep, .int .i64 b.calm] 26) := ⟨_, rfl⟩
 have HKA : Hid (BdAt W w.heap.size a A n c) := by show BdAt _ _ _ _ _ _; rw [hW]; exact (BdAt.here w a A n c _).alloc _
 have HKB : Hid (BdAt W (w.heap.size + 1) b B m d) := by show BdAt _ _ _ _ _ _; rw [hW]; have := BdAt.here (w.alloc (.cells #[.int .i64 a.px, .int .i64 a.py, .int .i64 a.vx, .int .i64 a.vy, .int .i64 a.ang, .int .i64 a.spin, .int .i64 a.mass, .int .i64 a.iner, .int .i64 a.bounce, .int .i64 a.rub, .slice A n c, .bool a.asleep, .int .i64 a.calm] 26)) b B m d 26; simpa using this
 have hB : Below w.heap.size w W := by rw [hW]; go_grown
 have HBO := hid (fun (z : Int) (w' : World) (hb : Below w.heap.size w w') => bound_calls a b A B n c m d l l2 z w' (hS.below hb) (hM.below hb))
 have HFA := hid (fun (w' : World) (hb : Below w.heap.size w w') => reachFar_calls a A n c l w' (hS.below hb))
 have HFB := hid (fun (w' : World) (hb : Below w.heap.size w w') => reachFar_calls b B m d l2 w' (hM.below hb))
 have HMA0 := hid (fun (z : Int) (w' : World) (hb : Below w.heap.size w w') => move_calls a A n c l z w' (hS.below hb) hl)
 have HMB0 := hid (fun (z : Int) (w' : World) (hb : Below w.heap.size w w') => move_calls b B m d l2 z w' (hM.below hb) hl2)
 clear hS hM hl hl2
 obtain ⟨k0, k1, k2, k3, k4, k5, k6, k7, k8, k9, k10, k11, k12, -⟩ := HKA.out
 obtain ⟨m0, m1, m2, m3, m4, m5, m6, m7, m8, m9, m10, m11, m12, -⟩ := HKB.out
 have hlw : w.heap.size + 1 < W.heap.size := HKB.out.lt
 go_enter Tryz.func6, Tryz.ntmps6
 go_upto_region 1 with fail
 rw [← hW]
 clear hW
 go_wp2_with fail
 refine (HBO.out s _ hB).mono ?_
 rintro e w1 ⟨rfl, hb⟩
 replace hB := keepBelow hb hB
 replace HKA := hid (keepBd hb HKA.out)
 replace HKB := hid (keepBd hb HKB.out)
 clear hb k0 k1 k2 k3 k4 k5 k6 k7 k8 k9 k10 k11 k12 m0 m1 m2 m3 m4 m5 m6 m7 m8 m9 m10 m11 m12 hlw
 by_cases hE : rbdE a l b l2 s = 0
 case neg =>
  have HR : Hid (timeV a l b l2 s = .tuple #[.int .i64 0, .bool false, .int .i64 (rbdE a l b l2 s)]) := by show _ = _; unfold timeV; rw [if_pos hE]
  have HV : Hid (rbdV a l b l2 s = .tuple #[.int .i64 0, .int .i64 (rbdE a l b l2 s)]) := by show _ = _; unfold rbdV; rw [if_pos hE]
  rw [HV.out]
  have hne : (rbdE a l b l2 s != 0) = true := by simp [hE]
  clear HV
  generalize rbdE a l b l2 s = z at *
  go_wp2
  refine bodyPost_ret (v := .tuple #[.int .i64 0, .bool false, .int .i64 z]) (by simp [results, Tryz.results6, go_sem]) rfl ⟨by rw [HR.out], hB⟩
 have HR : Hid (timeV a l b l2 s = .tuple #[.int .i64 (timeO a l b l2 s).1, .bool (timeO a l b l2 s).2, .int .i64 0]) := by show _ = _; unfold timeV; rw [if_neg (by simp [hE])]
 have HV : Hid (rbdV a l b l2 s = .tuple #[.int .i64 (rbdZ a l b l2 s), .int .i64 0]) := by show _ = _; unfold rbdV; rw [if_neg (by simp [hE])]
 obtain ⟨hea, heb, hs0⟩ : bodyE a l = 0 ∧ bodyE b l2 = 0 ∧ (0 ≤ s ∧ s ≤ 65536) := by
  unfold rbdE at hE
  by_cases h1 : bodyE a l = 0
  ·rw [if_neg (by simp [h1])] at hE
   by_cases h2 : bodyE b l2 = 0
   ·rw [if_neg (by simp [h2])] at hE
    by_cases h3 : s < 0 ∨ 65536 < s
    ·rw [if_pos h3] at hE; cases hE
    ·exact ⟨h1, h2, by omega⟩
   ·rw [if_pos h2] at hE; exact absurd hE h2
  ·rw [if_pos h1] at hE; exact absurd hE h1
 have HV2 : Hid (rbdV a l b l2 65536 = .tuple #[.int .i64 (rbdZ a l b l2 65536), .int .i64 0]) := by
  have e2 : rbdE a l b l2 65536 = 0 := by unfold rbdE; rw [if_neg (by simp [hea]), if_neg (by simp [heb]), if_neg (by omega)]
  show _ = _
  unfold rbdV
  rw [if_neg (by simp [e2])]
 rw [HV.out]
 have z1 := rbdZ_bd a l b l2 hs0.1
 have z2 := rbdZ_bd a l b l2 (s := 65536) (by omega)
 have f1 := farB_bd a l
 have f2 := farB_bd b l2
 have HSK : Hid (slkZ a l b l2 = 16 + 2 * (rbdZ a l b l2 65536).tdiv 65536 + (14 * farB a l).tdiv 65536 + (14 * farB b l2).tdiv 65536) := rfl
 have HNX : Hid (∀ t, tmNext a l b l2 s t = min 65536 (t + max 256 ((max 0 (apartZ (atL a l s t) (atL b l2 s t) - slkZ a l b l2) * 65536).tdiv (rbdZ a l b l2 s)))) := fun t => rfl
 have HPA0 : Hid (∀ (z : Int) (A1 : Option Addr) (n1 c1 : Nat) (w' : World), Sl w' A1 n1 c1 l → Calls Tryz.prog 18 #[bodyV (moveB a l z) A1 n1 c1] w' (RetPl (placeL (moveB a l z) l) w')) := fun z A1 n1 c1 w' hs => by
  have := bplace_calls (moveB a l z) A1 n1 c1 l w' hs
  rwa [show placeR (moveB a l z) l = placeL (moveB a l z) l by unfold placeR; rw [if_neg (by simp [moveB_ok hea])]] at this
 have HPB0 : Hid (∀ (z : Int) (A1 : Option Addr) (n1 c1 : Nat) (w' : World), Sl w' A1 n1 c1 l2 → Calls Tryz.prog 18 #[bodyV (moveB b l2 z) A1 n1 c1] w' (RetPl (placeL (moveB b l2 z) l2) w')) := fun z A1 n1 c1 w' hs => by
  have := bplace_calls (moveB b l2 z) A1 n1 c1 l2 w' hs
  rwa [show placeR (moveB b l2 z) l2 = placeL (moveB b l2 z) l2 by unfold placeR; rw [if_neg (by simp [moveB_ok heb])]] at this
 have HAP : Hid (∀ t, 0 ≤ apartZ (atL a l s t) (atL b l2 s t) ∧ apartZ (atL a l s t) (atL b l2 s t) ≤ 1099511627776) := fun t => apartZ_bd (placed_ok (moveB_ok hea)) (placed_ok (moveB_ok heb))
 have HATL : Hid (∀ t, atL a l s t = placeL (moveB a l (mulF s t)) l ∧ atL b l2 s t = placeL (moveB b l2 (mulF s t)) l2) := fun t => ⟨rfl, rfl⟩
 have HMT : Hid (∀ t, tmMeet a l b l2 s t = nmeetB (atL a l s t) (atL b l2 s t)) := fun t => rfl
 have HTO : Hid (timeO a l b l2 s = timeR (tmMeet a l b l2 s) (tmNext a l b l2 s) 300 0) := rfl
 clear hE HV hea heb
 generalize slkZ a l b l2 = sk at *
 generalize tmNext a l b l2 s = nx at *
 generalize tmMeet a l b l2 s = mt at *
 generalize timeO a l b l2 s = tq at *
 generalize rbdZ a l b l2 s = most at *
 obtain ⟨k0, k1, k2, k3, k4, k5, k6, k7, k8, k9, k10, k11, k12, -⟩ := HKA.out
 obtain ⟨m0, m1, m2, m3, m4, m5, m6, m7, m8, m9, m10, m11, m12, -⟩ := HKB.out
 go_wp2_with fail
 refine (HBO.out 65536 _ hB).mono ?_
 rw [HV2.out]
 rintro e w2 ⟨rfl, hb⟩
 replace hB := keepBelow hb hB
 replace HKA := hid (keepBd hb HKA.out)
 replace HKB := hid (keepBd hb HKB.out)
 clear hb HV2 HBO k0 k1 k2 k3 k4 k5 k6 k7 k8 k9 k10 k11 k12 m0 m1 m2 m3 m4 m5 m6 m7 m8 m9 m10 m11 m12
 have HM2 := hid z2
 generalize rbdZ a l b l2 65536 = mz at *
 have HQA : Hid (0 ≤ farB a l ∧ farB a l ≤ 1099511627778) := f1
 generalize farB a l = fa at *
 generalize farB b l2 = fb at *
 obtain ⟨q1, hq1⟩ : ∃ q, q = mz.tdiv 65536 := ⟨_, rfl⟩
 obtain ⟨q2, hq2⟩ : ∃ q, q = (14 * fa).tdiv 65536 := ⟨_, rfl⟩
 obtain ⟨q3, hq3⟩ : ∃ q, q = (14 * fb).tdiv 65536 := ⟨_, rfl⟩
 have e1 : q1 = mz / 65536 := by rw [hq1, Int.tdiv_eq_ediv_of_nonneg (by omega)]
 have e2 : q2 = 14 * fa / 65536 := by rw [hq2, Int.tdiv_eq_ediv_of_nonneg (by omega)]
 have e3 : q3 = 14 * fb / 65536 := by rw [hq3, Int.tdiv_eq_ediv_of_nonneg (by omega)]
 have b1 : 0 ≤ q1 ∧ q1 ≤ 100000000 := by omega
 have b2 : 0 ≤ q2 ∧ q2 ≤ 1000000000 := by omega
 have b3 : 0 ≤ q3 ∧ q3 ≤ 1000000000 := by omega
 clear e1 e2 e3
 have HSK2 : Hid (16 + 2 * q1 + q2 + q3 = sk) := by show _ = _; rw [HSK.out, hq1, hq2, hq3]
 have HSB : Hid (0 ≤ sk ∧ sk ≤ 10000000000) := by have := HSK2.out; show _ ∧ _; omega
 have w1' : IntKind.i64.wrap (mz.tdiv 65536) = q1 := by rw [← hq1]; exact IntWalk.i64_in _ (by omega)
 have w2' : IntKind.i64.wrap (2 * q1) = 2 * q1 := IntWalk.i64_in _ (by omega)
 have w3' : IntKind.i64.wrap (16 + 2 * q1) = 16 + 2 * q1 := IntWalk.i64_in _ (by omega)
 have w4' : IntKind.i64.wrap (14 * fa) = 14 * fa := IntWalk.i64_in _ (by omega)
 have w5' : IntKind.i64.wrap ((14 * fa).tdiv 65536) = q2 := by rw [← hq2]; exact IntWalk.i64_in _ (by omega)
 have w6' : IntKind.i64.wrap (16 + 2 * q1 + q2) = 16 + 2 * q1 + q2 := IntWalk.i64_in _ (by omega)
 have w7' : IntKind.i64.wrap (14 * fb) = 14 * fb := IntWalk.i64_in _ (by omega)
 have w8' : IntKind.i64.wrap ((14 * fb).tdiv 65536) = q3 := by rw [← hq3]; exact IntWalk.i64_in _ (by omega)
 have w9' : IntKind.i64.wrap (16 + 2 * q1 + q2 + q3) = 16 + 2 * q1 + q2 + q3 := IntWalk.i64_in _ (by omega)
 clear hq1 hq2 hq3 b1 b2 b3 z2 f1 f2 HSK HQA HM2
 go_upto_region 5 with fail
 refine wp_region_noPanic ?_
 refine wp_region_U (S := (S2 (fun w' => BdAt w' w.heap.size a A n c ∧ BdAt w' (w.heap.size + 1) b B m d ∧ Below w.heap.size w w'))) (T := (fun _ => 0)) (by kernel_rfl) (S2i0 ⟨HKA.out.drew, HKB.out.drew, hB.drew⟩) (fun hH => ?_)
 have hWr3 : Weaker (S2 (fun w' => BdAt w' w.heap.size a A n c ∧ BdAt w' (w.heap.size + 1) b B m d ∧ Below w.heap.size w w')) := weaker2 _
 refine Ut 0 37 14 0 0 (v := ?vr3_1) rfl hWr3 hH ?hyr3_1 ?_
 case hyr3_1 => (intro w' hSw; clear hSw; go_simp; try (with_reducible rfl))
 simp only [sB, sC]
 refine Ut 1 38 13 0 0 (v := ?vr3_2) rfl hWr3 hH ?hyr3_2 ?_
 case hyr3_2 => (intro w' hSw; clear hSw; go_simp; try (with_reducible rfl))
 simp only [sB, sC]
 refine Ut 2 39 12 0 0 (v := ?vr3_3) rfl hWr3 hH ?hyr3_3 ?_
 case hyr3_3 => (intro w' hSw; clear hSw; go_simp; try (with_reducible rfl))
 simp only [sB, sC]
 refine Ut 3 40 11 0 0 (v := ?vr3_4) rfl hWr3 hH ?hyr3_4 ?_
 case hyr3_4 => (intro w' hSw; clear hSw; go_simp; try (with_reducible rfl))
 simp only [sB, sC]
 refine Ut 4 41 10 0 0 (v := ?vr3_5) rfl hWr3 hH ?hyr3_5 ?_
 case hyr3_5 => (intro w' hSw; replace hSw := S2o0 hSw; (try dsimp only at hSw); have q0 := hSw.1; have q1 := hSw.2.1; have q2 := hSw.2.2; obtain ⟨qa0_0, qa0_1, qa0_2, qa0_3, qa0_4, qa0_5, qa0_6, qa0_7, qa0_8, qa0_9, qa0_10, qa0_11, qa0_12, qa0_f⟩ := id q0; obtain ⟨qa1_0, qa1_1, qa1_2, qa1_3, qa1_4, qa1_5, qa1_6, qa1_7, qa1_8, qa1_9, qa1_10, qa1_11, qa1_12, qa1_f⟩ := id q1; go_simp; try (with_reducible rfl))
 simp only [sB, sC]
 refine Ut 9 46 9 0 0 (v := ?vr3_6) rfl hWr3 hH ?hyr3_6 ?_
 case hyr3_6 => (intro w' hSw; replace hSw := S2o0 hSw; (try dsimp only at hSw); have q0 := hSw.1; have q1 := hSw.2.1; have q2 := hSw.2.2; obtain ⟨qa0_0, qa0_1, qa0_2, qa0_3, qa0_4, qa0_5, qa0_6, qa0_7, qa0_8, qa0_9, qa0_10, qa0_11, qa0_12, qa0_f⟩ := id q0; obtain ⟨qa1_0, qa1_1, qa1_2, qa1_3, qa1_4, qa1_5, qa1_6, qa1_7, qa1_8, qa1_9, qa1_10, qa1_11, qa1_12, qa1_f⟩ := id q1; go_simp; try (with_reducible rfl))
 simp only [sB, sC]
 refine U1 5 0 rfl (fun K hK => ?_)
 try clear hb
 have hG := hH
 replace hG := S2o0 hG; (try dsimp only at hG); have q0 := hG.1; have q1 := hG.2.1; have q2 := hG.2.2
 go_simp
 (go_at_call 17; refine (HFA.out _ q2).mono ?_; rintro e wn ⟨rfl, hb⟩)
 refine hK.out _ _ ?hsr3_7 (fun hH2 => ?hrr3_7)
 case hsr3_7 => exact S2i0 (by have hG := hH; replace hG := S2o0 hG; (try dsimp only at hG); have q0 := hG.1; have q1 := hG.2.1; have q2 := hG.2.2; exact ⟨keepBd hb q0, keepBd hb q1, keepBelow hb q2⟩)
 clear hK K hH
 have hH := hH2
 clear hH2
 try simp only [Act.put, sA, sB, sC]
 refine Ut 6 43 7 0 0 (v := ?vr3_8) rfl hWr3 hH ?hyr3_8 ?_
 case hyr3_8 => (intro w' hSw; clear hSw; go_simp; try (with_reducible rfl))
 simp only [sB, sC]
 refine Ut 7 44 6 0 0 (v := ?vr3_9) rfl hWr3 hH ?hyr3_9 ?_
 case hyr3_9 => (intro w' hSw; clear hSw; go_simp; try (with_reducible rfl))
 simp only [sB, sC]
 refine Ut 8 45 5 0 0 (v := ?vr3_10) rfl hWr3 hH ?hyr3_10 ?_
 case hyr3_10 => (intro w' hSw; clear hSw; go_simp; try (with_reducible rfl))
 simp only [sB, sC]
 refine U1 10 0 rfl (fun K hK => ?_)
 try clear hb
 have hG := hH
 replace hG := S2o0 hG; (try dsimp only at hG); have q0 := hG.1; have q1 := hG.2.1; have q2 := hG.2.2
 go_simp
 (go_at_call 17; refine (HFB.out _ q2).mono ?_; rintro e wn ⟨rfl, hb⟩)
 refine hK.out _ _ ?hsr3_11 (fun hH2 => ?hrr3_11)
 case hsr3_11 => exact S2i0 (by have hG := hH; replace hG := S2o0 hG; (try dsimp only at hG); have q0 := hG.1; have q1 := hG.2.1; have q2 := hG.2.2; exact ⟨keepBd hb q0, keepBd hb q1, keepBelow hb q2⟩)
 clear hK K hH
 have hH := hH2
 clear hH2
 try simp only [Act.put, sA, sB, sC]
 refine Ut 11 48 3 0 0 (v := ?vr3_12) rfl hWr3 hH ?hyr3_12 ?_
 case hyr3_12 => (intro w' hSw; clear hSw; go_simp; try (with_reducible rfl))
 simp only [sB, sC]
 refine Ut 12 49 2 0 0 (v := ?vr3_13) rfl hWr3 hH ?hyr3_13 ?_
 case hyr3_13 => (intro w' hSw; clear hSw; go_simp; try (with_reducible rfl))
 simp only [sB, sC]
 refine Ut 13 50 1 0 0 (v := ?vr3_14) rfl hWr3 hH ?hyr3_14 ?_
 case hyr3_14 => (intro w' hSw; clear hSw; go_simp; try (with_reducible rfl))
 simp only [sB, sC]
 refine Ut 14 13 0 0 0 (v := ?vr3_15) rfl hWr3 hH ?hyr3_15 ?_
 case hyr3_15 => (intro w' hSw; clear hSw; go_simp; try (with_reducible rfl))
 simp only [sB, sC]
 refine wpAnyU_done (by kernel_rfl) ?_ _ _
 refine NoPanic.normal ?_
 clear hWr3
 replace hH := S2o0 hH
 (try dsimp only at hH)
 have t0 := hH.1
 have t1 := hH.2.1
 have t2 := hH.2.2
 rw [HSK2.out]
 clear HSK2 w1' w2' w3' w4' w5' w6' w7' w8' w9' HFA HFB HKA HKB hB hb
 have HKA := hid t0
 have HKB := hid t1
 have hB := t2
 clear t0 t1 t2
 obtain ⟨wb, hwb⟩ : ∃ wb : World, wb = wn := ⟨_, rfl⟩
 rw [← hwb] at HKA HKB hB ⊢
 clear hwb
 go_wp2
 go_loopw [14] (fun i wr => ∃ (t : Int) (f : Nat), i = .int .i64 t ∧ (0 ≤ t ∧ t ≤ 65536) ∧ timeR mt nx 300 0 = timeR mt nx (f + 1) t ∧ 65536 - t ≤ 256 * (f : Int) ∧ Below wb.heap.size wb wr) (fun i _ => (65536 - intOf i).toNat)
 case atStart => exact ⟨0, 299, rfl, by omega, rfl, by omega, Below.refl _ _⟩
 case round =>
  obtain ⟨t, f, rfl, ht, hti, hf, hBk⟩ := hrel
  obtain ⟨wo, rfl⟩ : ∃ wo : World, wo = wr := ⟨_, rfl⟩
  have HTI := hid (HTO.out.trans hti)
  clear hti
  obtain ⟨z, hz⟩ : ∃ z, z = mulF s t := ⟨_, rfl⟩
  have HAT : Hid (mulF s t = z) := hz.symm
  have HMA := hid (HMA0.out z)
  have HMB := hid (HMB0.out z)
  have HPA := hid (HPA0.out z)
  have HPB := hid (HPB0.out z)
  have HEA : Hid (atL a l s t = placeL (moveB a l z) l ∧ atL b l2 s t = placeL (moveB b l2 z) l2) := by have := HATL.out t; rw [hz]; exact this
  clear hz
  generalize placeL (moveB a l z) l = pa at *
  generalize placeL (moveB b l2 z) l2 = pb at *
  generalize moveB a l z = ma at *
  generalize moveB b l2 z = mb at *
  go_upto_region 7 with fail
  refine wp_region_noPanic ?_
  refine wp_region_U (S := (S2 (fun w' => BdAt w' w.heap.size a A n c ∧ BdAt w' (w.heap.size + 1) b B m d ∧ Below w.heap.size w w' ∧ Below wo.heap.size wo w'))) (T := (fun _ => 0)) (by kernel_rfl) (S2i0 ⟨(keepBd hBk HKA.out).drew, (keepBd hBk HKB.out).drew, (keepBelow hBk hB).drew, (Below.refl _ _).drew⟩) (fun hH => ?_)
  have hWr4 : Weaker (S2 (fun w' => BdAt w' w.heap.size a A n c ∧ BdAt w' (w.heap.size + 1) b B m d ∧ Below w.heap.size w w' ∧ Below wo.heap.size wo w')) := weaker2 _
  refine Ut 0 51 13 0 0 (v := ?vr4_1) rfl hWr4 hH ?hyr4_1 ?_
  case hyr4_1 => (intro w' hSw; replace hSw := S2o0 hSw; (try dsimp only at hSw); have q0 := hSw.1; have q1 := hSw.2.1; have q2 := hSw.2.2.1; have q3 := hSw.2.2.2; obtain ⟨qa0_0, qa0_1, qa0_2, qa0_3, qa0_4, qa0_5, qa0_6, qa0_7, qa0_8, qa0_9, qa0_10, qa0_11, qa0_12, qa0_f⟩ := id q0; obtain ⟨qa1_0, qa1_1, qa1_2, qa1_3, qa1_4, qa1_5, qa1_6, qa1_7, qa1_8, qa1_9, qa1_10, qa1_11, qa1_12, qa1_f⟩ := id q1; go_simp; try (with_reducible rfl))
  simp only [sB, sC]
  refine Ut 1 52 12 0 0 (v := ?vr4_2) rfl hWr4 hH ?hyr4_2 ?_
  case hyr4_2 => (intro w' hSw; clear hSw; go_simp; try (with_reducible rfl))
  simp only [sB, sC]
  refine Ut 2 53 11 0 0 (v := ?vr4_3) rfl hWr4 hH ?hyr4_3 ?_
  case hyr4_3 => (intro w' hSw; clear hSw; go_simp; try (with_reducible rfl))
  simp only [sB, sC]
  refine Ut 6 57 10 0 0 (v := ?vr4_4) rfl hWr4 hH ?hyr4_4 ?_
  case hyr4_4 => (intro w' hSw; replace hSw := S2o0 hSw; (try dsimp only at hSw); have q0 := hSw.1; have q1 := hSw.2.1; have q2 := hSw.2.2.1; have q3 := hSw.2.2.2; obtain ⟨qa0_0, qa0_1, qa0_2, qa0_3, qa0_4, qa0_5, qa0_6, qa0_7, qa0_8, qa0_9, qa0_10, qa0_11, qa0_12, qa0_f⟩ := id q0; obtain ⟨qa1_0, qa1_1, qa1_2, qa1_3, qa1_4, qa1_5, qa1_6, qa1_7, qa1_8, qa1_9, qa1_10, qa1_11, qa1_12, qa1_f⟩ := id q1; go_simp; try (with_reducible rfl))
  simp only [sB, sC]
  refine Ut 7 58 9 0 0 (v := ?vr4_5) rfl hWr4 hH ?hyr4_5 ?_
  case hyr4_5 => (intro w' hSw; clear hSw; go_simp; try (with_reducible rfl))
  simp only [sB, sC]
  refine Ut 8 59 8 0 0 (v := ?vr4_6) rfl hWr4 hH ?hyr4_6 ?_
  case hyr4_6 => (intro w' hSw; clear hSw; go_simp; try (with_reducible rfl))
  simp only [sB, sC]
  refine U1 3 0 rfl (fun K hK => ?_)
  try clear hb
  go_simp
  (go_at_call 14; refine (fmul_calls _ _ _).mono ?_; rw [HAT.out]; rintro e wn ⟨rfl, hb⟩; try replace hp1 := hp1.below hb)
  refine hK.out _ _ ?hsr4_7 (fun hH2 => ?hrr4_7)
  case hsr4_7 => exact S2i0 (by have hG := hH; replace hG := S2o0 hG; (try dsimp only at hG); have q0 := hG.1; have q1 := hG.2.1; have q2 := hG.2.2.1; have q3 := hG.2.2.2; exact ⟨keepBd hb q0, keepBd hb q1, keepBelow hb q2, keepBelow hb q3⟩)
  clear hK K hH
  have hH := hH2
  clear hH2
  try simp only [Act.put, sA, sB, sC]
  refine U1 4 0 rfl (fun K hK => ?_)
  try clear hb
  have hG := hH
  replace hG := S2o0 hG; (try dsimp only at hG); have q0 := hG.1; have q1 := hG.2.1; have q2 := hG.2.2.1; have q3 := hG.2.2.2
  go_simp
  (go_at_call 19; refine (HMA.out _ q2).mono ?_; rintro e wn ⟨A1, n1, c1, rfl, hs1, -, hb⟩; try replace hp1 := hp1.below hb)
  refine hK.out _ _ ?hsr4_8 (fun hH2 => ?hrr4_8)
  case hsr4_8 => exact S2i0 (by have hG := hH; replace hG := S2o0 hG; (try dsimp only at hG); have q0 := hG.1; have q1 := hG.2.1; have q2 := hG.2.2.1; have q3 := hG.2.2.2; exact ⟨keepBd hb q0, keepBd hb q1, keepBelow hb q2, keepBelow hb q3⟩)
  clear hK K hH
  have hH := hH2
  clear hH2
  try simp only [Act.put, sA, sB, sC]
  refine U1 5 0 rfl (fun K hK => ?_)
  try clear hb
  go_simp
  (go_at_call 18; refine (HPA.out A1 n1 c1 _ hs1).mono ?_; rintro e wn ⟨A2, n2, c2, rfl, hp1, -, -, hb⟩)
  refine hK.out _ _ ?hsr4_9 (fun hH2 => ?hrr4_9)
  case hsr4_9 => exact S2i0 (by have hG := hH; replace hG := S2o0 hG; (try dsimp only at hG); have q0 := hG.1; have q1 := hG.2.1; have q2 := hG.2.2.1; have q3 := hG.2.2.2; exact ⟨keepBd hb q0, keepBd hb q1, keepBelow hb q2, keepBelow hb q3⟩)
  clear hK K hH
  have hH := hH2
  clear hH2
  try simp only [Act.put, sA, sB, sC]
  clear hs1
  refine U1 9 0 rfl (fun K hK => ?_)
  try clear hb
  go_simp
  (go_at_call 14; refine (fmul_calls _ _ _).mono ?_; rw [HAT.out]; rintro e wn ⟨rfl, hb⟩; try replace hp1 := hp1.below hb)
  refine hK.out _ _ ?hsr4_10 (fun hH2 => ?hrr4_10)
  case hsr4_10 => exact S2i0 (by have hG := hH; replace hG := S2o0 hG; (try dsimp only at hG); have q0 := hG.1; have q1 := hG.2.1; have q2 := hG.2.2.1; have q3 := hG.2.2.2; exact ⟨keepBd hb q0, keepBd hb q1, keepBelow hb q2, keepBelow hb q3⟩)
  clear hK K hH
  have hH := hH2
  clear hH2
  try simp only [Act.put, sA, sB, sC]
  refine U1 10 0 rfl (fun K hK => ?_)
  try clear hb
  have hG := hH
  replace hG := S2o0 hG; (try dsimp only at hG); have q0 := hG.1; have q1 := hG.2.1; have q2 := hG.2.2.1; have q3 := hG.2.2.2
  go_simp
  (go_at_call 19; refine (HMB.out _ q2).mono ?_; rintro e wn ⟨A1, n1, c1, rfl, hs1, -, hb⟩; try replace hp1 := hp1.below hb)
  refine hK.out _ _ ?hsr4_11 (fun hH2 => ?hrr4_11)
  case hsr4_11 => exact S2i0 (by have hG := hH; replace hG := S2o0 hG; (try dsimp only at hG); have q0 := hG.1; have q1 := hG.2.1; have q2 := hG.2.2.1; have q3 := hG.2.2.2; exact ⟨keepBd hb q0, keepBd hb q1, keepBelow hb q2, keepBelow hb q3⟩)
  clear hK K hH
  have hH := hH2
  clear hH2
  try simp only [Act.put, sA, sB, sC]
  refine U1 11 0 rfl (fun K hK => ?_)
  try clear hb
  go_simp
  (go_at_call 18; refine (HPB.out A1 n1 c1 _ hs1).mono ?_; rintro e wn ⟨A3, n3, c3, rfl, hp2, -, -, hb⟩; try replace hp1 := hp1.below hb)
  refine hK.out _ _ ?hsr4_12 (fun hH2 => ?hrr4_12)
  case hsr4_12 => exact S2i0 (by have hG := hH; replace hG := S2o0 hG; (try dsimp only at hG); have q0 := hG.1; have q1 := hG.2.1; have q2 := hG.2.2.1; have q3 := hG.2.2.2; exact ⟨keepBd hb q0, keepBd hb q1, keepBelow hb q2, keepBelow hb q3⟩)
  clear hK K hH
  have hH := hH2
  clear hH2
  try simp only [Act.put, sA, sB, sC]
  clear hs1
  refine Ut 12 15 1 0 0 (v := ?vr4_13) rfl hWr4 hH ?hyr4_13 ?_
  case hyr4_13 => (intro w' hSw; clear hSw; go_simp; try (with_reducible rfl))
  simp only [sB, sC]
  refine Ut 13 16 0 0 0 (v := ?vr4_14) rfl hWr4 hH ?hyr4_14 ?_
  case hyr4_14 => (intro w' hSw; clear hSw; go_simp; try (with_reducible rfl))
  simp only [sB, sC]
  refine wpAnyU_done (by kernel_rfl) ?_ _ _
  refine NoPanic.normal ?_
  clear hWr4
  replace hH := S2o0 hH
  (try dsimp only at hH)
  have t0 := hH.1
  have t1 := hH.2.1
  have t2 := hH.2.2.1
  have t3 := hH.2.2.2
  clear t0 t1 hb HMA HMB HPA HPB HAT
  have hBf := t2
  have hBo := keepBelow t3 hBk
  clear t2 t3
  have HMT2 : Hid (mt t = nmeetB pa pb) := by show _ = _; rw [HMT.out, HEA.out.1, HEA.out.2]
  go_wp2_with fail
  refine (nmeet_calls A2 A3 n2 c2 n3 c3 pa pb _ hp1 hp2).mono ?_
  rintro e w8 ⟨rfl, hb⟩
  replace hBf := keepBelow hb hBf
  replace hBo := keepBelow hb hBo
  have HP1 := hid (hp1.below hb)
  have HP2 := hid (hp2.below hb)
  clear hb hp1 hp2
  have HER := hid (apart_calls A2 A3 n2 c2 n3 c3 pa pb w8 HP1.out HP2.out)
  generalize bothE pa pb = er at *
  have HST : Hid (timeR mt nx (f + 1) t = if mt t = true then (t, true) else if t = 65536 then (0, false) else timeR mt nx f (nx t)) := rfl
  cases hm : nmeetB pa pb with
  | true =>
   have HV : Hid (tq = (t, true)) := by show _ = _; rw [HTI.out, HST.out, HMT2.out, hm, if_pos rfl]
   clear HST HTI HER
   go_wp2
   refine bodyPost_ret (v := .tuple #[.int .i64 t, .bool true, .int .i64 0]) (by simp [results, Tryz.results6, go_sem]) rfl ⟨by rw [HR.out, HV.out], hBf⟩
  | false =>
   by_cases h1 : t = 65536
   ·have HV : Hid (tq = (0, false)) := by show _ = _; rw [HTI.out, HST.out, HMT2.out, hm, if_neg (by simp), if_pos h1]
    clear HST HTI HER
    go_wp2
    refine bodyPost_ret (v := .tuple #[.int .i64 0, .bool false, .int .i64 0]) (by simp [results, Tryz.results6, go_sem]) rfl ⟨by rw [HR.out, HV.out], hBf⟩
   ·have HV : Hid (timeR mt nx (f + 1) t = timeR mt nx f (nx t)) := by show _ = _; rw [HST.out, HMT2.out, hm, if_neg (by simp), if_neg h1]
    have hap := HAP.out t
    have HNT := hid (HNX.out t)
    rw [HEA.out.1, HEA.out.2] at hap HNT
    generalize apartZ pa pb = ap at *
    have hsb := HSB.out
    obtain ⟨g, rfl⟩ : ∃ g, f = g + 1 := ⟨f - 1, by omega⟩
    have p0 : 0 ≤ max 0 (ap - sk) ∧ max 0 (ap - sk) ≤ 1099511627776 := by omega
    obtain ⟨qq, hqq⟩ : ∃ q, q = (max 0 (ap - sk) * 65536).tdiv most := ⟨_, rfl⟩
    have hqb : 0 ≤ qq ∧ qq ≤ 72057594037927936 := by
     rw [hqq, Int.tdiv_eq_ediv_of_nonneg (by omega)]
     refine ⟨Int.ediv_nonneg (by omega) (by omega), ?_⟩
     have := Int.ediv_le_self most (a := max 0 (ap - sk) * 65536) (by omega)
     omega
    have v1 : IntKind.i64.wrap (ap - sk) = ap - sk := IntWalk.i64_in _ (by omega)
    have v2 : IntKind.i64.wrap (max 0 (ap - sk) * 65536) = max 0 (ap - sk) * 65536 := IntWalk.i64_in _ (by omega)
    have v3 : IntKind.i64.wrap ((max 0 (ap - sk) * 65536).tdiv most) = qq := by rw [← hqq]; exact IntWalk.i64_in _ (by omega)
    have v4 : IntKind.i64.wrap (t + max 256 qq) = t + max 256 qq := IntWalk.i64_in _ (by omega)
    have vn : ¬ most = 0 := by omega
    rw [← hqq] at HNT
    have HLE : Hid (0 ≤ nx t ∧ nx t ≤ 65536 ∧ 65536 - nx t ≤ 256 * (g : Int) ∧ t < nx t) := by have := HNT.out; show _ ∧ _; omega
    have HTJ : Hid (timeR mt nx 300 0 = timeR mt nx (g + 1) (nx t)) := HTO.out.symm.trans (HTI.out.trans HV.out)
    clear hqq HST HTI HV hap hqb p0 HSB
    go_wp2_with fail
    refine HER.out.mono ?_
    rintro e w9 ⟨rfl, hb⟩
    replace hBo := keepBelow hb hBo
    clear hb HER HP1 HP2 hBf
    go_wp2
    go_roundw
    case rel => exact ⟨nx t, g, by rw [HNT.out], ⟨HLE.out.1, HLE.out.2.1⟩, HTJ.out, HLE.out.2.2.1, hBo⟩
    case measure => have := HLE.out; have := HNT.out; simp [intOf]; omega
end
end Go.Proofs.YtilncglnojjlaaaGreat
namespace Go.Proofs.YtilncglnojjlaaaGreat
section
set_option linter.unusedVariables false
open Go.RowKit
theorem wpAnyU_lst {P : Program} {md : Region.Mode} {ops : Array Oper} {Q : Exit → Act → World → Prop} {S : Nat → World → Prop} {T : Nat → Nat} {fuel lev : Nat} {l l' : Array Bool} {a : Act} {w : World} (h : l = l') (hw : wpAnyU P md ops Q S T fuel lev l' a w) : wpAnyU P md ops Q S T fuel lev l a w := h ▸ hw
end
end Go.Proofs.YtilncglnojjlaaaGreat
