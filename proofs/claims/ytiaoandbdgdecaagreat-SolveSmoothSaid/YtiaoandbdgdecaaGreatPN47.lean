/- Parts of a proof: contracts and laws. -/
import Derived.Test.YtiaoandbdgdecaaGreatPN45
import Derived.Test.YtiaoandbdgdecaaGreatPN44
import Derived.Test.YtiaoandbdgdecaaGreatPN09
import Derived.Test.YtiaoandbdgdecaaGreatPN12
import Derived.Test.YtiaoandbdgdecaaGreatPN08
import Derived.Test.YtiaoandbdgdecaaGreatPN34
import Derived.Test.YtiaoandbdgdecaaGreatPN11
import Derived.Test.YtiaoandbdgdecaaGreatPNLB
import Derived.Test.YtiaoandbdgdecaaGreatPN39
namespace Go.Proofs.YtiaoandbdgdecaaGreat
section
set_option linter.unusedVariables false
set_option linter.unusedSimpArgs false
open Go.RowKit
theorem bodiesE_ok {L : List BE} (h : L.length ≤ 64) (hv : ∀ x ∈ L, bodyE x.b x.l = 0) : bodiesE L = 0 := by
 unfold bodiesE
 rw [if_neg (by omega)]
 have : ∀ k, k ≤ L.length → bodiesTo L k = 0 := fun k => by
  induction k with
  | zero => intro _; rfl
  | succ k ih =>
   intro hk
   rw [bodiesTo_succ (by omega), if_neg (by rw [ih (by omega)]; simp)]
   exact hv _ (List.getElem_mem _)
 exact this _ (Nat.le_refl _)






end
end Go.Proofs.YtiaoandbdgdecaaGreat
namespace Go.Proofs.YtiaoandbdgdecaaGreat
section
set_option linter.unusedVariables false
set_option linter.unusedSimpArgs false
open Go.RowKit
theorem sq_le_root {x n S : Int} (hn : 0 ≤ n) (h : x * x ≤ S) (h2 : S < (n + 1) * (n + 1)) : -n ≤ x ∧ x ≤ n := by
 constructor
 ·rcases Int.lt_or_le x (-n) with g | g
  ·have := Int.mul_le_mul (show n + 1 ≤ -x by omega) (show n + 1 ≤ -x by omega) (by omega) (by omega)
   rw [Int.neg_mul_neg] at this
   omega
  ·exact g
 ·rcases Int.lt_or_le n x with g | g
  ·have := Int.mul_le_mul (show n + 1 ≤ x by omega) (show n + 1 ≤ x by omega) (by omega) (by omega)
   omega
  ·exact g
theorem thr_le {n x U : Int} (hn : 1073741824 ≤ n) (hx : -n ≤ x ∧ x ≤ n) (h1 : -n ≤ 2 * n * U - 131072 * x) (h2 : 2 * n * U - 131072 * x ≤ n) : -65536 ≤ U ∧ U ≤ 65536 := by
 constructor
 ·rcases Int.lt_or_le U (-65536) with g | g
  ·have := Int.mul_le_mul_of_nonneg_left (show U ≤ -65537 by omega) (show 0 ≤ 2 * n by omega)
   omega
  ·exact g
 ·rcases Int.lt_or_le 65536 U with g | g
  ·have := Int.mul_le_mul_of_nonneg_left (show 65537 ≤ U by omega) (show 0 ≤ 2 * n by omega)
   omega
  ·exact g
theorem unit_bdW {a b : Int} (ha : -1099511627776 ≤ a ∧ a ≤ 1099511627776) (hb : -1099511627776 ≤ b ∧ b ≤ 1099511627776) (h : a ≠ 0 ∨ b ≠ 0) : (-65536 ≤ unitX a b ∧ unitX a b ≤ 65536) ∧ (-65536 ≤ unitY a b ∧ unitY a b ≤ 65536) := by
 obtain ⟨t, n, t0, big, r1, r2, ⟨x1, x2⟩, ⟨y1, y2⟩⟩ := unit_spec ha hb h
 generalize t * a = x at *
 generalize t * b = y at *
 have p1 := sq_nonneg x
 have p2 := sq_nonneg y
 exact ⟨thr_le big (sq_le_root (by omega) (by omega) r2) x1 x2, thr_le big (sq_le_root (by omega) (by omega) r2) y1 y2⟩
theorem tst_bdW {l m : List V} (h : meetsB l m = true) : (-65536 ≤ tstX l m ∧ tstX l m ≤ 65536) ∧ (-65536 ≤ tstY l m ∧ tstY l m ≤ 65536) := by
 obtain ⟨a, b, c⟩ := ax_ne h
 unfold tstX tstY
 rw [if_pos h, if_pos h]
 exact unit_bdW (by omega) (by omega) a
theorem rdp_okW {ref : List V} {e : Nat} (hc : checkE ref = 0) (he : e < ref.length) {p q : Int} (hd : 0 ≤ dptZ ref e p q) (h1 : -2621440 ≤ px ref e - p ∧ px ref e - p ≤ 2621440) (h2 : -2621440 ≤ py ref e - q ∧ py ref e - q ≤ 2621440) :
  0 ≤ rdpZ ref e p q ∧ rdpZ ref e p q ≤ 5242880 := by
 obtain ⟨_, l3, wl, _⟩ := checkE_zero hc
 have bn := nrm_bd wl he
 have L0 : 0 < lenZ (nrmX ref e) (nrmY ref e) := (len_bd (by omega) (by omega)).2.2 (nrm_ne hc he)
 have sl := sum_len bn.1 bn.2
 have hd' : 0 ≤ nrmX ref e * (px ref e - p) + nrmY ref e * (py ref e - q) := hd
 have hrd : rdpZ ref e p q = overQ (nrmX ref e * (px ref e - p) + nrmY ref e * (py ref e - q)) (lenZ (nrmX ref e) (nrmY ref e)) := rfl
 generalize nrmX ref e = a at *
 generalize nrmY ref e = b at *
 generalize px ref e - p = u at *
 generalize py ref e - q = v at *
 generalize lenZ a b = L at *
 have m1 : a * u ≤ 2621440 * a ∨ a * u ≤ -2621440 * a := by
  rcases Int.le_total 0 a with h | h
  ·left; have := Int.mul_le_mul_of_nonneg_left h1.2 h; omega
  ·right; have := Int.mul_le_mul_of_nonpos_left h h1.1; omega
 have m2 : b * v ≤ 2621440 * b ∨ b * v ≤ -2621440 * b := by
  rcases Int.le_total 0 b with h | h
  ·left; have := Int.mul_le_mul_of_nonneg_left h2.2 h; omega
  ·right; have := Int.mul_le_mul_of_nonpos_left h h2.1; omega
 have hD : a * u + b * v ≤ 5242880 * L := by omega
 have k1 := mul_bd (x := a) (y := u) (M := 262144000) (N := 2621440) (by omega) (by omega) (by omega) (by omega)
 have k2 := mul_bd (x := b) (y := v) (M := 262144000) (N := 2621440) (by omega) (by omega) (by omega) (by omega)
 rw [hrd, overQ_rnd L0 (by omega)]
 refine ⟨Int.ediv_nonneg (by omega) (by omega), ?_⟩
 have : (2 * (a * u + b * v) + L) / (2 * L) < 5242881 := Int.ediv_lt_of_lt_mul (by omega) (by omega)
 omega

def PtW (way : V) (p : Pt) : Prop := p.1.2 = way ∧ 0 ≤ p.2.1 ∧ p.2.1 ≤ 5242880 ∧ 0 ≤ p.2.2 ∧ p.2.2 ≤ 255 ∧ withinB 1310720 p.1.1.1 p.1.1.2 = true
def PtsW (way : V) (P : List Pt) : Prop := (∃ p, P = [p] ∧ PtW way p) ∨ ∃ p q, P = [p, q] ∧ PtW way p ∧ PtW way q ∧ p.2.2 < q.2.2
theorem ptsR_okW {ref inc : List V} {e : Nat} {way : V} {id0 M1 M2 : Int} (hcr : checkE ref = 0) (hci : checkE inc = 0) (he : e < ref.length) (hd : 0 ≤ deepZ ref inc e) (h1 : allWithin M1 ref = true) (h2 : allWithin M2 inc = true) (hM : M1 + M2 ≤ 2621440) (hM1 : 0 ≤ M1) (hM3 : M2 ≤ 1310720) (hM2 : 0 ≤ M2) (hid : 0 ≤ id0 ∧ id0 ≤ 15) :
  PtsW way (ptsR ref inc e way id0) := by
 obtain ⟨i8, i3, _, _⟩ := checkE_zero hci
 have h0 : 0 < inc.length := by omega
 have hk := facZ_lt (l := inc) (nrmX ref e) (nrmY ref e) h0
 have hr := withinB_iff.1 (allWithin_at h1 he)
 have hok : ∀ p : V, withinB M2 p.1 p.2 = true → 0 ≤ dptZ ref e p.1 p.2 → ∀ id : Int, 0 ≤ id ∧ id ≤ 255 → PtW way (ptA ref e way p id) := fun p hp hdp id hi => by
  have hp' := withinB_iff.1 hp
  have := rdp_okW hcr he hdp (by omega) (by omega)
  exact ⟨rfl, this.1, this.2, hi.1, hi.2, withinB_iff.2 (by dsimp only [ptA] at *; omega)⟩
 obtain ⟨b1, b2⟩ := seg_box (M := M2) (by omega) (ref := ref) (e := e) h2 h0
 unfold ptsR
 obtain ⟨ID, hID⟩ : ∃ z, z = (id0 * 8 + (facZ inc (nrmX ref e) (nrmY ref e) : Nat)) * 2 := ⟨_, rfl⟩
 have hIb : 0 ≤ ID ∧ ID + 1 ≤ 255 := by omega
 rw [← hID]
 generalize segZ ref inc e = g at *
 have e2 : ptsG ref e way ID g 2 = (if g.2 = true ∧ 0 ≤ dptZ ref e g.1.1.1 g.1.1.2 then [ptA ref e way g.1.1 ID] else []) ++ (if g.2 = true ∧ 0 ≤ dptZ ref e g.1.2.1 g.1.2.2 ∧ g.1.2 ≠ g.1.1 then [ptA ref e way g.1.2 (ID + 1)] else []) := rfl
 rw [e2]
 by_cases c1 : g.2 = true ∧ 0 ≤ dptZ ref e g.1.1.1 g.1.1.2
 ·by_cases c2 : g.2 = true ∧ 0 ≤ dptZ ref e g.1.2.1 g.1.2.2 ∧ g.1.2 ≠ g.1.1
  ·rw [if_pos c1, if_pos c2, if_neg (by simp)]
   exact .inr ⟨_, _, rfl, hok _ b1 c1.2 _ (by omega), hok _ b2 c2.2.1 _ (by omega), by show ID < ID + 1; omega⟩
  ·rw [if_pos c1, if_neg c2, if_neg (by simp)]
   exact .inl ⟨_, rfl, hok _ b1 c1.2 _ (by omega)⟩
 ·by_cases c2 : g.2 = true ∧ 0 ≤ dptZ ref e g.1.2.1 g.1.2.2 ∧ g.1.2 ≠ g.1.1
  ·rw [if_neg c1, if_pos c2, if_neg (by simp)]
   exact .inl ⟨_, rfl, hok _ b2 c2.2.1 _ (by omega)⟩
  ·rw [if_neg c1, if_neg c2, List.append_nil, if_pos rfl]
   have hf := fcTo_lt inc (nrmX ref e) (nrmY ref e) inc.length (Nat.le_refl _) h0
   exact .inl ⟨_, rfl, hok _ (allWithin_at h2 hf) (Int.le_trans hd (deep_fc h0)) _ (by omega)⟩
theorem pts_okW {l m : List V} (hm : meetsB l m = true) (h1 : allWithin 1310720 l = true) (h2 : allWithin 1310720 m = true) : PtsW (tstX l m, tstY l m) (ptsZ l m) := by
 have h0 := hm
 unfold meetsB at h0
 rw [decide_eq_true_iff] at h0
 obtain ⟨hE, d1, d2⟩ := h0
 obtain ⟨hl, hm'⟩ := bothE_zero.1 hE
 obtain ⟨s, e, d, hso, k1, k2⟩ := least_some hm
 obtain ⟨l8, _, _, _⟩ := checkE_zero hl
 obtain ⟨m8, _, _, _⟩ := checkE_zero hm'
 unfold ptsZ
 rw [hso]
 dsimp only
 cases s with
 | true =>
  rw [if_pos rfl]
  have he := k1 rfl
  exact ptsR_okW hm' hl he (d2 e he) h2 h1 (by omega) (by omega) (by omega) (by omega) (by omega)
 | false =>
  rw [if_neg (by simp)]
  have he := k2 rfl
  exact ptsR_okW hl hm' he (d1 e he) h1 h2 (by omega) (by omega) (by omega) (by omega) (by omega)
theorem made_place {b : Bd} {l : List V} (h : MadeB b) (hl : Made l) : allWithin 1310720 (placeL b l) = true := by
 have hw := made_within hl
 have hpx := h.px
 have hpy := h.py
 refine within_each fun j hj => ?_
 rw [placeL_len] at hj
 obtain ⟨_, _, t3, t4⟩ := turn_near (x := px l j) (y := py l j) (a := b.ang) (by have := withinB_iff.1 (allWithin_at hw hj); omega) (by have := withinB_iff.1 (allWithin_at hw hj); omega) h.ang.1 h.ang.2
 rw [px_placeL hj, py_placeL hj, wX_sm h t3, wY_sm h t4]
 exact withinB_iff.2 (by omega)

theorem mem_fnd {L : List BE} {c : Ct} : c ∈ fndL L ↔ ∃ p, p ∈ nearL L ∧ ∃ t, t ∈ ptsZ (plAt L p.1) (plAt L p.2) ∧ c = ptC p t := by
 unfold fndL fndP
 simp only [List.mem_flatMap, List.mem_map]
 constructor
 ·rintro ⟨p, hp, t, ht, rfl⟩; exact ⟨p, hp, t, ht, rfl⟩
 ·rintro ⟨p, hp, t, ht, rfl⟩; exact ⟨p, hp, t, ht, rfl⟩


theorem carL_nil (C : List Ct) (h : ∀ c ∈ C, c.push = 0 ∧ c.sli = 0) : carL [] C = C := by
 unfold carL
 have e : ∀ c ∈ C, carC [] c = c := fun c hc => by
  obtain ⟨h1, h2⟩ := h c hc
  unfold carC
  rw [List.find?_nil]
  obtain ⟨⟩ := c
  simp only at h1 h2
  subst h1 h2
  rfl
 induction C with
 | nil => rfl
 | cons a C ih => rw [List.map_cons, e a (List.mem_cons_self ..), ih (fun c hc => h c (List.mem_cons_of_mem _ hc)) (fun c hc => e c (List.mem_cons_of_mem _ hc))]
theorem fnd_zero (L : List BE) : ∀ c ∈ fndL L, c.push = 0 ∧ c.sli = 0 := fun c hc => by
 obtain ⟨p, -, t, -, rfl⟩ := mem_fnd.1 hc
 exact ⟨rfl, rfl⟩

theorem fnd_ok {L : List BE} (h : ∀ x ∈ L, MadeB x.b ∧ Made x.l) : ∀ c ∈ fndL L, CtOk L.length c := fun c hc => by
 obtain ⟨p, hp, t, ht, rfl⟩ := mem_fnd.1 hc
 obtain ⟨⟨h1, h2, -⟩, -⟩ := mem_near.1 hp
 have hi : p.1 < L.length := by omega
 have hk : p.2 < L.length := h2
 rw [plAt_at hi, plAt_at hk] at ht
 obtain ⟨m1, m2⟩ := h _ (List.getElem_mem hi)
 obtain ⟨m3, m4⟩ := h _ (List.getElem_mem hk)
 have hm : meetsB (plB L[p.1]) (plB L[p.2]) = true := by
  rcases Bool.eq_false_or_eq_true (meetsB (plB L[p.1]) (plB L[p.2])) with g | g
  ·exact g
  ·have e : ptsZ (plB L[p.1]) (plB L[p.2]) = [] := by unfold ptsZ leastO; rw [g]; rfl
   rw [e] at ht
   cases ht
 obtain ⟨⟨a1, a2⟩, ⟨b1, b2⟩⟩ := tst_bdW hm
 have hW : PtW (tstX (plB L[p.1]) (plB L[p.2]), tstY (plB L[p.1]) (plB L[p.2])) t := by
  rcases pts_okW hm (made_place m1 m2) (made_place m3 m4) with ⟨q, e, w⟩ | ⟨q, r, e, w, w', -⟩
  ·rw [e, List.mem_singleton] at ht; subst ht; exact w
  ·rw [e] at ht
   rcases List.mem_cons.1 ht with g | g
   ·subst g; exact w
   ·rw [List.mem_singleton] at g; subst g; exact w'
 obtain ⟨e, d1, d2, i1, i2, w⟩ := hW
 have w := withinB_iff.1 w
 have e1 : t.1.2.1 = tstX (plB L[p.1]) (plB L[p.2]) := congrArg (·.1) e
 have e2 : t.1.2.2 = tstY (plB L[p.1]) (plB L[p.2]) := congrArg (·.2) e
 unfold CtOk ptC
 dsimp only
 refine ⟨?_, ?_, ?_, ?_, ?_, ?_⟩ <;> omega
theorem made_all {L : List BE} (h : ∀ x ∈ L, MadeB x.b ∧ Made x.l) : ∀ x ∈ L, bodyE x.b x.l = 0 := fun x hx => madeB_ok (h x hx).1 (h x hx).2
end
end Go.Proofs.YtiaoandbdgdecaaGreat
