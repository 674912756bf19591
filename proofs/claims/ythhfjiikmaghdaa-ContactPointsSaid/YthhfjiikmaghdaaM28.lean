/- Plain mathematics: what holds of the points of contact. No program is in sight. -/
import Derived.Test.YthhfjiikmaghdaaP3
namespace Go.Proofs.Ythhfjiikmaghdaa
set_option linter.unusedVariables false
set_option linter.unusedSimpArgs false
open Go.RowKit

theorem le_twice {z S L : Int} (hL : 0 ≤ L) (h1 : S < (L + 1) * (L + 1)) (h2 : z * z ≤ 2 * S) : z ≤ 2 * L := by
  rcases Int.lt_or_le (2 * L) z with h | h
  · exfalso
    have m : (2 * L + 1) * (2 * L + 1) ≤ z * z := Int.mul_le_mul (by omega) (by omega) (by omega) (by omega)
    have e1 : (2 * L + 1) * (2 * L + 1) = 4 * (L * L) + 4 * L + 1 := by grind
    have e2 : (L + 1) * (L + 1) = L * L + 2 * L + 1 := by grind
    have p := sq_nonneg L
    omega
  · exact h
theorem sum_len {x y : Int} (hx : -131072000 ≤ x ∧ x ≤ 131072000) (hy : -131072000 ≤ y ∧ y ≤ 131072000) : x + y ≤ 2 * lenZ x y ∧ x - y ≤ 2 * lenZ x y ∧ -x + y ≤ 2 * lenZ x y ∧ -x - y ≤ 2 * lenZ x y := by
  have q1 := mul_bd (x := x) (y := x) (M := 131072000) (N := 131072000) (by omega) (by omega) (by omega) (by omega)
  have q2 := mul_bd (x := y) (y := y) (M := 131072000) (N := 131072000) (by omega) (by omega) (by omega) (by omega)
  have s1 := sq_nonneg x
  have s2 := sq_nonneg y
  obtain ⟨h0, -, h2⟩ := rootZ_spec (n := x * x + y * y) (by omega) (by omega)
  change 0 ≤ lenZ x y at h0
  change x * x + y * y < (lenZ x y + 1) * (lenZ x y + 1) at h2
  have t1 := sq_nonneg (x - y)
  have t2 := sq_nonneg (x + y)
  have e1 : (x + y) * (x + y) + (x - y) * (x - y) = 2 * (x * x + y * y) := by grind
  refine ⟨le_twice h0 h2 (by omega), le_twice h0 h2 (by omega), le_twice h0 h2 ?_, le_twice h0 h2 ?_⟩
  · have e : (-x + y) * (-x + y) = (x - y) * (x - y) := by grind
    omega
  · have e : (-x - y) * (-x - y) = (x + y) * (x + y) := by grind
    omega
theorem rdp_ok {ref : List V} {e : Nat} (hc : checkE ref = 0) (he : e < ref.length) {p q : Int} (hd : 0 ≤ dptZ ref e p q) (h1 : -1310720 ≤ px ref e - p ∧ px ref e - p ≤ 1310720) (h2 : -1310720 ≤ py ref e - q ∧ py ref e - q ≤ 1310720) :
    0 ≤ rdpZ ref e p q ∧ rdpZ ref e p q ≤ 2621440 := by
  obtain ⟨_, l3, wl, _⟩ := checkE_zero hc
  have bn := nrm_bd wl he
  have L0 : 0 < lenZ (nrmX ref e) (nrmY ref e) := (len_bd (by omega) (by omega)).2.2 (nrm_ne hc he)
  have sl := sum_len bn.1 bn.2
  have hd' : 0 ≤ nrmX ref e * (px ref e - p) + nrmY ref e * (py ref e - q) := hd
  have hrd : rdpZ ref e p q = overQ (nrmX ref e * (px ref e - p) + nrmY ref e * (py ref e - q)) (lenZ (nrmX ref e) (nrmY ref e)) := rfl
  generalize nrmX ref e = a at *
  generalize nrmY ref e = b at *
  generalize px ref e - p = u at *
  generalize py ref e - q = v at *
  generalize lenZ a b = L at *
  have m1 : a * u ≤ 1310720 * a ∨ a * u ≤ -1310720 * a := by
    rcases Int.le_total 0 a with h | h
    · left; have := Int.mul_le_mul_of_nonneg_left h1.2 h; omega
    · right; have := Int.mul_le_mul_of_nonpos_left h h1.1; omega
  have m2 : b * v ≤ 1310720 * b ∨ b * v ≤ -1310720 * b := by
    rcases Int.le_total 0 b with h | h
    · left; have := Int.mul_le_mul_of_nonneg_left h2.2 h; omega
    · right; have := Int.mul_le_mul_of_nonpos_left h h2.1; omega
  have hD : a * u + b * v ≤ 2621440 * L := by omega
  have k1 := mul_bd (x := a) (y := u) (M := 131072000) (N := 1310720) (by omega) (by omega) (by omega) (by omega)
  have k2 := mul_bd (x := b) (y := v) (M := 131072000) (N := 1310720) (by omega) (by omega) (by omega) (by omega)
  rw [hrd, overQ_rnd L0 (by omega)]
  refine ⟨Int.ediv_nonneg (by omega) (by omega), ?_⟩
  have : (2 * (a * u + b * v) + L) / (2 * L) < 2621441 := Int.ediv_lt_of_lt_mul (by omega) (by omega)
  omega
theorem clp_box {M : Int} (hM : M ≤ 65536000) {p q : V} {a b : Int} (h1 : withinB M p.1 p.2 = true) (h2 : withinB M q.1 q.2 = true) : withinB M (clpAB p q a b).1.1.1 (clpAB p q a b).1.1.2 = true ∧ withinB M (clpAB p q a b).1.2.1 (clpAB p q a b).1.2.2 = true := by
  obtain ⟨_, _, _, _⟩ := withinB_iff.1 h1
  obtain ⟨_, _, _, _⟩ := withinB_iff.1 h2
  unfold clpAB
  by_cases ha : a < 0 <;> by_cases hb : b < 0
  · rw [if_pos ⟨ha, hb⟩]; exact ⟨h1, h2⟩
  · have k1 := betQ_bd (D := q.1 - p.1) (a := a) (b := b) (by omega) (by omega)
    have k2 := betQ_bd (D := q.2 - p.2) (a := a) (b := b) (by omega) (by omega)
    rw [if_neg (by omega), if_pos ha]
    exact ⟨withinB_iff.2 (by dsimp only; omega), h2⟩
  · have k1 := betQ_bd (D := q.1 - p.1) (a := a) (b := b) (by omega) (by omega)
    have k2 := betQ_bd (D := q.2 - p.2) (a := a) (b := b) (by omega) (by omega)
    rw [if_neg (by omega), if_neg ha, if_pos hb]
    exact ⟨h1, withinB_iff.2 (by dsimp only; omega)⟩
  · rw [if_neg (by omega), if_neg ha, if_neg hb]; exact ⟨h1, h2⟩
theorem seg_box {M : Int} (hM : M ≤ 65536000) {ref inc : List V} {e : Nat} (hw : allWithin M inc = true) (h0 : 0 < inc.length) : withinB M (segZ ref inc e).1.1.1 (segZ ref inc e).1.1.2 = true ∧ withinB M (segZ ref inc e).1.2.1 (segZ ref inc e).1.2.2 = true := by
  have hk := facZ_lt (l := inc) (nrmX ref e) (nrmY ref e) h0
  have c1 := clp_box hM (p := cnP inc (facZ inc (nrmX ref e) (nrmY ref e))) (q := nxP inc (facZ inc (nrmX ref e) (nrmY ref e))) (a := clpA (cnP inc (facZ inc (nrmX ref e) (nrmY ref e))) (cnP ref e) ((nxP ref e).1 - (cnP ref e).1, (nxP ref e).2 - (cnP ref e).2)) (b := clpA (nxP inc (facZ inc (nrmX ref e) (nrmY ref e))) (cnP ref e) ((nxP ref e).1 - (cnP ref e).1, (nxP ref e).2 - (cnP ref e).2)) (allWithin_at hw hk) (allWithin_at hw (Nat.mod_lt _ h0))
  unfold segZ
  split
  · exact clp_box hM c1.1 c1.2
  · exact c1
/-- what the law asks of a point -/
def PtOk (way : V) (p : Pt) : Prop := p.1.2 = way ∧ 0 ≤ p.2.1 ∧ p.2.1 ≤ 2621440 ∧ 0 ≤ p.2.2 ∧ p.2.2 ≤ 255
/-- what it asks of all of them -/
def PtsOk (way : V) (P : List Pt) : Prop := (∃ p, P = [p] ∧ PtOk way p) ∨ ∃ p q, P = [p, q] ∧ PtOk way p ∧ PtOk way q ∧ p.2.2 ≠ q.2.2 ∧ p.1.1 ≠ q.1.1
theorem deepTo_dpt {l m : List V} {i : Nat} {B : Int} (hB : ∀ j, j < m.length → dpt l m i j ≤ B) : ∀ k, k < m.length → deepTo l m i k ≤ B
  | 0, h => hB 0 h
  | k + 1, h => by
    rw [deepTo]
    split
    · exact hB _ h
    · exact deepTo_dpt hB k (by omega)
theorem deep_fc {ref inc : List V} {e : Nat} (h0 : 0 < inc.length) : deepZ ref inc e ≤ dptZ ref e (px inc (fcTo inc (nrmX ref e) (nrmY ref e) inc.length)) (py inc (fcTo inc (nrmX ref e) (nrmY ref e) inc.length)) := by
  unfold deepZ
  refine deepTo_dpt (fun j hj => ?_) _ (by omega)
  have h := (supTo_spec inc (-nrmX ref e) (-nrmY ref e) inc.length h0).2.1 j hj
  rw [← fcTo_sup] at h
  unfold dotL at h
  show nrmX ref e * (px ref e - px inc j) + nrmY ref e * (py ref e - py inc j) ≤ dptZ _ _ _ _
  unfold dptZ
  generalize fcTo inc (nrmX ref e) (nrmY ref e) inc.length = f at *
  simp only [Int.mul_sub, Int.mul_neg] at *
  rw [Int.mul_comm (px inc j), Int.mul_comm (py inc j), Int.mul_comm (px inc f), Int.mul_comm (py inc f)] at h
  omega
theorem ptsR_ok {ref inc : List V} {e : Nat} {way : V} {id0 M1 M2 : Int} (hcr : checkE ref = 0) (hci : checkE inc = 0) (he : e < ref.length) (hd : 0 ≤ deepZ ref inc e) (h1 : allWithin M1 ref = true) (h2 : allWithin M2 inc = true) (hM : M1 + M2 ≤ 1310720) (hM1 : 0 ≤ M1) (hM2 : 0 ≤ M2) (hid : 0 ≤ id0 ∧ id0 ≤ 15) :
    PtsOk way (ptsR ref inc e way id0) := by
  obtain ⟨i8, i3, _, _⟩ := checkE_zero hci
  have h0 : 0 < inc.length := by omega
  have hk := facZ_lt (l := inc) (nrmX ref e) (nrmY ref e) h0
  have hr := withinB_iff.1 (allWithin_at h1 he)
  have hok : ∀ p : V, withinB M2 p.1 p.2 = true → 0 ≤ dptZ ref e p.1 p.2 → ∀ id : Int, 0 ≤ id ∧ id ≤ 255 → PtOk way (ptA ref e way p id) := fun p hp hdp id hi => by
    have hp' := withinB_iff.1 hp
    have := rdp_ok hcr he hdp (by omega) (by omega)
    exact ⟨rfl, this.1, this.2, hi.1, hi.2⟩
  obtain ⟨b1, b2⟩ := seg_box (M := M2) (by omega) (ref := ref) (e := e) h2 h0
  unfold ptsR
  obtain ⟨ID, hID⟩ : ∃ z, z = (id0 * 8 + (facZ inc (nrmX ref e) (nrmY ref e) : Nat)) * 2 := ⟨_, rfl⟩
  have hIb : 0 ≤ ID ∧ ID + 1 ≤ 255 := by omega
  rw [← hID]
  generalize segZ ref inc e = g at *
  have e2 : ptsG ref e way ID g 2 = (if g.2 = true ∧ 0 ≤ dptZ ref e g.1.1.1 g.1.1.2 then [ptA ref e way g.1.1 ID] else []) ++ (if g.2 = true ∧ 0 ≤ dptZ ref e g.1.2.1 g.1.2.2 ∧ g.1.2 ≠ g.1.1 then [ptA ref e way g.1.2 (ID + 1)] else []) := rfl
  rw [e2]
  by_cases c1 : g.2 = true ∧ 0 ≤ dptZ ref e g.1.1.1 g.1.1.2
  · by_cases c2 : g.2 = true ∧ 0 ≤ dptZ ref e g.1.2.1 g.1.2.2 ∧ g.1.2 ≠ g.1.1
    · rw [if_pos c1, if_pos c2, if_neg (by simp)]
      exact .inr ⟨_, _, rfl, hok _ b1 c1.2 _ (by omega), hok _ b2 c2.2.1 _ (by omega), by show ID ≠ ID + 1; omega, fun h => c2.2.2 h.symm⟩
    · rw [if_pos c1, if_neg c2, if_neg (by simp)]
      exact .inl ⟨_, rfl, hok _ b1 c1.2 _ (by omega)⟩
  · by_cases c2 : g.2 = true ∧ 0 ≤ dptZ ref e g.1.2.1 g.1.2.2 ∧ g.1.2 ≠ g.1.1
    · rw [if_neg c1, if_pos c2, if_neg (by simp)]
      exact .inl ⟨_, rfl, hok _ b2 c2.2.1 _ (by omega)⟩
    · rw [if_neg c1, if_neg c2, List.append_nil, if_pos rfl]
      have hf := fcTo_lt inc (nrmX ref e) (nrmY ref e) inc.length (Nat.le_refl _) h0
      exact .inl ⟨_, rfl, hok _ (allWithin_at h2 hf) (Int.le_trans hd (deep_fc h0)) _ (by omega)⟩
/-- all points of two polygons that meet -/
theorem pts_ok {l m : List V} (hm : meetsB l m = true) (h1 : allWithin 262144 l = true) (h2 : allWithin 1048576 m = true) : PtsOk (tstX l m, tstY l m) (ptsZ l m) := by
  have h0 := hm
  unfold meetsB at h0
  rw [decide_eq_true_iff] at h0
  obtain ⟨hE, d1, d2⟩ := h0
  obtain ⟨hl, hm'⟩ := bothE_zero.1 hE
  obtain ⟨s, e, d, hso, k1, k2⟩ := least_some hm
  obtain ⟨l8, _, _, _⟩ := checkE_zero hl
  obtain ⟨m8, _, _, _⟩ := checkE_zero hm'
  unfold ptsZ
  rw [hso]
  dsimp only
  cases s with
  | true =>
    rw [if_pos rfl]
    have he := k1 rfl
    exact ptsR_ok hm' hl he (d2 e he) h2 h1 (by omega) (by omega) (by omega) (by omega)
  | false =>
    rw [if_neg (by simp)]
    have he := k2 rfl
    exact ptsR_ok hl hm' he (d1 e he) h1 h2 (by omega) (by omega) (by omega) (by omega)

end Go.Proofs.Ythhfjiikmaghdaa
