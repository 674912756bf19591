/- Plain mathematics of the law BodyPlaced: turned polygons stay convex. No program is in sight. -/
import Derived.Test.YtmkmmblgmldilaaN5
import Derived.Test.YtmkmmblgmldilaaM14
namespace Go.Proofs.Ytmkmmblgmldilaa
set_option linter.unusedVariables false
set_option linter.unusedSimpArgs false
open Go.RowKit

theorem tab_mono : ∀ k, k < 64 → tabZ k ≤ tabZ (k + 1) := by decide
theorem tab_norm : ∀ k, k < 64 → 4000000000 ≤ tabZ k * tabZ k + tabZ (63 - k) * tabZ (63 - k) := by decide
theorem tab_64 : tabZ 64 = 65536 := by decide
theorem first_low {a : Int} (h0 : 0 ≤ a) (h1 : a ≤ 16384) : tabZ (a / 256).toNat ≤ firstZ a ∧ firstZ a ≤ 65536 := by
  unfold firstZ
  obtain ⟨k, hk⟩ : ∃ k, k = (a / 256).toNat := ⟨_, rfl⟩
  rw [← hk]
  have bk := tabZ_bd k
  by_cases hz : a % 256 = 0
  · rw [if_pos hz]; omega
  · rw [if_neg hz]
    have hm := tab_mono k (by omega)
    have bk1 := tabZ_bd (k + 1)
    obtain ⟨d, hd⟩ : ∃ d, d = tabZ (k + 1) - tabZ k := ⟨_, rfl⟩
    obtain ⟨f, hf⟩ : ∃ f, f = a % 256 := ⟨_, rfl⟩
    rw [← hd, ← hf]
    have m0 : 0 ≤ d * f := Int.mul_nonneg (by omega) (by omega)
    have m1 : d * f ≤ d * 255 := Int.mul_le_mul_of_nonneg_left (by omega) (by omega)
    rw [Int.tdiv_eq_ediv_of_nonneg (by omega)]
    generalize d * f = z at *
    omega
/-- the squares of a sine and a cosine -/
theorem norm_first {r : Int} (h0 : 0 ≤ r) (h1 : r < 16384) : 4000000000 ≤ firstZ r * firstZ r + firstZ (16384 - r) * firstZ (16384 - r) ∧ (0 ≤ firstZ r ∧ firstZ r ≤ 65536) ∧ (0 ≤ firstZ (16384 - r) ∧ firstZ (16384 - r) ≤ 65536) := by
  obtain ⟨a1, a2⟩ := first_low (a := r) h0 (by omega)
  obtain ⟨b1, b2⟩ := first_low (a := 16384 - r) (by omega) (by omega)
  obtain ⟨k, hk⟩ : ∃ k, k = (r / 256).toNat := ⟨_, rfl⟩
  have hk64 : k < 64 := by omega
  have hb : tabZ (63 - k) ≤ tabZ ((16384 - r) / 256).toNat := by
    by_cases hz : r % 256 = 0
    · rw [show ((16384 - r) / 256).toNat = 63 - k + 1 by omega]; exact tab_mono _ (by omega)
    · rw [show ((16384 - r) / 256).toNat = 63 - k by omega]; exact Int.le_refl _
  rw [← hk] at a1
  have n := tab_norm k hk64
  have t1 := tabZ_bd k
  have t2 := tabZ_bd (63 - k)
  have s1 : tabZ k * tabZ k ≤ firstZ r * firstZ r := Int.mul_le_mul a1 a1 (by omega) (by omega)
  have s2 : tabZ (63 - k) * tabZ (63 - k) ≤ firstZ (16384 - r) * firstZ (16384 - r) := Int.mul_le_mul (by omega) (by omega) (by omega) (by omega)
  exact ⟨by omega, ⟨by omega, a2⟩, ⟨by omega, b2⟩⟩
theorem norm_ang {a : Int} (h0 : 0 ≤ a) (h1 : a ≤ 65535) : 4000000000 ≤ cosZ a * cosZ a + sinZ a * sinZ a ∧ (-65536 ≤ cosZ a ∧ cosZ a ≤ 65536) ∧ (-65536 ≤ sinZ a ∧ sinZ a ≤ 65536) := by
  obtain ⟨r, hr⟩ : ∃ r, r = a % 16384 := ⟨_, rfl⟩
  obtain ⟨n, p1, p2⟩ := norm_first (r := r) (by omega) (by omega)
  have hs : sinZ a = if a / 16384 = 0 then firstZ r else if a / 16384 = 1 then firstZ (16384 - r) else if a / 16384 = 2 then - firstZ r else - firstZ (16384 - r) := by
    unfold sinZ; rw [show a % 65536 / 16384 = a / 16384 by omega, ← hr]
  have hc : cosZ a = if (a / 16384 + 1) % 4 = 0 then firstZ r else if (a / 16384 + 1) % 4 = 1 then firstZ (16384 - r) else if (a / 16384 + 1) % 4 = 2 then - firstZ r else - firstZ (16384 - r) := by
    unfold cosZ sinZ
    rw [show (a % 65536 + 16384) % 65536 / 16384 = (a / 16384 + 1) % 4 by omega, show (a % 65536 + 16384) % 16384 = r by omega]
  generalize firstZ r = x at *
  generalize firstZ (16384 - r) = y at *
  have hq : a / 16384 = 0 ∨ a / 16384 = 1 ∨ a / 16384 = 2 ∨ a / 16384 = 3 := by omega
  have e1 : -x * -x = x * x := Int.neg_mul_neg x x
  have e2 : -y * -y = y * y := Int.neg_mul_neg y y
  rcases hq with h | h | h | h
  · have s' : sinZ a = x := by rw [hs]; (repeat' split) <;> omega
    have c' : cosZ a = y := by rw [hc]; (repeat' split) <;> omega
    rw [s', c']
    exact ⟨by omega, by omega, by omega⟩
  · have s' : sinZ a = y := by rw [hs]; (repeat' split) <;> omega
    have c' : cosZ a = -x := by rw [hc]; (repeat' split) <;> omega
    rw [s', c']
    exact ⟨by omega, by omega, by omega⟩
  · have s' : sinZ a = -x := by rw [hs]; (repeat' split) <;> omega
    have c' : cosZ a = -y := by rw [hc]; (repeat' split) <;> omega
    rw [s', c']
    exact ⟨by omega, by omega, by omega⟩
  · have s' : sinZ a = -y := by rw [hs]; (repeat' split) <;> omega
    have c' : cosZ a = x := by rw [hc]; (repeat' split) <;> omega
    rw [s', c']
    exact ⟨by omega, by omega, by omega⟩

/-- a turned point, up to rounding -/
theorem turn_near {x y a : Int} (hx : -262144 ≤ x ∧ x ≤ 262144) (hy : -262144 ≤ y ∧ y ≤ 262144) (h0 : 0 ≤ a) (h1 : a ≤ 65535) :
    (-65536 ≤ 65536 * turnX x y a - (cosZ a * x - sinZ a * y) ∧ 65536 * turnX x y a - (cosZ a * x - sinZ a * y) ≤ 65536) ∧ (-65536 ≤ 65536 * turnY x y a - (sinZ a * x + cosZ a * y) ∧ 65536 * turnY x y a - (sinZ a * x + cosZ a * y) ≤ 65536) ∧ (-600000 ≤ turnX x y a ∧ turnX x y a ≤ 600000) ∧ (-600000 ≤ turnY x y a ∧ turnY x y a ≤ 600000) := by
  obtain ⟨_, bc, bs⟩ := norm_ang h0 h1
  unfold turnX turnY
  generalize cosZ a = c at *
  generalize sinZ a = s at *
  have H : ∀ u v : Int, (-262144 ≤ u ∧ u ≤ 262144) → (-65536 ≤ v ∧ v ≤ 65536) → (-32768 ≤ 65536 * mulF u v - u * v ∧ 65536 * mulF u v - u * v ≤ 32768) ∧ (-262145 ≤ mulF u v ∧ mulF u v ≤ 262145) := by
    intro u v hu hv
    obtain ⟨e, _, _⟩ := mulF_sm (a := u) (b := v) (by omega) (by omega)
    obtain ⟨r1, r2⟩ := rnd_spec (W := u * v) (n := 65536) (by omega)
    have m := mul_bd (x := u) (y := v) (M := 262144) (N := 65536) (by omega) (by omega) (by omega) (by omega)
    rw [e]
    generalize rnd (u * v) 65536 = q at *
    generalize u * v = z at *
    omega
  obtain ⟨a1, a2⟩ := H x c hx bc
  obtain ⟨b1, b2⟩ := H y s hy bs
  obtain ⟨c1, c2⟩ := H x s hx bs
  obtain ⟨d1, d2⟩ := H y c hy bc
  rw [subF_sm (by omega) (by omega), addF_sm (by omega) (by omega), Int.mul_comm c x, Int.mul_comm s y, Int.mul_comm s x, Int.mul_comm c y]
  generalize x * c = z1 at *
  generalize y * s = z2 at *
  generalize x * s = z3 at *
  generalize y * c = z4 at *
  omega

/-- two turned edges still turn left -/
theorem turn_cross {c s ex ey fx fy d1 d2 d3 d4 Ex Ey Fx Fy : Int} (h1 : 65536 * Ex = c * ex - s * ey + d1) (h2 : 65536 * Ey = s * ex + c * ey + d2) (h3 : 65536 * Fx = c * fx - s * fy + d3) (h4 : 65536 * Fy = s * fx + c * fy + d4)
    (b1 : -131072 ≤ d1 ∧ d1 ≤ 131072) (b2 : -131072 ≤ d2 ∧ d2 ≤ 131072) (b3 : -131072 ≤ d3 ∧ d3 ≤ 131072) (b4 : -131072 ≤ d4 ∧ d4 ≤ 131072)
    (bc : -65536 ≤ c ∧ c ≤ 65536) (bs : -65536 ≤ s ∧ s ≤ 65536) (be1 : -524288 ≤ ex ∧ ex ≤ 524288) (be2 : -524288 ≤ ey ∧ ey ≤ 524288) (bf1 : -524288 ≤ fx ∧ fx ≤ 524288) (bf2 : -524288 ≤ fy ∧ fy ≤ 524288)
    (hN : 4000000000 ≤ c * c + s * s) (hC : 1073741824 ≤ ex * fy - ey * fx) : 0 < Ex * Fy - Ey * Fx := by
  obtain ⟨P, hP⟩ : ∃ P, P = c * ex - s * ey := ⟨_, rfl⟩
  obtain ⟨Q, hQ⟩ : ∃ Q, Q = s * ex + c * ey := ⟨_, rfl⟩
  obtain ⟨R, hR⟩ : ∃ R, R = c * fx - s * fy := ⟨_, rfl⟩
  obtain ⟨S, hS⟩ : ∃ S, S = s * fx + c * fy := ⟨_, rfl⟩
  have id1 : P * S - Q * R = (c * c + s * s) * (ex * fy - ey * fx) := by rw [hP, hQ, hR, hS]; grind
  have M : ∀ u v : Int, (-65536 ≤ u ∧ u ≤ 65536) → (-524288 ≤ v ∧ v ≤ 524288) → -34359738368 ≤ u * v ∧ u * v ≤ 34359738368 := fun u v hu hv => by
    have := mul_bd (x := u) (y := v) (M := 65536) (N := 524288) (by omega) (by omega) (by omega) (by omega)
    omega
  have g1 := M c ex bc be1
  have g2 := M s ey bs be2
  have g3 := M s ex bs be1
  have g4 := M c ey bc be2
  have g5 := M c fx bc bf1
  have g6 := M s fy bs bf2
  have g7 := M s fx bs bf1
  have g8 := M c fy bc bf2
  have bP : -68719476736 ≤ P ∧ P ≤ 68719476736 := by omega
  have bQ : -68719476736 ≤ Q ∧ Q ≤ 68719476736 := by omega
  have bR : -68719476736 ≤ R ∧ R ≤ 68719476736 := by omega
  have bS : -68719476736 ≤ S ∧ S ≤ 68719476736 := by omega
  have D : ∀ u v : Int, (-68719476736 ≤ u ∧ u ≤ 68719476736) → (-131072 ≤ v ∧ v ≤ 131072) → -9007199254740992 ≤ u * v ∧ u * v ≤ 9007199254740992 := fun u v hu hv => by
    have := mul_bd (x := u) (y := v) (M := 68719476736) (N := 131072) (by omega) (by omega) (by omega) (by omega)
    omega
  have k1 := D P d4 bP b4
  have k2 := D S d1 bS b1
  have k3 := D Q d3 bQ b3
  have k4 := D R d2 bR b2
  have k5 := D d1 d4 (by omega) b4
  have k6 := D d2 d3 (by omega) b3
  have hbig : 4000000000 * 1073741824 ≤ (c * c + s * s) * (ex * fy - ey * fx) := Int.mul_le_mul hN hC (by omega) (by omega)
  have e : 65536 * Ex * (65536 * Fy) - 65536 * Ey * (65536 * Fx) = P * S - Q * R + P * d4 + S * d1 + d1 * d4 - Q * d3 - R * d2 - d2 * d3 := by
    rw [h1, h2, h3, h4, ← hP, ← hQ, ← hR, ← hS]; grind
  have e2 : 65536 * Ex * (65536 * Fy) - 65536 * Ey * (65536 * Fx) = 4294967296 * (Ex * Fy - Ey * Fx) := by grind
  rw [e2, id1] at e
  generalize (c * c + s * s) * (ex * fy - ey * fx) = z at *
  generalize Ex * Fy - Ey * Fx = y at *
  generalize P * d4 = z1 at *
  generalize S * d1 = z2 at *
  generalize d1 * d4 = z3 at *
  generalize Q * d3 = z4 at *
  generalize R * d2 = z5 at *
  generalize d2 * d3 = z6 at *
  omega

theorem made_wide {l : List V} (h : Made l) : ∀ i, i < l.length → ∀ k, k < l.length → (k = i ∨ k = (i + 1) % l.length ∨ 1073741824 ≤ sideL l i ((i + 1) % l.length) k) := by
  have D : ∀ L : List V, ((List.range L.length).all fun i => (List.range L.length).all fun k => decide (k = i ∨ k = (i + 1) % L.length ∨ 1073741824 ≤ sideL L i ((i + 1) % L.length) k)) = true → ∀ i, i < L.length → ∀ k, k < L.length → (k = i ∨ k = (i + 1) % L.length ∨ 1073741824 ≤ sideL L i ((i + 1) % L.length) k) := fun L hL i hi k hk => by
    rw [List.all_eq_true] at hL
    have h1 := hL i (List.mem_range.2 hi)
    rw [List.all_eq_true] at h1
    exact of_decide_eq_true (h1 k (List.mem_range.2 hk))
  obtain ⟨a, b, k, x, ha, hb, hk, h1, h2, rfl⟩ := h
  rcases hk with rfl | rfl | rfl | rfl
  · rw [formL_nox _ _ _ _ (by decide)]; refine D _ ?_; rcases ha with rfl | rfl | rfl | rfl <;> rcases hb with rfl | rfl | rfl | rfl <;> decide
  · have hw : 65536 * a = 65536 ∨ 65536 * a = 131072 ∨ 65536 * a = 196608 ∨ 65536 * a = 262144 := by omega
    have hh : 65536 * b = 65536 ∨ 65536 * b = 131072 ∨ 65536 * b = 196608 ∨ 65536 * b = 262144 := by omega
    have hp : 4294967296 ≤ 65536 * a * (65536 * b) := by rcases ha with rfl | rfl | rfl | rfl <;> rcases hb with rfl | rfl | rfl | rfl <;> decide
    show ∀ i, i < ([(-(65536 * a), -(65536 * b)), (65536 * a, -(65536 * b)), (x, 65536 * b)] : List V).length → _
    generalize 65536 * a = w at *
    generalize 65536 * b = h at *
    intro i hi k hk
    show k = i ∨ k = (i + 1) % 3 ∨ 1073741824 ≤ sideL [(-w, -h), (w, -h), (x, h)] i ((i + 1) % 3) k
    simp only [List.length_cons, List.length_nil] at hi
    have hk3 : k < 3 := hk
    match i, hi, k, hk3 with
    | 0, _, 0, _ => exact .inl rfl
    | 0, _, 1, _ => exact .inr (.inl rfl)
    | 0, _, 2, _ => refine .inr (.inr ?_); simp [sideL, sideZ, px, py]; grind
    | 1, _, 0, _ => refine .inr (.inr ?_); simp [sideL, sideZ, px, py]; grind
    | 1, _, 1, _ => exact .inl rfl
    | 1, _, 2, _ => exact .inr (.inl rfl)
    | 2, _, 0, _ => exact .inr (.inl (by simp))
    | 2, _, 1, _ => refine .inr (.inr ?_); simp [sideL, sideZ, px, py]; grind
    | 2, _, 2, _ => exact .inl rfl
  · rw [formL_nox _ _ _ _ (by decide)]; refine D _ ?_; rcases ha with rfl | rfl | rfl | rfl <;> rcases hb with rfl | rfl | rfl | rfl <;> decide
  · rw [formL_nox _ _ _ _ (by decide)]; refine D _ ?_; rcases ha with rfl | rfl | rfl | rfl <;> rcases hb with rfl | rfl | rfl | rfl <;> decide

theorem wX_sm {b : Bd} (h : MadeB b) {p q : Int} (ht : -600000 ≤ turnX p q b.ang ∧ turnX p q b.ang ≤ 600000) : wX b p q = turnX p q b.ang + b.px := by
  have := h.px
  unfold wX; exact addF_sm (by omega) (by omega)
theorem wY_sm {b : Bd} (h : MadeB b) {p q : Int} (ht : -600000 ≤ turnY p q b.ang ∧ turnY p q b.ang ≤ 600000) : wY b p q = turnY p q b.ang + b.py := by
  have := h.py
  unfold wY; exact addF_sm (by omega) (by omega)
theorem within_each {l : List V} {m : Int} (h : ∀ j, j < l.length → withinB m (px l j) (py l j) = true) : allWithin m l = true := by
  unfold allWithin
  rw [List.all_eq_true]
  intro x hx
  obtain ⟨j, hj, rfl⟩ := List.mem_iff_getElem.1 hx
  have := h j hj
  simpa [px, py, hj] using this
theorem placed_check {b : Bd} {l : List V} (h : MadeB b) (hl : Made l) : checkE (placeL b l) = 0 := by
  have hw := made_within hl
  have hlen := made_len hl
  have hmw := made_wide hl
  obtain ⟨hN, bc, bs⟩ := norm_ang h.ang.1 h.ang.2
  have T : ∀ j, j < l.length → _ := fun j hj => turn_near (x := px l j) (y := py l j) (a := b.ang) (by have := withinB_iff.1 (allWithin_at hw hj); omega) (by have := withinB_iff.1 (allWithin_at hw hj); omega) h.ang.1 h.ang.2
  have hpx := h.px
  have hpy := h.py
  refine checkE_ok (by rw [placeL_len]; omega) (by rw [placeL_len]; omega) ?_ ?_
  · refine within_each fun j hj => ?_
    rw [placeL_len] at hj
    obtain ⟨_, _, t3, t4⟩ := T j hj
    rw [px_placeL hj, py_placeL hj, wX_sm h t3, wY_sm h t4]
    exact withinB_iff.2 (by omega)
  · intro i hi k hk
    rw [placeL_len] at hi hk
    have hj : (i + 1) % l.length < l.length := Nat.mod_lt _ (by omega)
    refine edgeBad_not ?_
    rw [placeL_len]
    rcases hmw i hi k hk with e | e | e
    · exact .inl e
    · exact .inr (.inl e)
    · refine .inr (.inr ?_)
      obtain ⟨j, hje⟩ : ∃ j, j = (i + 1) % l.length := ⟨_, rfl⟩
      rw [← hje] at hj e ⊢
      unfold sideL sideZ at e ⊢
      obtain ⟨i1, i2, i3, i4⟩ := T i hi
      obtain ⟨j1, j2, j3, j4⟩ := T j hj
      obtain ⟨k1, k2, k3, k4⟩ := T k hk
      rw [px_placeL hi, py_placeL hi, px_placeL hj, py_placeL hj, px_placeL hk, py_placeL hk, wX_sm h i3, wY_sm h i4, wX_sm h j3, wY_sm h j4, wX_sm h k3, wY_sm h k4]
      have wi := withinB_iff.1 (allWithin_at hw hi)
      have wj := withinB_iff.1 (allWithin_at hw hj)
      have wk := withinB_iff.1 (allWithin_at hw hk)
      generalize cosZ b.ang = c at *
      generalize sinZ b.ang = s at *
      generalize turnX (px l i) (py l i) b.ang = Xi at *
      generalize turnY (px l i) (py l i) b.ang = Yi at *
      generalize turnX (px l j) (py l j) b.ang = Xj at *
      generalize turnY (px l j) (py l j) b.ang = Yj at *
      generalize turnX (px l k) (py l k) b.ang = Xk at *
      generalize turnY (px l k) (py l k) b.ang = Yk at *
      generalize px l i = xi at *
      generalize py l i = yi at *
      generalize px l j = xj at *
      generalize py l j = yj at *
      generalize px l k = xk at *
      generalize py l k = yk at *
      have r1 : c * (xj - xi) - s * (yj - yi) = (c * xj - s * yj) - (c * xi - s * yi) := by grind
      have r2 : s * (xj - xi) + c * (yj - yi) = (s * xj + c * yj) - (s * xi + c * yi) := by grind
      have r3 : c * (xk - xi) - s * (yk - yi) = (c * xk - s * yk) - (c * xi - s * yi) := by grind
      have r4 : s * (xk - xi) + c * (yk - yi) = (s * xk + c * yk) - (s * xi + c * yi) := by grind
      have := turn_cross (c := c) (s := s) (ex := xj - xi) (ey := yj - yi) (fx := xk - xi) (fy := yk - yi) (Ex := Xj - Xi) (Ey := Yj - Yi) (Fx := Xk - Xi) (Fy := Yk - Yi)
        (d1 := (65536 * Xj - (c * xj - s * yj)) - (65536 * Xi - (c * xi - s * yi))) (d2 := (65536 * Yj - (s * xj + c * yj)) - (65536 * Yi - (s * xi + c * yi))) (d3 := (65536 * Xk - (c * xk - s * yk)) - (65536 * Xi - (c * xi - s * yi))) (d4 := (65536 * Yk - (s * xk + c * yk)) - (65536 * Yi - (s * xi + c * yi)))
        (by rw [r1]; omega) (by rw [r2]; omega) (by rw [r3]; omega) (by rw [r4]; omega) (by omega) (by omega) (by omega) (by omega) bc bs (by omega) (by omega) (by omega) (by omega) hN (by grind)
      grind

theorem minTo_le (r : List Int) : ∀ k j, j ≤ k → minTo r k ≤ r.getD j 0 := by
  intro k
  induction k with
  | zero => intro j hj; rw [show j = 0 by omega]; exact Int.le_refl _
  | succ k ih =>
    intro j hj
    unfold minTo mnI
    by_cases e : j = k + 1
    · subst e; split <;> omega
    · have := ih j (by omega)
      split <;> omega
theorem le_maxTo (r : List Int) : ∀ k j, j ≤ k → r.getD j 0 ≤ maxTo r k := by
  intro k
  induction k with
  | zero => intro j hj; rw [show j = 0 by omega]; exact Int.le_refl _
  | succ k ih =>
    intro j hj
    unfold maxTo mxI
    by_cases e : j = k + 1
    · subst e; split <;> omega
    · have := ih j (by omega)
      split <;> omega
theorem minL_le {r : List Int} {j : Nat} (h : j < r.length) : minL r ≤ r.getD j 0 := minTo_le r _ j (by omega)
theorem le_maxL {r : List Int} {j : Nat} (h : j < r.length) : r.getD j 0 ≤ maxL r := le_maxTo r _ j (by omega)
theorem made_origin {l : List V} (h : Made l) (u v : Int) : ∃ j, j < l.length ∧ u * px l j + v * py l j ≤ 0 := by
  obtain ⟨a, b, k, x, ha, hb, hk, h1, h2, rfl⟩ := h
  have hw : 0 < 65536 * a := by omega
  have hh : 0 < 65536 * b := by omega
  generalize 65536 * a = w at *
  generalize 65536 * b = h at *
  rcases hk with rfl | rfl | rfl | rfl
  · rcases Int.lt_or_le 0 (u * w + v * h) with g | g
    · exact ⟨0, by simp [formL], by simp [formL, px, py]; rw [Int.mul_neg, Int.mul_neg]; omega⟩
    · exact ⟨2, by simp [formL], by simp [formL, px, py]; omega⟩
  · rcases Int.lt_or_le 0 (u * -w + v * -h) with g | g
    · rcases Int.lt_or_le 0 (u * w + v * -h) with g2 | g2
      · refine ⟨2, by simp [formL], ?_⟩
        simp [formL, px, py]
        rw [Int.mul_neg, Int.mul_neg] at g
        rw [Int.mul_neg] at g2
        rcases Int.lt_or_le 0 u with hu | hu
        · have : u * x ≤ u * w := Int.mul_le_mul_of_nonneg_left (by omega) (by omega)
          omega
        · have : u * x ≤ u * -w := by
            have := Int.mul_le_mul_of_nonneg_left (show -w ≤ x by omega) (show 0 ≤ -u by omega)
            rw [Int.neg_mul, Int.neg_mul] at this
            omega
          rw [Int.mul_neg] at this
          omega
      · exact ⟨1, by simp [formL], by simp [formL, px, py]; omega⟩
    · exact ⟨0, by simp [formL], by simp [formL, px, py]; omega⟩
  · rcases Int.lt_or_le 0 (u * w + v * h) with g | g
    · exact ⟨0, by simp [formL], by simp [formL, px, py]; rw [Int.mul_neg, Int.mul_neg]; omega⟩
    · exact ⟨3, by simp [formL], by simp [formL, px, py]; omega⟩
  · rcases Int.lt_or_le 0 (u * w) with g | g
    · exact ⟨0, by simp [formL], by simp [formL, px, py]; rw [Int.mul_neg]; omega⟩
    · exact ⟨2, by simp [formL], by simp [formL, px, py]; omega⟩

/-- what the walk of BodyPlaced asks -/
structure PlacedLaw (b : Bd) (l : List V) : Prop where
  ok : bodyE b l = 0
  check : checkE (placeL b l) = 0
  len : 3 ≤ l.length ∧ l.length ≤ 5
  lx : ∀ j, j < l.length → minL (xsL (placeL b l)) ≤ px (placeL b l) j ∧ px (placeL b l) j ≤ maxL (xsL (placeL b l))
  ly : ∀ j, j < l.length → minL (ysL (placeL b l)) ≤ py (placeL b l) j ∧ py (placeL b l) j ≤ maxL (ysL (placeL b l))
  bx : (-2000000 ≤ minL (xsL (placeL b l)) ∧ minL (xsL (placeL b l)) ≤ b.px + 2) ∧ (b.px - 2 ≤ maxL (xsL (placeL b l)) ∧ maxL (xsL (placeL b l)) ≤ 2000000)
  bY : (-2000000 ≤ minL (ysL (placeL b l)) ∧ minL (ysL (placeL b l)) ≤ b.py + 2) ∧ (b.py - 2 ≤ maxL (ysL (placeL b l)) ∧ maxL (ysL (placeL b l)) ≤ 2000000)
  pos : (-655360 ≤ b.px ∧ b.px ≤ 655360) ∧ (-655360 ≤ b.py ∧ b.py ≤ 655360)
theorem minTo_mem (r : List Int) : ∀ k, ∃ j, j ≤ k ∧ minTo r k = r.getD j 0 := by
  intro k
  induction k with
  | zero => exact ⟨0, Nat.le_refl _, rfl⟩
  | succ k ih =>
    obtain ⟨j, hj, e⟩ := ih
    unfold minTo mnI
    split
    · exact ⟨k + 1, Nat.le_refl _, rfl⟩
    · exact ⟨j, by omega, e⟩
theorem maxTo_mem (r : List Int) : ∀ k, ∃ j, j ≤ k ∧ maxTo r k = r.getD j 0 := by
  intro k
  induction k with
  | zero => exact ⟨0, Nat.le_refl _, rfl⟩
  | succ k ih =>
    obtain ⟨j, hj, e⟩ := ih
    unfold maxTo mxI
    split
    · exact ⟨k + 1, Nat.le_refl _, rfl⟩
    · exact ⟨j, by omega, e⟩
theorem placedLaw {b : Bd} {l : List V} (h : MadeB b) (hl : Made l) : PlacedLaw b l := by
  have hw := made_within hl
  have hlen := made_len hl
  have T : ∀ j, j < l.length → _ := fun j hj => turn_near (x := px l j) (y := py l j) (a := b.ang) (by have := withinB_iff.1 (allWithin_at hw hj); omega) (by have := withinB_iff.1 (allWithin_at hw hj); omega) h.ang.1 h.ang.2
  have hpx := h.px
  have hpy := h.py
  have X : ∀ j, j < l.length → (xsL (placeL b l)).getD j 0 = turnX (px l j) (py l j) b.ang + b.px := fun j hj => by
    rw [getD_xs (by rw [placeL_len]; exact hj), px_placeL hj, wX_sm h (T j hj).2.2.1]
  have Y : ∀ j, j < l.length → (ysL (placeL b l)).getD j 0 = turnY (px l j) (py l j) b.ang + b.py := fun j hj => by
    rw [getD_ys (by rw [placeL_len]; exact hj), py_placeL hj, wY_sm h (T j hj).2.2.2]
  have lx : (xsL (placeL b l)).length = l.length := by rw [xsL_len, placeL_len]
  have ly : (ysL (placeL b l)).length = l.length := by rw [ysL_len, placeL_len]
  obtain ⟨j1, q1, e1⟩ := made_origin hl (cosZ b.ang) (- sinZ b.ang)
  obtain ⟨j2, q2, e2⟩ := made_origin hl (- cosZ b.ang) (sinZ b.ang)
  obtain ⟨j3, q3, e3⟩ := made_origin hl (sinZ b.ang) (cosZ b.ang)
  obtain ⟨j4, q4, e4⟩ := made_origin hl (- sinZ b.ang) (- cosZ b.ang)
  rw [Int.neg_mul] at e1
  rw [Int.neg_mul] at e2
  rw [Int.neg_mul, Int.neg_mul] at e4
  have m1 := minL_le (r := xsL (placeL b l)) (j := j1) (by omega)
  have m2 := le_maxL (r := xsL (placeL b l)) (j := j2) (by omega)
  have m3 := minL_le (r := ysL (placeL b l)) (j := j3) (by omega)
  have m4 := le_maxL (r := ysL (placeL b l)) (j := j4) (by omega)
  rw [X j1 q1] at m1
  rw [X j2 q2] at m2
  rw [Y j3 q3] at m3
  rw [Y j4 q4] at m4
  have t1 := (T j1 q1).1
  have t2 := (T j2 q2).1
  have t3 := (T j3 q3).2.1
  have t4 := (T j4 q4).2.1
  have LO : ∀ j, j < l.length → _ := fun j hj => (T j hj).2.2
  obtain ⟨k1, p1, f1⟩ := minTo_mem (xsL (placeL b l)) ((xsL (placeL b l)).length - 1)
  obtain ⟨k2, p2, f2⟩ := maxTo_mem (xsL (placeL b l)) ((xsL (placeL b l)).length - 1)
  obtain ⟨k3, p3, f3⟩ := minTo_mem (ysL (placeL b l)) ((ysL (placeL b l)).length - 1)
  obtain ⟨k4, p4, f4⟩ := maxTo_mem (ysL (placeL b l)) ((ysL (placeL b l)).length - 1)
  have g1 := LO k1 (by omega)
  have g2 := LO k2 (by omega)
  have g3 := LO k3 (by omega)
  have g4 := LO k4 (by omega)
  rw [X k1 (by omega)] at f1
  rw [X k2 (by omega)] at f2
  rw [Y k3 (by omega)] at f3
  rw [Y k4 (by omega)] at f4
  refine ⟨madeB_ok h hl, placed_check h hl, hlen, fun j hj => ?_, fun j hj => ?_, ?_, ?_, hpx, hpy⟩
  · have a := minL_le (r := xsL (placeL b l)) (j := j) (by omega)
    have c := le_maxL (r := xsL (placeL b l)) (j := j) (by omega)
    rw [getD_xs (by rw [placeL_len]; exact hj)] at a c
    exact ⟨a, c⟩
  · have a := minL_le (r := ysL (placeL b l)) (j := j) (by omega)
    have c := le_maxL (r := ysL (placeL b l)) (j := j) (by omega)
    rw [getD_ys (by rw [placeL_len]; exact hj)] at a c
    exact ⟨a, c⟩
  · refine ⟨⟨?_, by omega⟩, ⟨by omega, ?_⟩⟩
    · show -2000000 ≤ minTo _ _; rw [f1]; omega
    · show maxTo _ _ ≤ 2000000; rw [f2]; omega
  · refine ⟨⟨?_, by omega⟩, ⟨by omega, ?_⟩⟩
    · show -2000000 ≤ minTo _ _; rw [f3]; omega
    · show maxTo _ _ ≤ 2000000; rw [f4]; omega

end Go.Proofs.Ytmkmmblgmldilaa
