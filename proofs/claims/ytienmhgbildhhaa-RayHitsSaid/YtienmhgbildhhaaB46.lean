/- Parts of a proof: contracts and laws. -/
import Derived.Test.YtienmhgbildhhaaB45
import Derived.Test.YtienmhgbildhhaaB14
import Derived.Test.YtienmhgbildhhaaB13
import Derived.Test.YtienmhgbildhhaaB43
namespace Go.Proofs.Ytienmhgbildhhaa
section
set_option linter.unusedVariables false
set_option linter.unusedSimpArgs false
open Go.RowKit
theorem absZ_le {a M : Int} (h1 : -M ≤ a) (h2 : a ≤ M) : absZ a ≤ M := by unfold absZ; split <;> omega
theorem sizeL_made {l : List V} (h : allWithin 262144 l = true) {i k : Nat} (hi : i < l.length) (hk : k < l.length) : sizeL l i k ≤ 1048576 := by
  have h1 := withinB_iff.1 (allWithin_at h hi)
  have h2 := withinB_iff.1 (allWithin_at h hk)
  have e1 := absZ_le (a := px l k - px l i) (M := 524288) (by omega) (by omega)
  have e2 := absZ_le (a := py l k - py l i) (M := 524288) (by omega) (by omega)
  unfold sizeL
  omega
theorem fatBad_not {l : List V} (hw : allWithin 262144 l = true) {i k : Nat} (hi : i < l.length) (hk : k < l.length) (h : k = i ∨ k = (i + 1) % l.length ∨ 16777216 ≤ sideL l i ((i + 1) % l.length) k) : fatBad l i k = false := by
  unfold fatBad
  refine decide_eq_false ?_
  rintro ⟨n1, n2, n3⟩
  rcases h with h | h | h
  · exact n1 h
  · exact n2 h
  · have a1 := sizeL_made hw hi (Nat.mod_lt (i + 1) (show 0 < l.length by omega))
    have a2 := sizeL_made hw hi hk
    omega
theorem fat_of {l : List V} (hw : allWithin 262144 l = true) (h : ∀ i, i < l.length → ∀ k, k < l.length → (k = i ∨ k = (i + 1) % l.length ∨ 16777216 ≤ sideL l i ((i + 1) % l.length) k)) : fatB l = true :=
  fatB_ok fun i hi k hk => fatBad_not hw hi hk (h i hi k hk)
theorem tri_fat {w h x : Int} (hw : w = 65536 ∨ w = 131072 ∨ w = 196608 ∨ w = 262144) (hh : h = 65536 ∨ h = 131072 ∨ h = 196608 ∨ h = 262144) (h1 : -w ≤ x) (h2 : x < w) : fatB [(-w, -h), (w, -h), (x, h)] = true := by
  have hp : 4294967296 ≤ w * h := by rcases hw with rfl | rfl | rfl | rfl <;> omega
  refine fat_of (by simp [allWithin, withinB]; omega) ?_
  intro i hi k hk
  simp only [List.length_cons, List.length_nil] at hi hk
  match i, hi, k, hk with
  | 0, _, 0, _ => exact .inl rfl
  | 0, _, 1, _ => exact .inr (.inl rfl)
  | 0, _, 2, _ => refine .inr (.inr ?_); simp [sideL, sideZ, px, py]; grind
  | 1, _, 0, _ => refine .inr (.inr ?_); simp [sideL, sideZ, px, py]; grind
  | 1, _, 1, _ => exact .inl rfl
  | 1, _, 2, _ => exact .inr (.inl rfl)
  | 2, _, 0, _ => exact .inr (.inl (by simp))
  | 2, _, 1, _ => refine .inr (.inr ?_); simp [sideL, sideZ, px, py]; grind
  | 2, _, 2, _ => exact .inl rfl
theorem made_fat {l : List V} (h : Made l) : fatB l = true := by
  obtain ⟨a, b, k, x, ha, hb, hk, h1, h2, rfl⟩ := h
  rcases hk with rfl | rfl | rfl | rfl
  · rw [formL_nox _ _ _ _ (by decide)]; rcases ha with rfl | rfl | rfl | rfl <;> rcases hb with rfl | rfl | rfl | rfl <;> decide
  · exact tri_fat (by omega) (by omega) h1 h2
  · rw [formL_nox _ _ _ _ (by decide)]; rcases ha with rfl | rfl | rfl | rfl <;> rcases hb with rfl | rfl | rfl | rfl <;> decide
  · rw [formL_nox _ _ _ _ (by decide)]; rcases ha with rfl | rfl | rfl | rfl <;> rcases hb with rfl | rfl | rfl | rfl <;> decide
theorem tri_has {w h x : Int} (hw : w = 65536 ∨ w = 131072 ∨ w = 196608 ∨ w = 262144) (hh : h = 65536 ∨ h = 131072 ∨ h = 196608 ∨ h = 262144) (h1 : -w ≤ x) (h2 : x < w) : hasB [(-w, -h), (w, -h), (x, h)] 0 0 = true := by
  refine hasB_true (made_tri _ _ _ (by omega) (by omega) (by omega) (by omega) h1 h2) (by decide) ?_
  intro i hi
  simp only [List.length_cons, List.length_nil] at hi
  match i, hi with
  | 0, _ => rcases hw with rfl | rfl | rfl | rfl <;> rcases hh with rfl | rfl | rfl | rfl <;> simp [edgeP, sideZ, px, py]
  | 1, _ => rcases hw with rfl | rfl | rfl | rfl <;> rcases hh with rfl | rfl | rfl | rfl <;> simp [edgeP, sideZ, px, py] <;> omega
  | 2, _ => rcases hw with rfl | rfl | rfl | rfl <;> rcases hh with rfl | rfl | rfl | rfl <;> simp [edgeP, sideZ, px, py] <;> omega
theorem made_has {l : List V} (h : Made l) : hasB l 0 0 = true := by
  obtain ⟨a, b, k, x, ha, hb, hk, h1, h2, rfl⟩ := h
  rcases hk with rfl | rfl | rfl | rfl
  · rw [formL_nox _ _ _ _ (by decide)]; rcases ha with rfl | rfl | rfl | rfl <;> rcases hb with rfl | rfl | rfl | rfl <;> decide
  · exact tri_has (by omega) (by omega) h1 h2
  · rw [formL_nox _ _ _ _ (by decide)]; rcases ha with rfl | rfl | rfl | rfl <;> rcases hb with rfl | rfl | rfl | rfl <;> decide
  · rw [formL_nox _ _ _ _ (by decide)]; rcases ha with rfl | rfl | rfl | rfl <;> rcases hb with rfl | rfl | rfl | rfl <;> decide
theorem made_shape {l : List V} (h : Made l) : shapeE l = 0 := by
  have hw : allWithin 2097152 l = true := by
    have := made_within h
    unfold allWithin at this ⊢
    rw [List.all_eq_true] at this ⊢
    intro p hp
    have := withinB_iff.1 (this p hp)
    exact withinB_iff.2 (by omega)
  unfold shapeE
  rw [if_neg (by simp [made_check h]), if_neg (by simp [hw]), if_neg (by simp [made_fat h, made_has h])]
theorem madeB_num {b : Bd} (h : MadeB b) : numE b = 0 := by
  obtain ⟨hpx, hpy, ang, bo, ru, asl, ca, k⟩ := h
  have a1 : withinB 58982400 b.px b.py = true := withinB_iff.2 (by omega)
  have a2 : withinB 268435456 b.vx b.vy = true := withinB_iff.2 (by rcases k with k | k <;> omega)
  have a3 : inB b.spin (-16777216) 16777216 = true := inB_iff.2 (by rcases k with k | k <;> omega)
  have a4 : inB b.ang 0 65535 = true := inB_iff.2 ang
  have a5 : inB b.mass 0 1099511627776 = true := inB_iff.2 (by rcases k with k | k <;> omega)
  have a6 : inB b.iner 0 1099511627776 = true := inB_iff.2 (by rcases k with k | k <;> omega)
  have a7 : inB b.bounce 0 65536 = true := inB_iff.2 bo
  have a8 : inB b.rub 0 65536 = true := inB_iff.2 ru
  have a9 : inB b.calm 0 1000 = true := inB_iff.2 (by omega)
  unfold numE
  rw [if_pos (by simp [a1, a2, a3, a4]), if_pos (by simp [a5, a6, a7, a8, a9])]
  rcases k with ⟨k1, k2, k3, k4, k5⟩ | ⟨k1, k2, k3, k4, k5⟩
  · rw [if_neg (by simp [stillB, k1, k2, k3, k4, k5, asl, ca])]
  · have m1 : (b.mass == 0) = false := by simp; omega
    have m2 : (b.iner == 0) = false := by simp; omega
    rw [if_neg (by simp [m1, m2, asl])]
theorem madeB_ok {b : Bd} {l : List V} (h : MadeB b) (hl : Made l) : bodyE b l = 0 := by
  unfold bodyE
  rw [if_neg (by simp [made_shape hl])]
  exact madeB_num h
end
end Go.Proofs.Ytienmhgbildhhaa
namespace Go.Proofs.Ytienmhgbildhhaa
section
set_option linter.unusedVariables false
set_option linter.unusedSimpArgs false
open Go.RowKit
theorem bodiesE_ok {L : List BE} (h : L.length ≤ 64) (hv : ∀ x ∈ L, bodyE x.b x.l = 0) : bodiesE L = 0 := by
  unfold bodiesE
  rw [if_neg (by omega)]
  have : ∀ k, k ≤ L.length → bodiesTo L k = 0 := fun k => by
    induction k with
    | zero => intro _; rfl
    | succ k ih =>
      intro hk
      rw [bodiesTo_succ (by omega), if_neg (by rw [ih (by omega)]; simp)]
      exact hv _ (List.getElem_mem _)
  exact this _ (Nat.le_refl _)
theorem meetTo_mem {hit : List V → Bool} {L : List BE} : ∀ {k : Nat}, k ≤ L.length → ∀ i, i ∈ meetTo hit L k ↔ ∃ j : Nat, j < k ∧ i = (j : Int) ∧ ∃ hj : j < L.length, hit (placeL L[j].b L[j].l) = true
  | 0, _, i => by simp [meetTo]
  | k + 1, hk, i => by
    have ih := meetTo_mem (hit := hit) (L := L) (k := k) (by omega) i
    rw [meetTo_succ (by omega)]
    constructor
    · intro h
      by_cases c : hit (placeL L[k].b L[k].l) = true
      · rw [if_pos c, List.mem_append] at h
        rcases h with h | h
        · obtain ⟨j, h1, h2, h3⟩ := ih.1 h
          exact ⟨j, by omega, h2, h3⟩
        · exact ⟨k, by omega, List.mem_singleton.1 h, by omega, c⟩
      · rw [if_neg c] at h
        obtain ⟨j, h1, h2, h3⟩ := ih.1 h
        exact ⟨j, by omega, h2, h3⟩
    · rintro ⟨j, h1, h2, hj, h3⟩
      rcases Nat.lt_or_ge j k with g | g
      · have := ih.2 ⟨j, g, h2, hj, h3⟩
        split
        · exact List.mem_append_left _ this
        · exact this
      · have e : j = k := by omega
        subst e
        rw [if_pos h3]
        exact List.mem_append_right _ (by rw [h2]; exact List.mem_singleton.2 rfl)
theorem meetTo_nil {hit : List V → Bool} {L : List BE} (h : ∀ j (hj : j < L.length), hit (placeL L[j].b L[j].l) = false) : meetTo hit L L.length = [] := by
  rw [List.eq_nil_iff_forall_not_mem]
  intro i hi
  obtain ⟨j, -, -, hj, hh⟩ := (meetTo_mem (Nat.le_refl _) i).1 hi
  rw [h j hj] at hh
  cases hh

theorem stopsLaw_meets {L : List BE} (hv : ∀ x ∈ L, bodyE x.b x.l = 0) {p : List V} (hp : checkE p = 0) {u : V} {i : Int} (hi : i ∈ meetTo (fun q => nmeetB q p) L L.length) : ∃ a : Nat, shapeO L p u = some (a, 0) ∧ (a : Int) ≤ i := by
  obtain ⟨j, -, rfl, hj, hh⟩ := (meetTo_mem (Nat.le_refl _) i).1 hi
  have hz := stops_zero (placed_ok (hv _ (List.getElem_mem hj))) hp u hh
  have ok := frTo_ok (fun q => lineR (minusL q p) (0, 0) u) L L.length (Nat.le_refl _)
  have hat : hitAt (fun q => lineR (minusL q p) (0, 0) u) L j = some 0 := by rw [hitAt_lt hj]; exact hz
  unfold shapeO
  generalize frTo (fun q => lineR (minusL q p) (0, 0) u) L L.length = o at ok
  match o, ok with
  | none, ok => rw [ok j hj] at hat; cases hat
  | some (a, b), ok =>
    obtain ⟨h1, h2, h3⟩ := ok
    obtain ⟨k1, k2⟩ := h3 j 0 hj hat
    rw [hitAt_lt h1] at h2
    have h0 := lineR_pos h2
    refine ⟨a, by rw [show b = 0 by omega], ?_⟩
    rcases Nat.lt_or_ge j a with g | g
    · have := k2 g; omega
    · omega

theorem stopsLaw_free {L : List BE} (hv : ∀ x ∈ L, bodyE x.b x.l = 0) {p : List V} (hp : checkE p = 0) {u : V} (hm : checkE (movL p u.1 u.2) = 0) (h : shapeO L p u = none) : meetTo (fun q => nmeetB q (movL p u.1 u.2)) L L.length = [] := by
  refine meetTo_nil (fun j hj => ?_)
  have ok := frTo_ok (fun q => lineR (minusL q p) (0, 0) u) L L.length (Nat.le_refl _)
  unfold shapeO at h
  rw [h] at ok
  have := ok j hj
  rw [hitAt_lt hj] at this
  exact stops_free (placed_ok (hv _ (List.getElem_mem hj))) hp hm this

theorem aloneLaw {L : List BE} {f u : V} {j : Nat} (hj : j < L.length) : match castO L f u, lineR (placeL L[j].b L[j].l) f u with
    | none, some _ => False
    | some (a, b), some s => b ≤ s ∧ (j < a → b < s) ∧ (j = a → s = b)
    | some (a, b), none => j ≠ a
    | none, none => True := by
  have ok := frTo_ok (fun p => lineR p f u) L L.length (Nat.le_refl _)
  unfold castO
  generalize frTo (fun p => lineR p f u) L L.length = o at ok
  have hat : hitAt (fun p => lineR p f u) L j = lineR (placeL L[j].b L[j].l) f u := hitAt_lt hj
  generalize lineR (placeL L[j].b L[j].l) f u = s at hat
  match o, s, ok, hat with
  | none, some s, ok, hat => rw [ok j hj] at hat; cases hat
  | some (a, b), some s, ok, hat =>
    obtain ⟨k1, k2⟩ := ok.2.2 j s hj hat
    exact ⟨k1, k2, fun e => by subst e; rw [ok.2.1] at hat; cases hat; rfl⟩
  | some (a, b), none, ok, hat => exact fun e => by subst e; rw [ok.2.1] at hat; cases hat
  | none, none, _, _ => trivial

theorem castLaw_none {L : List BE} {f u : V} (h : castO L f u = none) {j : Nat} (hj : j < L.length) (hv : bodyE L[j].b L[j].l = 0) {N : Int} (h0 : 0 ≤ N) (h1 : N ≤ 1) : ¬ inP (cyP (placeL L[j].b L[j].l)) (1 * f.1 + N * u.1, 1 * f.2 + N * u.2) 1 := fun hin => by
  have ok := frTo_ok (fun p => lineR p f u) L L.length (Nat.le_refl _)
  unfold castO at h
  rw [h] at ok
  have := ok j hj
  rw [hitAt_lt hj] at this
  have h3 := (checkE_zero (placed_ok hv)).2.1
  exact lineR_none this (N := N) (L := 1) (by omega) h0 h1 ((line_inP (by omega)).2 hin)

theorem castLaw_some {L : List BE} {f u : V} {a : Nat} {b : Int} (h : castO L f u = some (a, b)) (hv : ∀ x ∈ L, bodyE x.b x.l = 0) : ∃ ha : a < L.length, ∃ N M : Int, 0 < M ∧ 0 ≤ N ∧ N ≤ M ∧ b = N * 65536 / M ∧ inP (cyP (placeL L[a].b L[a].l)) (M * f.1 + N * u.1, M * f.2 + N * u.2) M := by
  have ok := frTo_ok (fun p => lineR p f u) L L.length (Nat.le_refl _)
  unfold castO at h
  rw [h] at ok
  obtain ⟨h1, h2, -⟩ := ok
  rw [hitAt_lt h1] at h2
  obtain ⟨N, M, k0, k1, k2, k3, k4⟩ := lineR_some h2
  have h3 := (checkE_zero (placed_ok (hv _ (List.getElem_mem h1)))).2.1
  exact ⟨h1, N, M, k0, k1, k2, k3, (line_inP (by omega)).1 k4⟩

theorem near_place {f u N M b m : Int} (hM : 0 < M) (h0 : 0 ≤ N) (h1 : N ≤ M) (hb : b = N * 65536 / M) (hu : -786432 ≤ u ∧ u ≤ 786432) (hm1 : -65536 ≤ 131072 * m - 2 * (u * b)) (hm2 : 131072 * m - 2 * (u * b) ≤ 65536) :
    -(64 * M) ≤ (M * f + N * u) - M * (f + m) ∧ (M * f + N * u) - M * (f + m) ≤ 64 * M := by
  have hq := Int.emod_add_mul_ediv (N * 65536) M
  have r0 := Int.emod_nonneg (N * 65536) (show M ≠ 0 by omega)
  have r1 := Int.emod_lt_of_pos (N * 65536) hM
  rw [← hb] at hq
  generalize N * 65536 % M = r at *
  -- 65536 (N u - M m) = u (M b + r) - 65536 M m, and |65536 m - u b| is at most 32768
  have e : 131072 * (N * u - M * m) = 2 * (u * r) - M * (131072 * m - 2 * (u * b)) := by
    have : N * 65536 = r + M * b := by omega
    grind
  have p1 := Int.mul_le_mul_of_nonneg_left hm1 (show 0 ≤ M by omega)
  have p2 := Int.mul_le_mul_of_nonneg_left hm2 (show 0 ≤ M by omega)
  have ur : -(786432 * M) ≤ u * r ∧ u * r ≤ 786432 * M := by
    have a1 := Int.mul_le_mul_of_nonneg_right hu.2 r0
    have a2 := Int.mul_le_mul_of_nonneg_right hu.1 r0
    omega
  have e2 : (M * f + N * u) - M * (f + m) = N * u - M * m := by grind
  omega
end
end Go.Proofs.Ytienmhgbildhhaa
