/- Parts of a proof: contracts and laws. -/
import Derived.Test.YtkiiehobphkmgaaPZ20
import Derived.Test.YtkiiehobphkmgaaPZ43
import Derived.Test.YtkiiehobphkmgaaPZ14
import Derived.Test.YtkiiehobphkmgaaPZ24
namespace Go.Proofs.Ytkiiehobphkmgaa
section
set_option linter.unusedVariables false
set_option linter.unusedSimpArgs false
open Go.RowKit
theorem absZ_le {a M : Int} (h1 : -M ≤ a) (h2 : a ≤ M) : absZ a ≤ M := by unfold absZ; split <;> omega
theorem sizeL_made {l : List V} (h : allWithin 262144 l = true) {i k : Nat} (hi : i < l.length) (hk : k < l.length) : sizeL l i k ≤ 1048576 := by
  have h1 := withinB_iff.1 (allWithin_at h hi)
  have h2 := withinB_iff.1 (allWithin_at h hk)
  have e1 := absZ_le (a := px l k - px l i) (M := 524288) (by omega) (by omega)
  have e2 := absZ_le (a := py l k - py l i) (M := 524288) (by omega) (by omega)
  unfold sizeL
  omega
theorem fatBad_not {l : List V} (hw : allWithin 262144 l = true) {i k : Nat} (hi : i < l.length) (hk : k < l.length) (h : k = i ∨ k = (i + 1) % l.length ∨ 16777216 ≤ sideL l i ((i + 1) % l.length) k) : fatBad l i k = false := by
  unfold fatBad
  refine decide_eq_false ?_
  rintro ⟨n1, n2, n3⟩
  rcases h with h | h | h
  · exact n1 h
  · exact n2 h
  · have a1 := sizeL_made hw hi (Nat.mod_lt (i + 1) (show 0 < l.length by omega))
    have a2 := sizeL_made hw hi hk
    omega
theorem fat_of {l : List V} (hw : allWithin 262144 l = true) (h : ∀ i, i < l.length → ∀ k, k < l.length → (k = i ∨ k = (i + 1) % l.length ∨ 16777216 ≤ sideL l i ((i + 1) % l.length) k)) : fatB l = true :=
  fatB_ok fun i hi k hk => fatBad_not hw hi hk (h i hi k hk)
theorem tri_fat {w h x : Int} (hw : w = 65536 ∨ w = 131072 ∨ w = 196608 ∨ w = 262144) (hh : h = 65536 ∨ h = 131072 ∨ h = 196608 ∨ h = 262144) (h1 : -w ≤ x) (h2 : x < w) : fatB [(-w, -h), (w, -h), (x, h)] = true := by
  have hp : 4294967296 ≤ w * h := by rcases hw with rfl | rfl | rfl | rfl <;> omega
  refine fat_of (by simp [allWithin, withinB]; omega) ?_
  intro i hi k hk
  simp only [List.length_cons, List.length_nil] at hi hk
  match i, hi, k, hk with
  | 0, _, 0, _ => exact .inl rfl
  | 0, _, 1, _ => exact .inr (.inl rfl)
  | 0, _, 2, _ => refine .inr (.inr ?_); simp [sideL, sideZ, px, py]; grind
  | 1, _, 0, _ => refine .inr (.inr ?_); simp [sideL, sideZ, px, py]; grind
  | 1, _, 1, _ => exact .inl rfl
  | 1, _, 2, _ => exact .inr (.inl rfl)
  | 2, _, 0, _ => exact .inr (.inl (by simp))
  | 2, _, 1, _ => refine .inr (.inr ?_); simp [sideL, sideZ, px, py]; grind
  | 2, _, 2, _ => exact .inl rfl
theorem made_fat {l : List V} (h : Made l) : fatB l = true := by
  obtain ⟨a, b, k, x, ha, hb, hk, h1, h2, rfl⟩ := h
  rcases hk with rfl | rfl | rfl | rfl
  · rw [formL_nox _ _ _ _ (by decide)]; rcases ha with rfl | rfl | rfl | rfl <;> rcases hb with rfl | rfl | rfl | rfl <;> decide
  · exact tri_fat (by omega) (by omega) h1 h2
  · rw [formL_nox _ _ _ _ (by decide)]; rcases ha with rfl | rfl | rfl | rfl <;> rcases hb with rfl | rfl | rfl | rfl <;> decide
  · rw [formL_nox _ _ _ _ (by decide)]; rcases ha with rfl | rfl | rfl | rfl <;> rcases hb with rfl | rfl | rfl | rfl <;> decide
theorem tri_has {w h x : Int} (hw : w = 65536 ∨ w = 131072 ∨ w = 196608 ∨ w = 262144) (hh : h = 65536 ∨ h = 131072 ∨ h = 196608 ∨ h = 262144) (h1 : -w ≤ x) (h2 : x < w) : hasB [(-w, -h), (w, -h), (x, h)] 0 0 = true := by
  refine hasB_true (made_tri _ _ _ (by omega) (by omega) (by omega) (by omega) h1 h2) (by decide) ?_
  intro i hi
  simp only [List.length_cons, List.length_nil] at hi
  match i, hi with
  | 0, _ => rcases hw with rfl | rfl | rfl | rfl <;> rcases hh with rfl | rfl | rfl | rfl <;> simp [edgeP, sideZ, px, py]
  | 1, _ => rcases hw with rfl | rfl | rfl | rfl <;> rcases hh with rfl | rfl | rfl | rfl <;> simp [edgeP, sideZ, px, py] <;> omega
  | 2, _ => rcases hw with rfl | rfl | rfl | rfl <;> rcases hh with rfl | rfl | rfl | rfl <;> simp [edgeP, sideZ, px, py] <;> omega
theorem made_has {l : List V} (h : Made l) : hasB l 0 0 = true := by
  obtain ⟨a, b, k, x, ha, hb, hk, h1, h2, rfl⟩ := h
  rcases hk with rfl | rfl | rfl | rfl
  · rw [formL_nox _ _ _ _ (by decide)]; rcases ha with rfl | rfl | rfl | rfl <;> rcases hb with rfl | rfl | rfl | rfl <;> decide
  · exact tri_has (by omega) (by omega) h1 h2
  · rw [formL_nox _ _ _ _ (by decide)]; rcases ha with rfl | rfl | rfl | rfl <;> rcases hb with rfl | rfl | rfl | rfl <;> decide
  · rw [formL_nox _ _ _ _ (by decide)]; rcases ha with rfl | rfl | rfl | rfl <;> rcases hb with rfl | rfl | rfl | rfl <;> decide
theorem made_shape {l : List V} (h : Made l) : shapeE l = 0 := by
  have hw : allWithin 2097152 l = true := by
    have := made_within h
    unfold allWithin at this ⊢
    rw [List.all_eq_true] at this ⊢
    intro p hp
    have := withinB_iff.1 (this p hp)
    exact withinB_iff.2 (by omega)
  unfold shapeE
  rw [if_neg (by simp [made_check h]), if_neg (by simp [hw]), if_neg (by simp [made_fat h, made_has h])]
theorem madeB_num {b : Bd} (h : MadeB b) : numE b = 0 := by
  obtain ⟨hpx, hpy, ang, bo, ru, asl, ca, k⟩ := h
  have a1 : withinB 58982400 b.px b.py = true := withinB_iff.2 (by omega)
  have a2 : withinB 268435456 b.vx b.vy = true := withinB_iff.2 (by rcases k with k | k <;> omega)
  have a3 : inB b.spin (-16777216) 16777216 = true := inB_iff.2 (by rcases k with k | k <;> omega)
  have a4 : inB b.ang 0 65535 = true := inB_iff.2 ang
  have a5 : inB b.mass 0 1099511627776 = true := inB_iff.2 (by rcases k with k | k <;> omega)
  have a6 : inB b.iner 0 1099511627776 = true := inB_iff.2 (by rcases k with k | k <;> omega)
  have a7 : inB b.bounce 0 65536 = true := inB_iff.2 bo
  have a8 : inB b.rub 0 65536 = true := inB_iff.2 ru
  have a9 : inB b.calm 0 1000 = true := inB_iff.2 (by omega)
  unfold numE
  rw [if_pos (by simp [a1, a2, a3, a4]), if_pos (by simp [a5, a6, a7, a8, a9])]
  rcases k with ⟨k1, k2, k3, k4, k5⟩ | ⟨k1, k2, k3, k4, k5⟩
  · rw [if_neg (by simp [stillB, k1, k2, k3, k4, k5, asl, ca])]
  · have m1 : (b.mass == 0) = false := by simp; omega
    have m2 : (b.iner == 0) = false := by simp; omega
    rw [if_neg (by simp [m1, m2, asl])]
theorem madeB_ok {b : Bd} {l : List V} (h : MadeB b) (hl : Made l) : bodyE b l = 0 := by
  unfold bodyE
  rw [if_neg (by simp [made_shape hl])]
  exact madeB_num h
end
end Go.Proofs.Ytkiiehobphkmgaa
