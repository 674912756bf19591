/- Parts of a proof: contracts and laws. -/
import Derived.Test.YtienmhgbildhhaaC37
import Derived.Test.YtienmhgbildhhaaC38
import Derived.Test.YtienmhgbildhhaaC39
import Derived.Test.YtienmhgbildhhaaC30
import Derived.Test.YtienmhgbildhhaaC41
namespace Go.Proofs.Ytienmhgbildhhaa
section
set_option linter.unusedVariables false
set_option linter.unusedSimpArgs false
open Go.RowKit
theorem nmeetB_swap {p q : List V} (hp : checkE p = 0) (hq : checkE q = 0) : nmeetB q p = nmeetB p q := by
  unfold nmeetB
  rw [decide_eq_true (bothE_zero.2 ⟨hp, hq⟩), decide_eq_true (bothE_zero.2 ⟨hq, hp⟩), Bool.true_and, Bool.true_and, ← meets_nin hp hq, ← meets_nin hq hp, meetsB_swap]
theorem rbdZ_swap (a : Bd) (l : List V) (b : Bd) (m : List V) (s : Int) : rbdZ b m a l s = rbdZ a l b m s := by
  unfold rbdZ
  rw [Int.add_comm (lenQ b.vx b.vy) (lenQ a.vx a.vy)]
  omega
theorem slkZ_swap (a : Bd) (l : List V) (b : Bd) (m : List V) : slkZ b m a l = slkZ a l b m := by
  unfold slkZ
  rw [rbdZ_swap]
  omega
theorem timeO_swap {a b : Bd} {l m : List V} (ha : bodyE a l = 0) (hb : bodyE b m = 0) (s : Int) : timeO b m a l s = timeO a l b m s := by
  have hc : ∀ t, checkE (atL a l s t) = 0 ∧ checkE (atL b m s t) = 0 := fun t => ⟨placed_ok (moveB_ok ha), placed_ok (moveB_ok hb)⟩
  have h1 : tmMeet b m a l s = tmMeet a l b m s := funext fun t => nmeetB_swap (hc t).1 (hc t).2
  have h2 : tmNext b m a l s = tmNext a l b m s := funext fun t => by
    unfold tmNext
    rw [apart_swap (hc t).1 (hc t).2, slkZ_swap, rbdZ_swap]
  unfold timeO
  rw [h1, h2]

theorem timeR_pos {mt : Int → Bool} {nx : Int → Int} (hn : ∀ t, 0 < t → 0 < nx t) : ∀ (f : Nat) (t : Int), 0 < t → (timeR mt nx f t).2 = true → (timeR mt nx f t).1 ≠ 0
  | 0, t, h, _ => by show t ≠ 0; omega
  | f + 1, t, h, he => by
    have e : timeR mt nx (f + 1) t = if mt t = true then (t, true) else if t = 65536 then (0, false) else timeR mt nx f (nx t) := rfl
    rw [e] at he ⊢
    by_cases c : mt t = true
    · rw [if_pos c]; show t ≠ 0; omega
    · rw [if_neg c] at he ⊢
      by_cases d : t = 65536
      · rw [if_pos d] at he; cases he
      · rw [if_neg d] at he ⊢
        exact timeR_pos hn f _ (hn t h) he

theorem timeR_never {mt : Int → Bool} {nx : Int → Int} (hm : ∀ t, mt t = false) (hn : ∀ t, 0 ≤ t → t < 65536 → t + 256 ≤ nx t ∨ nx t = 65536) (hle : ∀ t, nx t ≤ 65536) : ∀ (f : Nat) (t : Int), 0 ≤ t → t ≤ 65536 → 65536 - t ≤ 256 * (f : Int) → timeR mt nx (f + 1) t = (0, false)
  | f, t, h0, h1, hf => by
    have e : timeR mt nx (f + 1) t = if mt t = true then (t, true) else if t = 65536 then (0, false) else timeR mt nx f (nx t) := rfl
    rw [e, hm t, if_neg (by simp)]
    by_cases d : t = 65536
    · rw [if_pos d]
    · rw [if_neg d]
      match f, hf with
      | 0, hf => omega
      | f + 1, hf =>
        have := hn t h0 (by omega)
        have := hle t
        exact timeR_never hm hn hle f (nx t) (by omega) (by omega) (by omega)
theorem tmNext_ok (a : Bd) (l : List V) (b : Bd) (m : List V) (s t : Int) : tmNext a l b m s t ≤ 65536 ∧ (t + 256 ≤ tmNext a l b m s t ∨ tmNext a l b m s t = 65536) := by
  unfold tmNext
  omega

structure BothLaw (a : Bd) (l : List V) (b : Bd) (m : List V) (s : Int) : Prop where
  swap : timeO b m a l s = timeO a l b m s
  zero : nmeetB (placeL a l) (placeL b m) = ((timeO a l b m s).2 && decide ((timeO a l b m s).1 = 0))
  still : a.mass = 0 → b.mass = 0 → (timeO a l b m s).2 = nmeetB (placeL a l) (placeL b m)
theorem bothLaw {a b : Bd} {l m : List V} (ha : MadeB a) (hl : Made l) (hb : MadeB b) (hm : Made m) (s : Int) : BothLaw a l b m s := by
  have hea := madeB_ok ha hl
  have heb := madeB_ok hb hm
  have hat : atL a l s 0 = placeL a l := by unfold atL; rw [mulF_zero, moveB_zero ha]
  have hbt : atL b m s 0 = placeL b m := by unfold atL; rw [mulF_zero, moveB_zero hb]
  have h0 : tmMeet a l b m s 0 = nmeetB (placeL a l) (placeL b m) := by unfold tmMeet; rw [hat, hbt]
  have hst : timeO a l b m s = if tmMeet a l b m s 0 = true then (0, true) else if (0 : Int) = 65536 then (0, false) else timeR (tmMeet a l b m s) (tmNext a l b m s) 299 (tmNext a l b m s 0) := rfl
  have hnx := fun t => tmNext_ok a l b m s t
  refine ⟨timeO_swap hea heb s, ?_, fun ma mb => ?_⟩
  · rw [hst, ← h0]
    cases c : tmMeet a l b m s 0 with
    | true => rw [if_pos rfl]; rfl
    | false =>
      rw [if_neg (by simp), if_neg (by omega)]
      have hp := timeR_pos (mt := tmMeet a l b m s) (nx := tmNext a l b m s) (fun t ht => by have := (hnx t).2; omega) 299 (tmNext a l b m s 0) (by have := (hnx 0).2; omega)
      generalize timeR (tmMeet a l b m s) (tmNext a l b m s) 299 (tmNext a l b m s 0) = o at *
      cases o2 : o.2 with
      | false => rfl
      | true => rw [decide_eq_false (hp o2)]; rfl
  · have hall : ∀ t, tmMeet a l b m s t = nmeetB (placeL a l) (placeL b m) := fun t => by
      have e1 : moveB a l (mulF s t) = a := by unfold moveB; rw [if_pos (.inr (.inl ma))]
      have e2 : moveB b m (mulF s t) = b := by unfold moveB; rw [if_pos (.inr (.inl mb))]
      unfold tmMeet atL
      rw [e1, e2]
    cases c : nmeetB (placeL a l) (placeL b m) with
    | true => rw [hst, h0, c, if_pos rfl]
    | false =>
      have := timeR_never (mt := tmMeet a l b m s) (nx := tmNext a l b m s) (fun t => by rw [hall t, c]) (fun t _ _ => (hnx t).2) (fun t => (hnx t).1) 299 0 (by omega) (by omega) (by omega)
      unfold timeO
      rw [this]
end
end Go.Proofs.Ytienmhgbildhhaa
