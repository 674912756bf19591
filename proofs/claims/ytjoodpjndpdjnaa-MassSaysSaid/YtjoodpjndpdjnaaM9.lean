/- Plain mathematics of package mass: centre, second moment. No program is in sight. -/
import Derived.Test.YtjoodpjndpdjnaaZ6
import Derived.Test.YtjoodpjndpdjnaaZ2
import Derived.Test.YtjoodpjndpdjnaaM3
namespace Go.Proofs.Ytjoodpjndpdjnaa
set_option linter.unusedVariables false
set_option linter.unusedSimpArgs false
open Go.RowKit

def sumTo (f : Nat → Int) : Nat → Int
  | 0 => 0
  | k + 1 => sumTo f k + f k
theorem sumTo_congr {f g : Nat → Int} (k : Nat) (h : ∀ j, j < k → f j = g j) : sumTo f k = sumTo g k := by
  induction k with
  | zero => rfl
  | succ k ih => simp only [sumTo]; rw [ih (fun j hj => h j (by omega)), h k (by omega)]
theorem sumTo_add (f g : Nat → Int) (k : Nat) : sumTo (fun j => f j + g j) k = sumTo f k + sumTo g k := by
  induction k with
  | zero => rfl
  | succ k ih => simp only [sumTo]; rw [ih]; omega
theorem sumTo_mul (c : Int) (f : Nat → Int) (k : Nat) : sumTo (fun j => c * f j) k = c * sumTo f k := by
  induction k with
  | zero => simp [sumTo]
  | succ k ih => simp only [sumTo]; rw [ih, Int.mul_add]
theorem sumTo_bd {f : Nat → Int} {B : Int} (k : Nat) (h : ∀ j, j < k → -B ≤ f j ∧ f j ≤ B) : -(B * k) ≤ sumTo f k ∧ sumTo f k ≤ B * k := by
  induction k with
  | zero => simp [sumTo]
  | succ k ih =>
    have h1 := ih (fun j hj => h j (by omega))
    have h2 := h k (by omega)
    have e : B * ((k + 1 : Nat) : Int) = B * k + B := by rw [Int.natCast_add]; grind
    simp only [sumTo]
    rw [e]
    omega
/-- a sum of differences round a polygon -/
theorem sumTo_round (g : Nat → Int) (n : Nat) (hn : 0 < n) : sumTo (fun k => g k - g ((k + 1) % n)) n = 0 := by
  have key : ∀ m, m < n → sumTo (fun k => g k - g ((k + 1) % n)) m = g 0 - g m := by
    intro m
    induction m with
    | zero => intro _; simp [sumTo]
    | succ m ih =>
      intro hm
      simp only [sumTo]
      rw [ih (by omega), Nat.mod_eq_of_lt hm]
      omega
  obtain ⟨m, rfl⟩ : ∃ m, n = m + 1 := ⟨n - 1, by omega⟩
  simp only [sumTo]
  rw [key m (by omega), Nat.mod_self]
  omega

/-- the next corner -/
def nx (l : List V) (i : Nat) : Nat := (i + 1) % l.length
def crsZ (a b c d : Int) : Int := a * d - b * c
def crsL (l : List V) (i : Nat) : Int := crsZ (px l i) (py l i) (px l (nx l i)) (py l (nx l i))
def cxL (l : List V) (i : Nat) : Int := (px l i + px l (nx l i)) * crsL l i
def cyL (l : List V) (i : Nat) : Int := (py l i + py l (nx l i)) * crsL l i
def cenX (l : List V) : Int := sumTo (cxL l) l.length
def cenY (l : List V) : Int := sumTo (cyL l) l.length
/-- twice the area, by the cross products of corners -/
theorem crs_area (l : List V) (h3 : 3 ≤ l.length) : sumTo (crsL l) l.length = areaZ l := by
  rw [area_eq l h3]
  have h1 : ∀ k, rareaTo l k = sumTo (trap l) k := by
    intro k
    induction k with
    | zero => rfl
    | succ k ih => simp only [rareaTo, sumTo]; rw [ih]
  rw [h1]
  have h2 : ∀ j, trap l j = crsL l j + (px l j * py l j - px l ((j + 1) % l.length) * py l ((j + 1) % l.length)) := by
    intro j
    unfold trap crsL crsZ nx
    grind
  rw [sumTo_congr (f := trap l) _ (fun j _ => h2 j), sumTo_add, sumTo_round (fun j => px l j * py l j) _ (by omega)]
  omega
/-- the centre that mass and the reference compute -/
def cenQ (l : List V) : V := (overQ (cenX l) (3 * areaZ l), overQ (cenY l) (3 * areaZ l))
/-- squares of an edge -/
def sqrL (l : List V) (i : Nat) : Int := px l i * px l i + px l i * px l (nx l i) + px l (nx l i) * px l (nx l i) + py l i * py l i + py l i * py l (nx l i) + py l (nx l i) * py l (nx l i)
def secL (l : List V) (i : Nat) : Int := crsL l i * sqrL l i
/-- the second moment about a point -/
def secQ (l : List V) (c : V) : Int := overQ (sumTo (secL (movL l (-c.1) (-c.2))) l.length) 51539607552
def massQ (l : List V) (d : Int) : Int := overQ (areaZ l * d) 8589934592
def inerQ (l : List V) (d : Int) : Int := overQ (secQ l (cenQ l) * d) 4294967296

end Go.Proofs.Ytjoodpjndpdjnaa
