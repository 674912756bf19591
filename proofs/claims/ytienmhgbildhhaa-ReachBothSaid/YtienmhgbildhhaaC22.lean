/- Parts of a proof: contracts and laws. -/
import Derived.Test.YtienmhgbildhhaaC21
namespace Go.Proofs.Ytienmhgbildhhaa
section
set_option linter.unusedVariables false
set_option linter.unusedSimpArgs false
open Go.RowKit

def lowB (l : List V) (i k : Nat) : Prop := py l i < py l k ∨ (py l i = py l k ∧ px l i < px l k)
instance (l : List V) (i k : Nat) : Decidable (lowB l i k) := by unfold lowB; infer_instance
def lowTo (l : List V) : Nat → Nat
  | 0 => 0
  | i + 1 => if lowB l i (lowTo l i) then i else lowTo l i
def lowI (l : List V) : Nat := lowTo l l.length
theorem lowTo_lt (l : List V) : ∀ k, 0 < l.length → k ≤ l.length → lowTo l k < l.length
  | 0, h, _ => h
  | k + 1, h, hk => by
    rw [lowTo]
    split
    · omega
    · exact lowTo_lt l k h (by omega)

def crsZ (a b p q : Int) : Int := a * q - b * p
theorem crs_bd {a b p q : Int} (ha : -1073741824 ≤ a ∧ a ≤ 1073741824) (hb : -1073741824 ≤ b ∧ b ≤ 1073741824) (hp : -1073741824 ≤ p ∧ p ≤ 1073741824) (hq : -1073741824 ≤ q ∧ q ≤ 1073741824) :
    (-1152921504606846976 ≤ a * q ∧ a * q ≤ 1152921504606846976) ∧ (-1152921504606846976 ≤ b * p ∧ b * p ≤ 1152921504606846976) :=
  ⟨mul_bd (x := a) (y := q) (M := 1073741824) (N := 1073741824) (by omega) (by omega) (by omega) (by omega), mul_bd (x := b) (y := p) (M := 1073741824) (N := 1073741824) (by omega) (by omega) (by omega) (by omega)⟩

def edgX (l : List V) (f i : Nat) : Int := px l ((f + i + 1) % l.length) - px l ((f + i) % l.length)
def edgY (l : List V) (f i : Nat) : Int := py l ((f + i + 1) % l.length) - py l ((f + i) % l.length)
theorem edg_bd {l : List V} (hw : allWithin 65536000 l = true) (h3 : 0 < l.length) (f i : Nat) : (-131072000 ≤ edgX l f i ∧ edgX l f i ≤ 131072000) ∧ (-131072000 ≤ edgY l f i ∧ edgY l f i ≤ 131072000) := by
  have h1 := withinB_iff.1 (allWithin_at hw (Nat.mod_lt (f + i) h3))
  have h2 := withinB_iff.1 (allWithin_at hw (Nat.mod_lt (f + i + 1) h3))
  unfold edgX edgY
  omega
def negL (l : List V) : List V := l.map fun p => (-p.1, -p.2)
theorem negL_len (l : List V) : (negL l).length = l.length := by simp [negL]
theorem neg_px (l : List V) (i : Nat) : px (negL l) i = -px l i := by
  unfold px negL
  by_cases h : i < l.length
  · simp [h]
  · simp [h]
theorem neg_py (l : List V) (i : Nat) : py (negL l) i = -py l i := by
  unfold py negL
  by_cases h : i < l.length
  · simp [h]
  · simp [h]
theorem negL_within {l : List V} (h : allWithin 65536000 l = true) : allWithin 65536000 (negL l) = true := by
  unfold allWithin at h ⊢
  unfold negL
  rw [List.all_eq_true] at h ⊢
  intro p hp
  obtain ⟨q, hq, rfl⟩ := List.mem_map.1 hp
  have := withinB_iff.1 (h q hq)
  exact withinB_iff.2 (by dsimp only; omega)

def mnX (a c : List V) (i k x y : Nat) : Int := px a ((i + x) % a.length) + px c ((k + y) % c.length)
def mnY (a c : List V) (i k x y : Nat) : Int := py a ((i + x) % a.length) + py c ((k + y) % c.length)
def mnT (a c : List V) (i k x y : Nat) : Int := crsZ (edgX a i x) (edgY a i x) (edgX c k y) (edgY c k y)
def mnF (a c : List V) (i k x y : Nat) : Bool := y == c.length || (decide (x < a.length) && decide (0 ≤ mnT a c i k x y))
def mnS (a c : List V) (i k x y : Nat) : Bool := x == a.length || (decide (y < c.length) && decide (mnT a c i k x y ≤ 0))
def mnGo (a c : List V) (i k : Nat) : Nat → Nat → Nat → List V
  | 0, _, _ => []
  | f + 1, x, y => if x < a.length ∨ y < c.length then (mnX a c i k x y, mnY a c i k x y) :: mnGo a c i k f (if mnF a c i k x y = true then x + 1 else x) (if mnS a c i k x y = true then y + 1 else y) else []
def minusL (a b : List V) : List V := if bothE a b = 0 then mnGo a (negL b) (lowI a) (lowI (negL b)) (a.length + (negL b).length) 0 0 else []
theorem mnX_l (a c : List V) (i k x y : Nat) : mnX a c i k (x + 1) y = mnX a c i k x y + edgX a i x := by unfold mnX edgX; rw [← Nat.add_assoc]; omega
theorem mnY_l (a c : List V) (i k x y : Nat) : mnY a c i k (x + 1) y = mnY a c i k x y + edgY a i x := by unfold mnY edgY; rw [← Nat.add_assoc]; omega
theorem mnX_r (a c : List V) (i k x y : Nat) : mnX a c i k x (y + 1) = mnX a c i k x y + edgX c k y := by unfold mnX edgX; rw [← Nat.add_assoc]; omega
theorem mnY_r (a c : List V) (i k x y : Nat) : mnY a c i k x (y + 1) = mnY a c i k x y + edgY c k y := by unfold mnY edgY; rw [← Nat.add_assoc]; omega
theorem mn_bd {a c : List V} (ha : allWithin 65536000 a = true) (hc : allWithin 65536000 c = true) (h1 : 0 < a.length) (h2 : 0 < c.length) (i k x y : Nat) : (-131072000 ≤ mnX a c i k x y ∧ mnX a c i k x y ≤ 131072000) ∧ (-131072000 ≤ mnY a c i k x y ∧ mnY a c i k x y ≤ 131072000) := by
  have g1 := withinB_iff.1 (allWithin_at ha (Nat.mod_lt (i + x) h1))
  have g2 := withinB_iff.1 (allWithin_at hc (Nat.mod_lt (k + y) h2))
  unfold mnX mnY
  omega
def ninC (m : List V) (i : Nat) : Int := crsZ (px m i) (py m i) (px m ((i + 1) % m.length)) (py m ((i + 1) % m.length))
def ninB (m : List V) : Bool := decide (∀ i, i < m.length → 0 ≤ ninC m i)
theorem root_le {N n : Int} (h0 : 0 ≤ N) (h1 : N < 340282366920938463463374607431768211456) (hn : 0 ≤ n) : n * n ≤ N ↔ n ≤ rootZ N := by
  obtain ⟨r0, r1, r2⟩ := rootZ_spec h0 h1
  constructor
  · intro h
    rcases Int.lt_or_le (rootZ N) n with g | g
    · have := sq_lt r0 g; omega
    · exact g
  · intro h
    have := Int.mul_le_mul h h hn r0
    omega
theorem root_lt {N n : Int} (h0 : 0 ≤ N) (h1 : N < 340282366920938463463374607431768211456) (hn : 0 ≤ n) (h : N < n * n) : rootZ N < n := by
  rcases Int.lt_or_le (rootZ N) n with g | g
  · exact g
  · have := (root_le h0 h1 hn).2 g; omega

def sqZ (x y : Int) : Int := x * x + y * y
theorem sqZ_bd {x y : Int} (hx : -131072000 ≤ x ∧ x ≤ 131072000) (hy : -131072000 ≤ y ∧ y ≤ 131072000) : 0 ≤ sqZ x y ∧ sqZ x y ≤ 34359738368000000 := by
  have m1 := mul_bd (x := x) (y := x) (M := 131072000) (N := 131072000) (by omega) (by omega) (by omega) (by omega)
  have m2 := mul_bd (x := y) (y := y) (M := 131072000) (N := 131072000) (by omega) (by omega) (by omega) (by omega)
  have := sq_nonneg x
  have := sq_nonneg y
  unfold sqZ
  omega

def farT (x1 y1 x2 y2 : Int) : Int := -x1 * (x2 - x1) - y1 * (y2 - y1)
def farZ (x1 y1 x2 y2 : Int) : Int :=
  if farT x1 y1 x2 y2 ≤ 0 then rootZ (sqZ x1 y1) else if sqZ (x2 - x1) (y2 - y1) ≤ farT x1 y1 x2 y2 then rootZ (sqZ x2 y2)
  else rootZ (crsZ x1 y1 x2 y2 * crsZ x1 y1 x2 y2 / sqZ (x2 - x1) (y2 - y1))

theorem crs_sq (x1 y1 x2 y2 : Int) : crsZ x1 y1 x2 y2 * crsZ x1 y1 x2 y2 ≤ sqZ x1 y1 * sqZ (x2 - x1) (y2 - y1) := by
  have e : sqZ x1 y1 * sqZ (x2 - x1) (y2 - y1) = crsZ x1 y1 x2 y2 * crsZ x1 y1 x2 y2 + farT x1 y1 x2 y2 * farT x1 y1 x2 y2 := by unfold sqZ crsZ farT; grind
  have := sq_nonneg (farT x1 y1 x2 y2)
  omega
theorem far_third {x1 y1 x2 y2 : Int} (h1 : -131072000 ≤ x1 ∧ x1 ≤ 131072000) (h2 : -131072000 ≤ y1 ∧ y1 ≤ 131072000) (hs : 0 < sqZ (x2 - x1) (y2 - y1)) :
    0 ≤ crsZ x1 y1 x2 y2 * crsZ x1 y1 x2 y2 / sqZ (x2 - x1) (y2 - y1) ∧ crsZ x1 y1 x2 y2 * crsZ x1 y1 x2 y2 / sqZ (x2 - x1) (y2 - y1) ≤ 34359738368000000 := by
  have c := crs_sq x1 y1 x2 y2
  obtain ⟨b1, b2⟩ := sqZ_bd h1 h2
  have s := sq_nonneg (crsZ x1 y1 x2 y2)
  refine ⟨Int.ediv_nonneg s (by omega), ?_⟩
  have := Int.ediv_le_ediv hs c
  rw [Int.mul_ediv_cancel _ (by omega)] at this
  omega
theorem farZ_bd {x1 y1 x2 y2 : Int} (h1 : -131072000 ≤ x1 ∧ x1 ≤ 131072000) (h2 : -131072000 ≤ y1 ∧ y1 ≤ 131072000) (h3 : -131072000 ≤ x2 ∧ x2 ≤ 131072000) (h4 : -131072000 ≤ y2 ∧ y2 ≤ 131072000) : 0 ≤ farZ x1 y1 x2 y2 ∧ farZ x1 y1 x2 y2 < 536870912 := by
  have key : ∀ N : Int, 0 ≤ N → N ≤ 34359738368000000 → 0 ≤ rootZ N ∧ rootZ N < 536870912 := fun N a b => ⟨(rootZ_spec a (by omega)).1, root_lt a (by omega) (by omega) (by omega)⟩
  unfold farZ
  split
  · exact key _ (sqZ_bd h1 h2).1 (sqZ_bd h1 h2).2
  · split
    · exact key _ (sqZ_bd h3 h4).1 (sqZ_bd h3 h4).2
    · have := far_third (x2 := x2) (y2 := y2) h1 h2 (by omega)
      exact key _ this.1 this.2

def farTo (m : List V) : Nat → Int
  | 0 => 1073741824
  | k + 1 => if farZ (px m k) (py m k) (px m ((k + 1) % m.length)) (py m ((k + 1) % m.length)) < farTo m k then farZ (px m k) (py m k) (px m ((k + 1) % m.length)) (py m ((k + 1) % m.length)) else farTo m k
def apartZ (a b : List V) : Int := if bothE a b = 0 then (if ninB (minusL a b) = true then 0 else farTo (minusL a b) (minusL a b).length) else 0
theorem mnGo_within {a c : List V} (ha : allWithin 65536000 a = true) (hc : allWithin 65536000 c = true) (h1 : 0 < a.length) (h2 : 0 < c.length) (i k : Nat) : ∀ f x y, allWithin 131072000 (mnGo a c i k f x y) = true
  | 0, _, _ => rfl
  | f + 1, x, y => by
    rw [mnGo]
    split
    · have := mnGo_within ha hc h1 h2 i k f (if mnF a c i k x y = true then x + 1 else x) (if mnS a c i k x y = true then y + 1 else y)
      unfold allWithin at this ⊢
      rw [List.all_cons, this, Bool.and_true]
      have b := mn_bd ha hc h1 h2 i k x y
      exact withinB_iff.2 (by omega)
    · rfl
theorem mnGo_len (a c : List V) (i k : Nat) : ∀ f x y, (mnGo a c i k f x y).length ≤ f
  | 0, _, _ => by simp [mnGo]
  | f + 1, x, y => by
    rw [mnGo]
    split
    · have := mnGo_len a c i k f (if mnF a c i k x y = true then x + 1 else x) (if mnS a c i k x y = true then y + 1 else y)
      simp only [List.length_cons]
      omega
    · simp
theorem minus_bd (a b : List V) : allWithin 131072000 (minusL a b) = true ∧ (minusL a b).length ≤ 16 := by
  unfold minusL
  split
  · rename_i h
    have h' : checkE a = 0 ∧ checkE b = 0 := by unfold bothE at h; split at h <;> omega
    obtain ⟨a8, a3, aw, _⟩ := checkE_zero h'.1
    obtain ⟨b8, b3, bw, _⟩ := checkE_zero h'.2
    refine ⟨mnGo_within aw (negL_within bw) (by omega) (by rw [negL_len]; omega) _ _ _ _ _, ?_⟩
    have := mnGo_len a (negL b) (lowI a) (lowI (negL b)) (a.length + (negL b).length) 0 0
    rw [negL_len] at this ⊢
    omega
  · exact ⟨rfl, by simp⟩
end
end Go.Proofs.Ytienmhgbildhhaa
