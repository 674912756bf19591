/- Contracts of tourmake's streams: Next, Poly. -/
import Derived.Test.YtjoodpjndpdjnaaE1
namespace Go.Proofs.Ytjoodpjndpdjnaa
set_option linter.unusedVariables false
set_option linter.unusedSimpArgs false
open Go.RowKit

def nextV (r : List Int) (n : Int) : Int := r.headD 0 % n
theorem nextV_bd (r : List Int) (n : Int) (h : 0 < n) : 0 ≤ nextV r n ∧ nextV r n < n := ⟨Int.emod_nonneg _ (by omega), Int.emod_lt_of_pos _ h⟩
/-- a stream at block g that still has the numbers r -/
structure Stm (w : World) (g : Nat) (r : List Int) : Prop where
  lt : g < w.heap.size
  free : w.frozen? ⟨g, 0, none⟩ = false
  at_ : ∃ A n c, w.cell? ⟨g, 0, none⟩ = some (.slice A n c) ∧ SlI w A n c r ∧ (r ≠ [] → ∀ b off, A = some ⟨b, off, none⟩ → b < g)
def RetNext (g : Nat) (v : Int) (r : List Int) (w : World) (e : Ending) (w' : World) : Prop := e = .returned (.int .i64 v) ∧ Stm w' g r ∧ w.grownBy w' (some g)

theorem Stm.below {w w' : World} {g : Nat} {r : List Int} (h : Stm w g r) (hb : Below w.heap.size w w') : Stm w' g r := by
  obtain ⟨h1, h2, A, n, c, h3, h4, h5⟩ := h
  exact ⟨Nat.lt_of_lt_of_le h1 hb.size, ((bcell hb).2 _ _ h1).trans h2, A, n, c, ((bcell hb).1 _ _ h1).trans h3, h4.below hb, h5⟩

theorem SlI.setCell {w : World} {A : Option Addr} {n c g : Nat} {r : List Int} (h : SlI w A n c r) (hA : ∀ b off, A = some ⟨b, off, none⟩ → b < g) (v : Value) : SlI (w.setCell ⟨g, 0, none⟩ v) A n c r :=
  ⟨h.len, h.cap, h.big, fun hl => by
    obtain ⟨b, off, rfl, hlt, hc⟩ := h.at_ hl
    have hb := hA b off rfl
    exact ⟨b, off, rfl, by simpa [World.setCell] using hlt, fun j hj => (grown_cell (grown_setCell w g 0 v) (by omega) hlt).trans (hc j hj)⟩⟩

set_option maxRecDepth 100000 in
set_option maxHeartbeats 1000000 in
theorem next_calls (g : Nat) (n : Int) (r : List Int) (hn : 0 < n) (hn2 : n ≤ 9223372036854775807) (w : World) (hS : Stm w g r) :
    Calls Try.prog 109 #[.pointer (some ⟨g, 0, none⟩), .int .i64 n] w (RetNext g (nextV r n) r.tail w) := by
  obtain ⟨hlt, hfr, A, m, c, hc, hI, hA⟩ := hS
  match r, hI with
  | [], hI =>
    obtain rfl : m = 0 := hI.len
    have HI := hid hI
    have HA := hid hA
    have hcap := hI.cap
    have hbig := hI.big
    clear hI hA
    go_enter Try.func109, Try.ntmps109
    go_wp2
    go_returns
    exact ⟨rfl, ⟨hlt, hfr, _, _, _, hc, HI.out, HA.out⟩, grown_refl _ _⟩
  | x :: t, hI =>
    obtain rfl : m = t.length + 1 := hI.len
    have hcap := hI.cap
    have hbig := hI.big
    obtain ⟨b, off, rfl, hbl, hcell⟩ := hI.at_ (by simp)
    have hx : w.cell? ⟨b, off, none⟩ = some (.int .i64 x) := by simpa using hcell 0 (by simp)
    have hne : (((t.length : Int) + 1) == 0) = false := by simp; omega
    have hn1 : (decide (n < 1)) = false := by simp; omega
    have hbg := hA (by simp) b off rfl
    have HC := hid hcell
    have HI := hid hI
    clear hcell hI hA
    have hkey : ∀ (A' : Option Addr), (t ≠ [] → A' = some ⟨b, off + 1, none⟩) → (A' = some ⟨b, off + 1, none⟩ ∨ A' = some ⟨b, off, none⟩) → Stm (w.setCell ⟨g, 0, none⟩ (.slice A' t.length (c - 1))) g t := by
      intro A' h1 h2
      have hs : SlI w A' t.length (c - 1) t := ⟨rfl, by omega, by omega, fun hl => ⟨b, off + 1, h1 hl, hbl, fun j hj => by
        have := HC.out (j + 1) (by simp; omega)
        rw [Nat.add_assoc, Nat.add_comm 1 j]
        simpa using this⟩⟩
      have hA' : ∀ b' off', A' = some ⟨b', off', none⟩ → b' < g := by
        intro b' off' e
        rcases h2 with h2 | h2 <;> (rw [h2] at e; cases e; exact hbg)
      refine ⟨by simpa [World.setCell] using hlt, by go_simp, _, _, _, by go_simp, hs.setCell hA' _, fun _ => hA'⟩
    have HK := hid hkey
    clear hkey
    by_cases h1 : c = 1
    · subst h1
      obtain rfl : t = [] := List.length_eq_zero_iff.1 (by omega)
      have HK2 : Hid (Stm (w.setCell ⟨g, 0, none⟩ (.slice (some ⟨b, off, none⟩) 0 0)) g []) := HK.out _ (fun h => absurd rfl h) (.inr rfl)
      go_enter Try.func109, Try.ntmps109
      go_wp2_with (go_at_call 30; refine (tbelow_calls _ _ hn hn2 _).mono ?_; rintro e w1 ⟨rfl, hb⟩)
      go_returns
      exact ⟨by simp [nextV], HK2.out.below hb, grown_trans (grown_setCell _ _ _ _) (grown_of_below hb)⟩
    · have HK2 : Hid (Stm (w.setCell ⟨g, 0, none⟩ (.slice (some ⟨b, off + 1, none⟩) t.length (c - 1))) g t) := HK.out _ (fun _ => rfl) (.inl rfl)
      go_enter Try.func109, Try.ntmps109
      go_wp2_with (go_at_call 30; refine (tbelow_calls _ _ hn hn2 _).mono ?_; rintro e w1 ⟨rfl, hb⟩)
      go_returns
      exact ⟨by simp [nextV], HK2.out.below hb, grown_trans (grown_setCell _ _ _ _) (grown_of_below hb)⟩

/-- the polygon that tourmake.Poly makes of raw numbers, and the numbers that are left -/
def polyL (r : List Int) : List V :=
  formL ((1 + nextV r 4) * 65536) ((1 + nextV r.tail 4) * 65536) (nextV r.tail.tail 4) (nextV r.tail.tail.tail (2 * ((1 + nextV r 4) * 65536)) - (1 + nextV r 4) * 65536)
def polyT (r : List Int) : List Int := if nextV r.tail.tail 4 = 1 then r.tail.tail.tail.tail else r.tail.tail.tail
theorem polyL_made (r : List Int) : Made (polyL r) := by
  have h1 := nextV_bd r 4 (by omega)
  have h2 := nextV_bd r.tail 4 (by omega)
  have h3 := nextV_bd r.tail.tail 4 (by omega)
  have h4 := nextV_bd r.tail.tail.tail (2 * ((1 + nextV r 4) * 65536)) (by omega)
  refine ⟨1 + nextV r 4, 1 + nextV r.tail 4, nextV r.tail.tail 4, nextV r.tail.tail.tail (2 * ((1 + nextV r 4) * 65536)) - (1 + nextV r 4) * 65536, by omega, by omega, by omega, by omega, by omega, ?_⟩
  rw [polyL, Int.mul_comm (1 + nextV r 4) 65536, Int.mul_comm (1 + nextV r.tail 4) 65536]

/-- a slice of vectors that is new -/
def RetNew (l : List V) (g : Nat) (r : List Int) (w : World) (e : Ending) (w' : World) : Prop :=
  ∃ A n c, e = .returned (.slice A n c) ∧ Sl w' A n c l ∧ (∀ b off, A = some ⟨b, off, none⟩ → w.heap.size ≤ b) ∧ Stm w' g r ∧ w.grownBy w' (some g)

theorem Sl.made (w : World) (l : List V) (T : TypeId) (hl : l.length ≤ 9223372036854775807) : Sl (w.alloc (.cells (flat l).toArray T)) (some ⟨w.heap.size, 0, none⟩) l.length l.length l := by
  refine ⟨rfl, Nat.le_refl _, hl, fun _ => ⟨w.heap.size, 0, rfl, by simp, fun j hj => ?_, fun j hj => ?_⟩⟩
  · rw [cell_of_row _ w.heap.size _ (flat l).toArray T (0, 0) (heap_alloc_new w _)]
    simpa using (flat_at l j hj).1
  · rw [cell_of_row _ w.heap.size _ (flat l).toArray T (0, 0) (heap_alloc_new w _)]
    simpa using (flat_at l j hj).2
theorem retNew_made {l : List V} {g : Nat} {r : List Int} {w w3 : World} {T : TypeId} (hl : l.length ≤ 9223372036854775807) (h : Stm w3 g r) (hg : w.grownBy w3 (some g)) : RetNew l g r w (.returned (.slice (some ⟨w3.heap.size, 0, none⟩) l.length l.length)) (w3.alloc (.cells (flat l).toArray T)) :=
  ⟨_, _, _, rfl, Sl.made _ _ _ hl, fun b off e => by cases e; exact hg.size, h.below (by go_grown), grown_trans hg (World.grownBy_alloc _ _ _)⟩

set_option maxRecDepth 100000 in
set_option maxHeartbeats 1000000 in
theorem mpoly_calls (g : Nat) (r : List Int) (w : World) (hS : Stm w g r) :
    Calls Try.prog 76 #[.pointer (some ⟨g, 0, none⟩)] w (RetNew (polyL r) g (polyT r) w) := by
  have b1 := nextV_bd r 4 (by omega)
  have b2 := nextV_bd r.tail 4 (by omega)
  have b3 := nextV_bd r.tail.tail 4 (by omega)
  have b4 := nextV_bd r.tail.tail.tail (2 * ((1 + nextV r 4) * 65536)) (by omega)
  have HP := hid (show polyL r = formL ((1 + nextV r 4) * 65536) ((1 + nextV r.tail 4) * 65536) (nextV r.tail.tail 4) (nextV r.tail.tail.tail (2 * ((1 + nextV r 4) * 65536)) - (1 + nextV r 4) * 65536) from rfl)
  have HT := hid (show polyT r = if nextV r.tail.tail 4 = 1 then r.tail.tail.tail.tail else r.tail.tail.tail from rfl)
  have H1 := hid hS
  clear hS
  go_enter Try.func76, Try.ntmps76
  go_wp2_with fail
  refine (next_calls g 4 r (by omega) (by omega) _ H1.out).mono ?_
  rintro e w1 ⟨rfl, hS2, hg1⟩
  have H2 := hid hS2
  clear hS2
  go_wp2_with fail
  refine (next_calls g 4 r.tail (by omega) (by omega) _ H2.out).mono ?_
  rintro e w2 ⟨rfl, hS3, hg2⟩
  have H3 := hid hS3
  clear hS3
  go_wp2_with fail
  refine (next_calls g 4 r.tail.tail (by omega) (by omega) _ H3.out).mono ?_
  rintro e w3 ⟨rfl, hS4, hg3⟩
  have H4 := hid hS4
  clear hS4
  have hg : w.grownBy w3 (some g) := grown_trans (grown_trans hg1 hg2) hg3
  have HG := hid hg
  clear hg hg1 hg2 hg3
  generalize nextV r 4 = a at *
  generalize nextV r.tail 4 = b at *
  generalize hk : nextV r.tail.tail 4 = k at *
  have HK := hid hk
  clear hk
  go_wp2_with fail
  · obtain rfl : k = 0 := by simpa using (show (k == 0) = true by assumption)
    go_returns
    exact HP.out ▸ HT.out ▸ retNew_made (l := [(-((1 + a) * 65536), -((1 + b) * 65536)), ((1 + a) * 65536, -((1 + b) * 65536)), ((1 + a) * 65536, (1 + b) * 65536), (-((1 + a) * 65536), (1 + b) * 65536)]) (by simp) H4.out HG.out
  · obtain rfl : k = 1 := by simpa using (show (k == 1) = true by assumption)
    refine (next_calls g _ _ (by omega) (by omega) _ H4.out).mono ?_
    rintro e w4 ⟨rfl, hS5, hg4⟩
    generalize nextV r.tail.tail.tail (2 * ((1 + a) * 65536)) = x at *
    have H5 := hid hS5
    clear hS5
    go_wp2
    go_returns
    exact HP.out ▸ HT.out ▸ retNew_made (l := [(-((1 + a) * 65536), -((1 + b) * 65536)), ((1 + a) * 65536, -((1 + b) * 65536)), (x - (1 + a) * 65536, (1 + b) * 65536)]) (by simp) H5.out (grown_trans HG.out hg4)
  · obtain rfl : k = 2 := by simpa using (show (k == 2) = true by assumption)
    have e : min ((1 + a) * 65536) ((1 + b) * 65536) = (1 + b) * 65536 := by omega
    go_returns
    exact HP.out ▸ HT.out ▸ (show formL ((1 + a) * 65536) ((1 + b) * 65536) 2 (nextV r.tail.tail.tail (2 * ((1 + a) * 65536)) - (1 + a) * 65536) = [(-((1 + a) * 65536), -((1 + b) * 65536)), ((1 + a) * 65536 - (1 + b) * 65536 / 2, -((1 + b) * 65536)), ((1 + a) * 65536, (1 + b) * 65536 / 2 - (1 + b) * 65536), ((1 + a) * 65536, (1 + b) * 65536), (-((1 + a) * 65536), (1 + b) * 65536)] by simp [formL, e]) ▸ retNew_made (l := [(-((1 + a) * 65536), -((1 + b) * 65536)), ((1 + a) * 65536 - (1 + b) * 65536 / 2, -((1 + b) * 65536)), ((1 + a) * 65536, (1 + b) * 65536 / 2 - (1 + b) * 65536), ((1 + a) * 65536, (1 + b) * 65536), (-((1 + a) * 65536), (1 + b) * 65536)]) (by simp) H4.out HG.out
  · obtain rfl : k = 2 := by simpa using (show (k == 2) = true by assumption)
    have e : min ((1 + a) * 65536) ((1 + b) * 65536) = (1 + a) * 65536 := by omega
    go_returns
    exact HP.out ▸ HT.out ▸ (show formL ((1 + a) * 65536) ((1 + b) * 65536) 2 (nextV r.tail.tail.tail (2 * ((1 + a) * 65536)) - (1 + a) * 65536) = [(-((1 + a) * 65536), -((1 + b) * 65536)), ((1 + a) * 65536 - (1 + a) * 65536 / 2, -((1 + b) * 65536)), ((1 + a) * 65536, (1 + a) * 65536 / 2 - (1 + b) * 65536), ((1 + a) * 65536, (1 + b) * 65536), (-((1 + a) * 65536), (1 + b) * 65536)] by simp [formL, e]) ▸ retNew_made (l := [(-((1 + a) * 65536), -((1 + b) * 65536)), ((1 + a) * 65536 - (1 + a) * 65536 / 2, -((1 + b) * 65536)), ((1 + a) * 65536, (1 + a) * 65536 / 2 - (1 + b) * 65536), ((1 + a) * 65536, (1 + b) * 65536), (-((1 + a) * 65536), (1 + b) * 65536)]) (by simp) H4.out HG.out
  · have h0 : k ≠ 0 := by simpa using (show (k == 0) = false by assumption)
    have h1 : k ≠ 1 := by simpa using (show (k == 1) = false by assumption)
    have h2 : k ≠ 2 := by simpa using (show (k == 2) = false by assumption)
    have eT : polyT r = r.tail.tail.tail := by rw [HT.out, if_neg h1]
    have eP : polyL r = [(-((1 + a) * 65536), 0), (0, -((1 + b) * 65536)), ((1 + a) * 65536, 0), (0, (1 + b) * 65536)] := by rw [HP.out, formL, if_neg h0, if_neg h1, if_neg h2]
    go_returns
    exact eP ▸ eT ▸ retNew_made (l := [(-((1 + a) * 65536), 0), (0, -((1 + b) * 65536)), ((1 + a) * 65536, 0), (0, (1 + b) * 65536)]) (by simp) H4.out HG.out

/-- a slice of vectors that is new; nothing that was there has changed -/
def RetVecs (l : List V) (w : World) (e : Ending) (w' : World) : Prop :=
  ∃ A n c, e = .returned (.slice A n c) ∧ Sl w' A n c l ∧ (∀ b off, A = some ⟨b, off, none⟩ → w.heap.size ≤ b) ∧ Below w.heap.size w w'

theorem mPoly_calls (A : Option Addr) (n c : Nat) (r : List Int) (w : World) (hS : SlI w A n c r) :
    Calls Try.prog 24 #[.slice A n c] w (RetVecs (polyL r) w) := by
  have hs : Stm (w.alloc (.cells #[.slice A n c] 95)) w.heap.size r := ⟨by simp, by go_simp, _, _, _, by go_simp, hS.below (by go_grown), fun hr b off e => by obtain ⟨b', off', e2, h, _⟩ := hS.at_ hr; rw [e] at e2; cases e2; exact h⟩
  have HS := hid hs
  clear hs hS
  go_enter Try.func24, Try.ntmps24
  go_wp2_with fail
  refine (mpoly_calls _ r _ HS.out).mono ?_
  rintro e w1 ⟨A2, n2, c2, rfl, hS2, hA2, _, hg⟩
  have HS2 := hid hS2
  have HA2 := hid hA2
  clear hS2 hA2
  go_wp2
  go_returns
  exact ⟨_, _, _, rfl, HS2.out, fun b off e => by have := HA2.out b off e; simp at this; omega, ((Below.refl w.heap.size w).alloc (Nat.le_refl _) _).trans (below_of_grown hg (by simp) (Nat.le_refl _))⟩

theorem place_calls (x y : Int) (w : World) : Calls Try.prog 25 #[.int .i64 x, .int .i64 y] w (Ret (vecV (x % 1572864 - 786432) (y % 1572864 - 786432)) w) := by
  have h1 := Int.emod_nonneg x (show (1572864 : Int) ≠ 0 by omega)
  have h2 := Int.emod_lt_of_pos x (show (0 : Int) < 1572864 by omega)
  have h3 := Int.emod_nonneg y (show (1572864 : Int) ≠ 0 by omega)
  have h4 := Int.emod_lt_of_pos y (show (0 : Int) < 1572864 by omega)
  generalize hx : x % 1572864 = x' at *
  generalize hy : y % 1572864 = y' at *
  have HX := hid hx
  have HY := hid hy
  clear hx hy
  go_enter Try.func25, Try.ntmps25
  go_wp2_with fail
  refine (tbelow_calls x 1572864 (by omega) (by omega) _).mono ?_
  rintro e w1 ⟨rfl, hb1⟩
  rw [HX.out]
  have k1 : w1.cell? ⟨w.heap.size, 0, none⟩ = some (.int .i64 0) := keepCell hb1 (by go_simp)
  have k2 : w1.cell? ⟨w.heap.size, 1, none⟩ = some (.int .i64 0) := keepCell hb1 (by go_simp)
  have k3 : w1.frozen? ⟨w.heap.size, 0, none⟩ = false := ((bcell hb1).2 _ _ (by simp)).trans (by go_simp)
  have k4 : w1.frozen? ⟨w.heap.size, 1, none⟩ = false := ((bcell hb1).2 _ _ (by simp)).trans (by go_simp)
  go_wp2_with fail
  refine (tbelow_calls y 1572864 (by omega) (by omega) _).mono ?_
  rintro e w2 ⟨rfl, hb2⟩
  rw [HY.out]
  have hz : w.heap.size < w1.heap.size := lt_of_cell k1
  have l1 : w2.cell? ⟨w.heap.size, 0, none⟩ = some (.int .i64 0) := keepCell hb2 k1
  have l2 : w2.cell? ⟨w.heap.size, 1, none⟩ = some (.int .i64 0) := keepCell hb2 k2
  have l3 : w2.frozen? ⟨w.heap.size, 0, none⟩ = false := ((bcell hb2).2 _ _ hz).trans k3
  have l4 : w2.frozen? ⟨w.heap.size, 1, none⟩ = false := ((bcell hb2).2 _ _ hz).trans k4
  clear k1 k2 k3 k4
  have hz2 : w.heap.size < w2.heap.size := lt_of_cell l1
  have hB : Below w.heap.size w w2 := (((Below.refl w.heap.size w).alloc (Nat.le_refl _) _).trans (hb1.mono (by simp))).trans (hb2.mono (by omega))
  go_wp2
  refine bodyPost_ret (v := vecV (x' - 786432) (y' - 786432)) (by simp [results, Try.results25, go_sem, l1, l2, l3, l4, hz2]) rfl ⟨rfl, ?_⟩
  go_grown

/-- the reference's square of tourkeep2 -/
def sqK (x y h : Int) : List V := [(x * 65536 - h * 65536, y * 65536 - h * 65536), (x * 65536 + h * 65536, y * 65536 - h * 65536), (x * 65536 + h * 65536, y * 65536 + h * 65536), (x * 65536 - h * 65536, y * 65536 + h * 65536)]
theorem squareK_calls (x y s : Int) (hx : -1048576 ≤ x ∧ x ≤ 1048576) (hy : -1048576 ≤ y ∧ y ≤ 1048576) (hs : -1048576 ≤ s ∧ s ≤ 1048576) (w : World) :
    Calls Try.prog 77 #[.int .i64 x, .int .i64 y, .int .i64 s] w (RetSl (sqK x y s) w) := by
  go_enter Try.func77, Try.ntmps77
  go_wp2
  go_returns
  exact ⟨_, _, _, rfl, Sl.of4 _ _ _ _ _ _ _ _ (by go_simp) (by go_simp) (by go_simp) (by go_simp) (by go_simp) (by go_simp) (by go_simp) (by go_simp) (by omega) (by omega), by go_grown⟩

set_option maxRecDepth 100000 in
set_option maxHeartbeats 1000000 in
theorem moved_calls (A : Option Addr) (n c : Nat) (l : List V) (u v : Int) (w : World) (hS : Sl w A n c l) (hl : l.length ≤ 1000) (hu : -2000000000 ≤ u ∧ u ≤ 2000000000) (hv : -2000000000 ≤ v ∧ v ≤ 2000000000) (hw : allWithin 65536000 l = true) :
    Calls Try.prog 26 #[.slice A n c, vecV u v] w (RetVecs (movL l u v) w) := by
  have hn := hS.len
  subst hn
  have hcap := hS.cap
  have hbig := hS.big
  have HS := hid hS
  have HW := hid hw
  clear hS hw
  go_enter Try.func26, Try.ntmps26
  go_wp2
  go_loopw [5, 10] (fun s i wr => ∃ k : Nat, k ≤ l.length ∧ i = .int .i64 k ∧ Own wr (w.heap.size + 1) s (movL (l.take k) u v) ∧ Below w.heap.size w wr ∧ wr.cell? ⟨w.heap.size, 0, none⟩ = some (.int .i64 u) ∧ wr.cell? ⟨w.heap.size, 1, none⟩ = some (.int .i64 v)) (fun _ i _ => l.length - (intOf i).toNat)
  case atStart => exact ⟨0, Nat.zero_le _, rfl, Own.nil _ _, by go_grown, by go_simp, by go_simp⟩
  case round =>
    obtain ⟨k, hk, rfl, hown, hB, ku, kv⟩ := hrel
    obtain ⟨wo, rfl⟩ : ∃ wo : World, wo = wr := ⟨_, rfl⟩
    have HO := hid hown
    clear hown
    by_cases hlt : k < l.length
    · obtain ⟨b, off, rfl, hC⟩ := (HS.out.below hB).at_ (by intro h; subst h; simp at hlt)
      have hx := hC.x k hlt
      have hy := hC.y k hlt
      have hbo := hC.lt
      obtain ⟨_, _, _, _⟩ := withinB_iff.1 (allWithin_at HW.out hlt)
      have hwo := lt_of_cell ku
      clear hC
      go_wp2_with (at_builtin; refine wpList_append_vecs rfl _ _ rfl (w.heap.size + 1) _ _ rfl ((HO.out.alloc _).alloc _) (wo.heap.size + 1) 0 1 1 [(px l k + u, py l k + v)] rfl rfl (cells_one (by go_simp) (by go_simp)) (by rw [movL_len, List.length_take, List.length_singleton]; omega) (by simp; omega) ?_; intro v' w1 ho1 hg1; have HO1 := hid ho1; have hb1 := Own.grown ((HO.out.alloc _).alloc _) hg1 (by simp; omega); clear ho1 hg1)
      have hB1 : Below w.heap.size w w1 := ((hB.alloc (by omega) _).alloc (by simp; omega) _).trans (hb1.mono (by omega))
      have k1 : w1.cell? ⟨w.heap.size, 0, none⟩ = some (.int .i64 u) := ((bcell hb1).1 _ _ (by omega)).trans (by go_simp)
      have k2 : w1.cell? ⟨w.heap.size, 1, none⟩ = some (.int .i64 v) := ((bcell hb1).1 _ _ (by omega)).trans (by go_simp)
      go_roundw
      case rel =>
        refine ⟨k + 1, hlt, by go_num, ?_, hB1, k1, k2⟩
        rw [List.take_succ_eq_append_getElem hlt, movL, List.map_append, List.map_singleton, px_lt hlt]
        exact HO1.out
      case measure => simp [intOf]; omega
    · have hge : l.length ≤ k := by omega
      obtain ⟨A', n', c', rfl, hs, hf⟩ := HO.out.sl
      have H2 : Hid (Sl wo A' n' c' (movL l u v)) := by rwa [List.take_of_length_le hge] at hs
      have HF := hid hf
      clear hs hf HO
      go_wp2
      go_returns
      exact ⟨_, _, _, rfl, H2.out, fun b off e => by have := HF.out b off e; omega, hB⟩

end Go.Proofs.Ytjoodpjndpdjnaa
