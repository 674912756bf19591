/- Contracts: slices.Clone and slices.Reverse of boxes, slices.Compare of integers, the order of the laws; a sort by it. -/
import Derived.Test.YthhfjiikmaghdaaW9
namespace Go.Proofs.Ythhfjiikmaghdaa
set_option linter.unusedVariables false
set_option linter.unusedSimpArgs false
open Go.RowKit Go.Sort Go.Lib

theorem flatBox_set : ∀ (l : List Bx) (i : Nat) (x : Bx), i < l.length → flatE layBox (l.set i x) = ((((flatE layBox l).set (i * 4) (.int .i64 x.1.1)).set (i * 4 + 1) (.int .i64 x.1.2)).set (i * 4 + 2) (.int .i64 x.2.1)).set (i * 4 + 3) (.int .i64 x.2.2)
  | [], i, x, h => by simp at h
  | a :: l, 0, x, _ => by simp [flatE, layBox]
  | a :: l, i + 1, x, h => by
    have ih := flatBox_set l i x (by simpa using h)
    have e : (i + 1) * 4 = i * 4 + 1 + 1 + 1 + 1 := by omega
    rw [List.set_cons_succ, show flatE layBox (a :: l.set i x) = layBox.enc a ++ flatE layBox (l.set i x) from rfl, ih, show flatE layBox (a :: l) = layBox.enc a ++ flatE layBox l from rfl, e]
    simp [layBox, List.set_cons_succ, Nat.add_assoc]
def put4o (w : World) (g o : Nat) (x : Bx) : World := (((w.setCell ⟨g, o, none⟩ (.int .i64 x.1.1)).setCell ⟨g, o + 1, none⟩ (.int .i64 x.1.2)).setCell ⟨g, o + 2, none⟩ (.int .i64 x.2.1)).setCell ⟨g, o + 3, none⟩ (.int .i64 x.2.2)
theorem OwnE.put4 {w : World} {B g cap n : Nat} {e : TypeId} {l : List Bx} (h : OwnE layBox e w B (.slice (some ⟨g, 0, none⟩) n cap) l) {i : Nat} (x : Bx) (hi : i < l.length) : OwnE layBox e (put4o w g (i * 4) x) B (.slice (some ⟨g, 0, none⟩) n cap) (l.set i x) := by
  have hn : n = l.length := by
    obtain ⟨-, h2 | ⟨g', cap', cur, hv, _⟩⟩ := h
    · cases h2.1
    · cases hv; rfl
  subst hn
  unfold OwnE at h ⊢
  rw [flatBox_set l i x hi, List.length_set]
  exact ((((h.stored _ _).1.stored _ _).1.stored _ _).1.stored _ _).1
theorem OwnE.free {w : World} {B g cap n : Nat} {e : TypeId} {l : List Bx} (h : OwnE layBox e w B (.slice (some ⟨g, 0, none⟩) n cap) l) : ∀ j, w.frozen? ⟨g, j, none⟩ = false := by
  rcases h.form with ⟨h1, -⟩ | ⟨g', cap', hv, -, -, -, -, hf, -⟩
  · cases h1
  · cases hv; exact hf
theorem OwnE.ltg {w : World} {B g cap n : Nat} {e : TypeId} {l : List Bx} (h : OwnE layBox e w B (.slice (some ⟨g, 0, none⟩) n cap) l) : g < w.heap.size := (h.lt (k := g) rfl).2
theorem OwnE.cellsAt {w : World} {B g cap n : Nat} {e : TypeId} {l : List Bx} (h : OwnE layBox e w B (.slice (some ⟨g, 0, none⟩) n cap) l) {i : Nat} (hi : i < l.length) :
    w.cell? ⟨g, i * 4, none⟩ = some (.int .i64 (bxAt l i).1.1) ∧ w.cell? ⟨g, i * 4 + 1, none⟩ = some (.int .i64 (bxAt l i).1.2) ∧ w.cell? ⟨g, i * 4 + 2, none⟩ = some (.int .i64 (bxAt l i).2.1) ∧ w.cell? ⟨g, i * 4 + 3, none⟩ = some (.int .i64 (bxAt l i).2.2) := by
  rcases h.form with ⟨h1, -⟩ | ⟨g', cap', hv, -, -, -, -, -, hC⟩
  · cases h1
  · cases hv
    have := hC.box hi
    simpa only [Nat.zero_add] using this
theorem below_put4o {B : Nat} {w w' : World} (h : Below B w w') {g : Nat} (hg : B ≤ g) (o : Nat) (x : Bx) : Below B w (put4o w' g o x) := (((h.setCell (p := ⟨g, o, none⟩) hg _).setCell (p := ⟨g, o + 1, none⟩) hg _).setCell (p := ⟨g, o + 2, none⟩) hg _).setCell (p := ⟨g, o + 3, none⟩) hg _

/-- a list of boxes of which the first k and the last k have changed places -/
def rvTo (l : List Bx) : Nat → List Bx
  | 0 => l
  | k + 1 => ((rvTo l k).set k (bxAt l (l.length - 1 - k))).set (l.length - 1 - k) (bxAt l k)
theorem rvTo_len (l : List Bx) : ∀ k, (rvTo l k).length = l.length
  | 0 => rfl
  | k + 1 => by rw [rvTo, List.length_set, List.length_set, rvTo_len l k]
theorem rvTo_at (l : List Bx) : ∀ (k : Nat), 2 * k ≤ l.length → ∀ t, t < l.length → bxAt (rvTo l k) t = if t < k ∨ l.length - 1 - t < k then bxAt l (l.length - 1 - t) else bxAt l t
  | 0, _, t, ht => by simp [rvTo]
  | k + 1, hk, t, ht => by
    have ih := rvTo_at l k (by omega)
    have hl := rvTo_len l k
    rw [rvTo]
    unfold bxAt at ih ⊢
    rw [List.getD_eq_getElem?_getD, List.getElem?_set]
    by_cases h1 : l.length - 1 - k = t
    · rw [if_pos h1, if_pos (by rw [List.length_set, hl]; omega), if_pos (by omega)]
      rw [show l.length - 1 - t = k by omega]
      rfl
    · rw [if_neg h1, List.getElem?_set]
      by_cases h2 : k = t
      · rw [if_pos h2, if_pos (by rw [hl]; omega), if_pos (by omega)]
        subst h2
        rfl
      · rw [if_neg h2, ← List.getD_eq_getElem?_getD, ih t ht]
        have e : (t < k ∨ l.length - 1 - t < k) ↔ (t < k + 1 ∨ l.length - 1 - t < k + 1) := by omega
        simp only [e]
theorem rvTo_all (l : List Bx) (k : Nat) (h1 : 2 * k ≤ l.length) (h2 : l.length ≤ 2 * k + 1) : rvTo l k = l.reverse := by
  apply List.ext_getElem
  · rw [rvTo_len, List.length_reverse]
  · intro t ht1 ht2
    have ht : t < l.length := by rw [rvTo_len] at ht1; exact ht1
    have h := rvTo_at l k h1 t ht
    have e1 : bxAt (rvTo l k) t = (rvTo l k)[t] := by unfold bxAt; simp [ht1]
    have e2 : bxAt l (l.length - 1 - t) = l[l.length - 1 - t] := by unfold bxAt; simp [show l.length - 1 - t < l.length by omega]
    rw [List.getElem_reverse, ← e1, ← e2, h]
    split
    · rfl
    · rw [show l.length - 1 - t = t by omega]

set_option maxRecDepth 100000 in
set_option maxHeartbeats 2000000 in
theorem cloneB_calls (A : Option Addr) (n c : Nat) (l : List Bx) (w : World) (hS : SlE layBox w A n c l) (hl : l.length ≤ 100000) : Calls Try.prog 63 #[.slice A n c] w fun e w' => ∃ s, e = .returned s ∧ OwnE layBox 55 w' w.heap.size s l ∧ Below w.heap.size w w' := by
  have hcmp : ∀ w' : World, (binOp .eql 52 (.slice A n c) (.slice none 0 0)).run Try.prog w' = .ok (.bool A.isNone) w' := fun w' => Lib.run_eql_slice_nil w' 52 _ A n c 0 0 Try.underlying52
  cases A with
  | none =>
    have hl0 : l = [] := by
      rcases l with _ | ⟨a, r⟩
      · rfl
      · obtain ⟨b, off, h, _⟩ := hS.at_ (by simp); cases h
    subst hl0
    clear hS
    go_enter Try.func63, Try.ntmps63
    go_wp2
    refine bodyPost_ret (v := .slice none 0 0) (by simp [results, Try.results63, go_sem]) rfl ⟨_, rfl, OwnE.nil _ _ _ _, Below.refl _ _⟩
  | some ad =>
    have hn := hS.len
    have HS := hid hS
    clear hS
    subst hn
    have HO : Hid (OwnE layBox 55 (w.alloc (.cells #[] 55)) w.heap.size (.slice (some ⟨w.heap.size, 0, none⟩) 0 0) []) := ⟨by simp [flatE], .inr ⟨w.heap.size, 0, #[], rfl, Nat.le_refl _, heap_alloc_new w _, Nat.le_refl _, Nat.zero_le _, by simp, by simp [flatE]⟩⟩
    have hb0 : Below w.heap.size w (w.alloc (.cells #[] 55)) := by go_grown
    go_enter Try.func63, Try.ntmps63
    go_wp2_with (at_builtin; refine wpList_append_S tyBox rfl _ _ rfl w.heap.size _ [] rfl HO.out _ _ _ l rfl (HS.out.below hb0) (by first | omega | (simp; omega)) (by first | omega | (simp; omega)) (by simp) ?_; intro v' w1 ho1 hg1 hat; have HO1 := hid ho1; have hb1 := hid (hb0.grown hg1 (by simp) (fun k hk => (HO.out.lt hk).1)); clear ho1 hg1 hat)
    obtain ⟨A', n', c', rfl, -, -⟩ := HO1.out.sl
    refine bodyPost_ret (v := .slice A' n' c') (by simp [results, Try.results63, go_sem]) rfl ⟨_, rfl, by simpa using HO1.out, hb1.out⟩

set_option maxRecDepth 100000 in
set_option maxHeartbeats 4000000 in
theorem reverseB_calls (s : Value) (l : List Bx) (B : Nat) (w : World) (hO : OwnE layBox 55 w B s l) (hl : l.length ≤ 100000) : Calls Try.prog 64 #[s] w fun e w' => e = .returned (.tuple #[]) ∧ OwnE layBox 55 w' B s l.reverse ∧ Below B w w' := by
  have HO0 := hid hO
  obtain ⟨A, n, c, rfl, hs, -⟩ := hO.sl
  have hn := hs.len
  subst hn
  clear hs hO
  have hw0 : IntKind.i64.wrap ((l.length : Int) - 1) = (l.length : Int) - 1 := IntWalk.i64_in _ (by omega)
  go_enter Try.func64, Try.ntmps64
  go_wp2
  go_loopw [2, 3] (fun i j wr => ∃ k : Nat, 2 * k ≤ l.length ∧ i = .int .i64 k ∧ j = .int .i64 ((l.length : Int) - 1 - (k : Int)) ∧ OwnE layBox 55 wr B (.slice A l.length c) (rvTo l k) ∧ Below B w wr) (fun i _ _ => l.length - (intOf i).toNat)
  case atStart => exact ⟨0, by omega, rfl, by simp, HO0.out, Below.refl _ _⟩
  case round =>
    clear HO0
    obtain ⟨k, hk, rfl, rfl, ho, hB⟩ := hrel
    obtain ⟨wo, rfl⟩ : ∃ wo : World, wo = wr := ⟨_, rfl⟩
    have HO0 := hid ho
    by_cases hlt : (k : Int) < (l.length : Int) - 1 - (k : Int)
    · have hkl : k < l.length := by omega
      obtain ⟨j, hj⟩ : ∃ j, j = l.length - 1 - k := ⟨_, rfl⟩
      have hjI : (l.length : Int) - 1 - (k : Int) = (j : Int) := by omega
      have hjL : j < l.length := by omega
      have hk' : (k : Int) < (l.length : Int) := by omega
      have hj' : (j : Int) < (l.length : Int) := by omega
      have hlt2 : (k : Int) < (j : Int) := by omega
      have hwk : IntKind.i64.wrap ((k : Int) + 1) = (k : Int) + 1 := IntWalk.i64_in _ (by omega)
      have hwj : IntKind.i64.wrap ((j : Int) - 1) = (j : Int) - 1 := IntWalk.i64_in _ (by omega)
      have hk2 : 2 * (k + 1) ≤ l.length := by omega
      have HNX : Hid (rvTo l (k + 1) = ((rvTo l k).set k (bxAt l j)).set j (bxAt l k)) := by rw [hj]; exact rfl
      have hlen := rvTo_len l k
      have hxk := rvTo_at l k (by omega) k hkl
      rw [if_neg (by omega)] at hxk
      have hyj := rvTo_at l k (by omega) j hjL
      rw [if_neg (by omega)] at hyj
      rcases ho.form with ⟨-, e2⟩ | ⟨g, cap, e1, hBg, hg, -⟩
      · rw [e2] at hlen; simp at hlen; omega
      · obtain ⟨eA, -, ec⟩ : A = some ⟨g, 0, none⟩ ∧ l.length = (rvTo l k).length ∧ c = cap := by injection e1 with eA e2 ec; exact ⟨eA, hlen.symm, ec⟩
        subst eA
        subst ec
        obtain ⟨x_0, x_1, x_2, x_3⟩ := ho.cellsAt (i := k) (by omega)
        obtain ⟨y_0, y_1, y_2, y_3⟩ := ho.cellsAt (i := j) (by omega)
        rw [hxk] at x_0 x_1 x_2 x_3
        rw [hyj] at y_0 y_1 y_2 y_3
        rw [hjI]
        have HK := hid (And.intro hk (And.intro hj hjI))
        generalize rvTo l k = M at *
        generalize bxAt l k = pk at *
        generalize bxAt l j = pj at *
        obtain ⟨⟨x0, x1⟩, x2, x3⟩ := pk
        obtain ⟨⟨y0, y1⟩, y2, y3⟩ := pj
        try dsimp only at x_0 x_1 x_2 x_3 y_0 y_1 y_2 y_3
        have hkL : k < M.length := by omega
        have hjL2 : j < (M.set k ((y0, y1), (y2, y3))).length := by rw [List.length_set]; omega
        clear hxk hyj ho e1 hj hjI hk hlt
        go_upto_region 3 with fail
        refine wp_region_noPanic ?_
        refine wp_region_U (S := (S2 (fun w' => w'.cell? ⟨g, k * 4, none⟩ = some (.int .i64 x0) ∧ w'.cell? ⟨g, k * 4 + 1, none⟩ = some (.int .i64 x1) ∧ w'.cell? ⟨g, k * 4 + 2, none⟩ = some (.int .i64 x2) ∧ w'.cell? ⟨g, k * 4 + 3, none⟩ = some (.int .i64 x3) ∧ w'.cell? ⟨g, j * 4, none⟩ = some (.int .i64 y0) ∧ w'.cell? ⟨g, j * 4 + 1, none⟩ = some (.int .i64 y1) ∧ w'.cell? ⟨g, j * 4 + 2, none⟩ = some (.int .i64 y2) ∧ w'.cell? ⟨g, j * 4 + 3, none⟩ = some (.int .i64 y3) ∧ OwnE layBox 55 w' B (.slice (some ⟨g, 0, none⟩) l.length c) M ∧ Below B w w'))) (T := (fun j => [0, 0, 0, 0, 0, 0, 0, 0, 0, 0, 0, 0, 0, 1].getD j 0)) (by kernel_rfl) (S2i0 ⟨x_0, x_1, x_2, x_3, y_0, y_1, y_2, y_3, HO0.out.drew, hB.drew⟩) (fun hH => ?_)
        have hWr2 : Weaker (S2 (fun w' => w'.cell? ⟨g, k * 4, none⟩ = some (.int .i64 x0) ∧ w'.cell? ⟨g, k * 4 + 1, none⟩ = some (.int .i64 x1) ∧ w'.cell? ⟨g, k * 4 + 2, none⟩ = some (.int .i64 x2) ∧ w'.cell? ⟨g, k * 4 + 3, none⟩ = some (.int .i64 x3) ∧ w'.cell? ⟨g, j * 4, none⟩ = some (.int .i64 y0) ∧ w'.cell? ⟨g, j * 4 + 1, none⟩ = some (.int .i64 y1) ∧ w'.cell? ⟨g, j * 4 + 2, none⟩ = some (.int .i64 y2) ∧ w'.cell? ⟨g, j * 4 + 3, none⟩ = some (.int .i64 y3) ∧ OwnE layBox 55 w' B (.slice (some ⟨g, 0, none⟩) l.length c) M ∧ Below B w w')) := weaker2 _
        refine U_take 0 14 15 0 0 (v := ?vr2_1) rfl (by kernel_rfl) (by kernel_rfl) hWr2 (by kernel_rfl) (by kernel_rfl) (by kernel_rfl) (by kernel_rfl) (by kernel_rfl) (by kernel_rfl) (fun _ _ _ _ h => h) (by kernel_rfl) ?hyr2_1 (by omega) hH ?_
        case hyr2_1 => (intro w' hSw; clear hSw; go_simp; try (with_reducible rfl))
        simp only [List.set_cons_zero, List.set_cons_succ]
        refine U_take 1 15 14 0 0 (v := ?vr2_2) rfl (by kernel_rfl) (by kernel_rfl) hWr2 (by kernel_rfl) (by kernel_rfl) (by kernel_rfl) (by kernel_rfl) (by kernel_rfl) (by kernel_rfl) (fun _ _ _ _ h => h) (by kernel_rfl) ?hyr2_2 (by omega) hH ?_
        case hyr2_2 => (intro w' hSw; clear hSw; go_simp; try (with_reducible rfl))
        simp only [List.set_cons_zero, List.set_cons_succ]
        refine U_take 4 18 13 0 0 (v := ?vr2_3) rfl (by kernel_rfl) (by kernel_rfl) hWr2 (by kernel_rfl) (by kernel_rfl) (by kernel_rfl) (by kernel_rfl) (by kernel_rfl) (by kernel_rfl) (fun _ _ _ _ h => h) (by kernel_rfl) ?hyr2_3 (by omega) hH ?_
        case hyr2_3 => (intro w' hSw; clear hSw; go_simp; try (with_reducible rfl))
        simp only [List.set_cons_zero, List.set_cons_succ]
        refine U_take 5 19 12 0 0 (v := ?vr2_4) rfl (by kernel_rfl) (by kernel_rfl) hWr2 (by kernel_rfl) (by kernel_rfl) (by kernel_rfl) (by kernel_rfl) (by kernel_rfl) (by kernel_rfl) (fun _ _ _ _ h => h) (by kernel_rfl) ?hyr2_4 (by omega) hH ?_
        case hyr2_4 => (intro w' hSw; clear hSw; go_simp; try (with_reducible rfl))
        simp only [List.set_cons_zero, List.set_cons_succ]
        refine U_take 6 20 11 0 0 (v := ?vr2_5) rfl (by kernel_rfl) (by kernel_rfl) hWr2 (by kernel_rfl) (by kernel_rfl) (by kernel_rfl) (by kernel_rfl) (by kernel_rfl) (by kernel_rfl) (fun _ _ _ _ h => h) (by kernel_rfl) ?hyr2_5 (by omega) hH ?_
        case hyr2_5 => (intro w' hSw; clear hSw; go_simp; try (with_reducible rfl))
        simp only [List.set_cons_zero, List.set_cons_succ]
        refine U_take 7 21 10 0 0 (v := ?vr2_6) rfl (by kernel_rfl) (by kernel_rfl) hWr2 (by kernel_rfl) (by kernel_rfl) (by kernel_rfl) (by kernel_rfl) (by kernel_rfl) (by kernel_rfl) (fun _ _ _ _ h => h) (by kernel_rfl) ?hyr2_6 (by omega) hH ?_
        case hyr2_6 => (intro w' hSw; replace hSw := S2o0 hSw; (try dsimp only at hSw); have q0 := hSw.1; have q1 := hSw.2.1; have q2 := hSw.2.2.1; have q3 := hSw.2.2.2.1; have q4 := hSw.2.2.2.2.1; have q5 := hSw.2.2.2.2.2.1; have q6 := hSw.2.2.2.2.2.2.1; have q7 := hSw.2.2.2.2.2.2.2.1; have q8 := hSw.2.2.2.2.2.2.2.2.1; have q9 := hSw.2.2.2.2.2.2.2.2.2; go_simp; try (with_reducible rfl))
        simp only [List.set_cons_zero, List.set_cons_succ]
        refine U_take 8 22 9 0 0 (v := ?vr2_7) rfl (by kernel_rfl) (by kernel_rfl) hWr2 (by kernel_rfl) (by kernel_rfl) (by kernel_rfl) (by kernel_rfl) (by kernel_rfl) (by kernel_rfl) (fun _ _ _ _ h => h) (by kernel_rfl) ?hyr2_7 (by omega) hH ?_
        case hyr2_7 => (intro w' hSw; clear hSw; go_simp; try (with_reducible rfl))
        simp only [List.set_cons_zero, List.set_cons_succ]
        refine U_take 9 23 8 0 0 (v := ?vr2_8) rfl (by kernel_rfl) (by kernel_rfl) hWr2 (by kernel_rfl) (by kernel_rfl) (by kernel_rfl) (by kernel_rfl) (by kernel_rfl) (by kernel_rfl) (fun _ _ _ _ h => h) (by kernel_rfl) ?hyr2_8 (by omega) hH ?_
        case hyr2_8 => (intro w' hSw; clear hSw; go_simp; try (with_reducible rfl))
        simp only [List.set_cons_zero, List.set_cons_succ]
        refine U_take 10 24 7 0 0 (v := ?vr2_9) rfl (by kernel_rfl) (by kernel_rfl) hWr2 (by kernel_rfl) (by kernel_rfl) (by kernel_rfl) (by kernel_rfl) (by kernel_rfl) (by kernel_rfl) (fun _ _ _ _ h => h) (by kernel_rfl) ?hyr2_9 (by omega) hH ?_
        case hyr2_9 => (intro w' hSw; clear hSw; go_simp; try (with_reducible rfl))
        simp only [List.set_cons_zero, List.set_cons_succ]
        refine U_take 11 25 6 0 0 (v := ?vr2_10) rfl (by kernel_rfl) (by kernel_rfl) hWr2 (by kernel_rfl) (by kernel_rfl) (by kernel_rfl) (by kernel_rfl) (by kernel_rfl) (by kernel_rfl) (fun _ _ _ _ h => h) (by kernel_rfl) ?hyr2_10 (by omega) hH ?_
        case hyr2_10 => (intro w' hSw; replace hSw := S2o0 hSw; (try dsimp only at hSw); have q0 := hSw.1; have q1 := hSw.2.1; have q2 := hSw.2.2.1; have q3 := hSw.2.2.2.1; have q4 := hSw.2.2.2.2.1; have q5 := hSw.2.2.2.2.2.1; have q6 := hSw.2.2.2.2.2.2.1; have q7 := hSw.2.2.2.2.2.2.2.1; have q8 := hSw.2.2.2.2.2.2.2.2.1; have q9 := hSw.2.2.2.2.2.2.2.2.2; go_simp; try (with_reducible rfl))
        simp only [List.set_cons_zero, List.set_cons_succ]
        refine U_take 12 26 5 0 0 (v := ?vr2_11) rfl (by kernel_rfl) (by kernel_rfl) hWr2 (by kernel_rfl) (by kernel_rfl) (by kernel_rfl) (by kernel_rfl) (by kernel_rfl) (by kernel_rfl) (fun _ _ _ _ h => h) (by kernel_rfl) ?hyr2_11 (by omega) hH ?_
        case hyr2_11 => (intro w' hSw; clear hSw; go_simp; try (with_reducible rfl))
        simp only [List.set_cons_zero, List.set_cons_succ]
        refine U_take 2 16 4 1 0 (v := ?vr2_12) rfl (by kernel_rfl) (by kernel_rfl) hWr2 (by kernel_rfl) (by kernel_rfl) (by kernel_rfl) (by kernel_rfl) (by kernel_rfl) (by kernel_rfl) (fun _ _ _ _ h => h) (by kernel_rfl) ?hyr2_12 (by omega) hH ?_
        case hyr2_12 => (intro w' hSw; clear hSw; go_simp; try (with_reducible rfl))
        simp only [List.set_cons_zero, List.set_cons_succ]
        refine U_take 3 17 3 1 0 (v := ?vr2_13) rfl (by kernel_rfl) (by kernel_rfl) hWr2 (by kernel_rfl) (by kernel_rfl) (by kernel_rfl) (by kernel_rfl) (by kernel_rfl) (by kernel_rfl) (fun _ _ _ _ h => h) (by kernel_rfl) ?hyr2_13 (by omega) hH ?_
        case hyr2_13 => (intro w' hSw; clear hSw; go_simp; try (with_reducible rfl))
        simp only [List.set_cons_zero, List.set_cons_succ]
        refine wpAnyU_ready (rs := [13]) (by kernel_rfl) (by simp) ?_
        refine AllReadyU.cons 1 (by kernel_rfl) (o := _) rfl (fun K hK => ?_) AllReadyU.nil
        have hG := hH
        replace hG := S2o0 hG; (try dsimp only at hG); have q0 := hG.1; have q1 := hG.2.1; have q2 := hG.2.2.1; have q3 := hG.2.2.2.1; have q4 := hG.2.2.2.2.1; have q5 := hG.2.2.2.2.2.1; have q6 := hG.2.2.2.2.2.2.1; have q7 := hG.2.2.2.2.2.2.2.1; have q8 := hG.2.2.2.2.2.2.2.2.1; have q9 := hG.2.2.2.2.2.2.2.2.2
        have HO := hid HO0.out
        have HB := hid hB
        have zf : ∀ j, wo.frozen? ⟨g, j, none⟩ = false := HO0.out.free
        go_simp
        refine hK.out _ _ ?hsr2_14 (fun hH2 => ?hrr2_14)
        case hsr2_14 => exact S2i1
        clear hK K hH
        have hH := hH2
        clear hH2
        try simp only [Act.put, List.setIfInBounds_toArray, List.set_cons_zero, List.set_cons_succ]
        have hf1 := hid (HO.out.put4 ((y0, y1), (y2, y3)) hkL)
        have hb1 := hid (below_put4o HB.out hBg (k * 4) ((y0, y1), (y2, y3)))
        obtain ⟨wy, hwy⟩ : ∃ w', w' = ((((wo.setCell ⟨g, k * 4, none⟩ (.int .i64 y0)).setCell ⟨g, k * 4 + 1, none⟩ (.int .i64 y1)).setCell ⟨g, k * 4 + 2, none⟩ (.int .i64 y2)).setCell ⟨g, k * 4 + 3, none⟩ (.int .i64 y3)).drew := ⟨_, rfl⟩
        replace HO : Hid (OwnE layBox 55 wy B (.slice (some ⟨g, 0, none⟩) l.length c) (M.set k ((y0, y1), (y2, y3)))) := by rw [hwy]; exact hf1.out.drew
        replace HB : Hid (Below B w wy) := by rw [hwy]; exact hb1.out.drew
        rw [← hwy]
        clear hwy hf1 hb1 q0 q1 q2 q3 q4 q5 q6 q7 q8 q9 zf
        refine U_take 14 27 1 1 1 (v := ?vr2_15) rfl (by kernel_rfl) (by kernel_rfl) hWr2 (by kernel_rfl) (by kernel_rfl) (by kernel_rfl) (by kernel_rfl) (by kernel_rfl) (by kernel_rfl) (fun _ _ _ _ h => h) (by kernel_rfl) ?hyr2_15 (by omega) hH ?_
        case hyr2_15 => (intro w' hSw; clear hSw; go_simp; try (with_reducible rfl))
        simp only [List.set_cons_zero, List.set_cons_succ]
        refine wpAnyU_ready (rs := [15]) (by kernel_rfl) (by simp) ?_
        refine AllReadyU.cons 1 (by kernel_rfl) (o := _) rfl (fun K hK => ?_) AllReadyU.nil
        obtain ⟨z0, z1, z2, z3⟩ := HO.out.cellsAt (i := j) hjL2
        have zf := HO.out.free
        have hgw := HO.out.ltg
        go_simp
        refine hK.out _ _ ?hsr2_16 (fun hH2 => ?hrr2_16)
        case hsr2_16 => exact S2i1
        clear hK K hH
        have hH := hH2
        clear hH2
        try simp only [Act.put, List.setIfInBounds_toArray, List.set_cons_zero, List.set_cons_succ]
        have hf1 := hid (HO.out.put4 ((x0, x1), (x2, x3)) hjL2)
        have hb1 := hid (below_put4o HB.out hBg (j * 4) ((x0, x1), (x2, x3)))
        obtain ⟨wz, hwz⟩ : ∃ w', w' = (((wy.setCell ⟨g, j * 4, none⟩ (.int .i64 x0)).setCell ⟨g, j * 4 + 1, none⟩ (.int .i64 x1)).setCell ⟨g, j * 4 + 2, none⟩ (.int .i64 x2)).setCell ⟨g, j * 4 + 3, none⟩ (.int .i64 x3) := ⟨_, rfl⟩
        replace HO : Hid (OwnE layBox 55 wz B (.slice (some ⟨g, 0, none⟩) l.length c) ((M.set k ((y0, y1), (y2, y3))).set j ((x0, x1), (x2, x3)))) := by rw [hwz]; exact hf1
        replace HB : Hid (Below B w wz) := by rw [hwz]; exact hb1
        rw [← hwz]
        clear hwz hf1 hb1 z0 z1 z2 z3 zf
        refine wpAnyU_done (by kernel_rfl) ?_ _ _
        refine NoPanic.normal ?_
        go_wp2
        go_roundw
        case rel => exact ⟨k + 1, hk2, by go_num, by have := HK.out.2.2; (go_num <;> omega), by rw [HNX.out]; exact HO.out, HB.out⟩
        case measure => simp [intOf]; omega
    · have hfin := rvTo_all l k hk (by omega)
      rw [hfin] at HO0
      clear ho hfin
      go_wp2
      go_returns
      exact ⟨rfl, HO0.out, hB⟩

set_option maxRecDepth 100000 in
set_option maxHeartbeats 2000000 in
theorem compare_calls (b d : Nat) (x y u v : Int) (W : World) (h0 : W.cell? ⟨b, 0, none⟩ = some (.int .i64 x)) (h1 : W.cell? ⟨b, 1, none⟩ = some (.int .i64 y)) (k0 : W.cell? ⟨d, 0, none⟩ = some (.int .i64 u)) (k1 : W.cell? ⟨d, 1, none⟩ = some (.int .i64 v)) :
    Calls Try.prog 66 #[.slice (some ⟨b, 0, none⟩) 2 2, .slice (some ⟨d, 0, none⟩) 2 2] W fun e w' => e = .returned (.int .i64 (if Lib.compareInt x u = 0 then Lib.compareInt y v else Lib.compareInt x u)) ∧ w' = W := by
  have hbl := lt_of_cell h0
  have hdl := lt_of_cell k0
  have HC1 := hid (cmpInt_calls x u)
  have HC2 := hid (cmpInt_calls y v)
  generalize Lib.compareInt x u = r at *
  generalize Lib.compareInt y v = s at *
  go_enter Try.func66, Try.ntmps66
  go_wp2
  go_loopw [11] (fun j wr => ∃ k : Nat, k ≤ 2 ∧ j = .int .i64 k ∧ (1 ≤ k → r = 0) ∧ (2 ≤ k → s = 0) ∧ wr = W) (fun j _ => 2 - (intOf j).toNat)
  case atStart => exact ⟨0, by omega, rfl, by omega, by omega, rfl⟩
  case round =>
    obtain ⟨k, hk, rfl, hx, hy, rfl⟩ := hrel
    have tri : k = 0 ∨ k = 1 ∨ k = 2 := by omega
    rcases tri with rfl | rfl | rfl
    · clear hx hy
      go_wp2_with fail
      refine (HC1.out _).mono ?_
      rintro e w1 ⟨rfl, rfl⟩
      by_cases hz : r = 0
      · subst hz
        go_wp2
        go_roundw
        case rel => exact ⟨1, by omega, rfl, fun _ => by simp, by omega, by simp⟩
        case measure => simp [intOf]
      · have hne : (r != 0) = true := by simp [hz]
        go_wp2
        go_returns
        exact ⟨by simp [hz], rfl⟩
    · obtain rfl := hx (by omega)
      clear hx hy
      go_wp2_with fail
      refine (HC2.out _).mono ?_
      rintro e w1 ⟨rfl, rfl⟩
      by_cases hz : s = 0
      · subst hz
        go_wp2
        go_roundw
        case rel => exact ⟨2, by omega, rfl, fun _ => by simp, fun _ => by simp, by simp⟩
        case measure => simp [intOf]
      · have hne : (s != 0) = true := by simp [hz]
        go_wp2
        go_returns
        exact ⟨by simp, rfl⟩
    · obtain rfl := hx (by omega)
      obtain rfl := hy (by omega)
      clear hx hy
      go_wp2
      go_returns
      exact ⟨by simp, rfl⟩

set_option maxRecDepth 100000 in
set_option maxHeartbeats 2000000 in
theorem turned1_calls (p q : Nat × Nat) (W : World) : Calls Try.prog 65 #[.agg #[.int .i64 p.1, .int .i64 p.2], .agg #[.int .i64 q.1, .int .i64 q.2]] W fun e w' => e = .returned (.int .i64 (cmpPair p q)) ∧ ∃ k os, w' = grow (W.drewN k) os := by
  have HZ : Hid (cmpPair p q = if Lib.compareInt p.1 q.1 = 0 then Lib.compareInt p.2 q.2 else Lib.compareInt p.1 q.1) := rfl
  generalize cmpPair p q = Z at *
  obtain ⟨x1, hx1⟩ : ∃ z : Int, z = p.1 := ⟨_, rfl⟩
  obtain ⟨x2, hx2⟩ : ∃ z : Int, z = p.2 := ⟨_, rfl⟩
  obtain ⟨y1, hy1⟩ : ∃ z : Int, z = q.1 := ⟨_, rfl⟩
  obtain ⟨y2, hy2⟩ : ∃ z : Int, z = q.2 := ⟨_, rfl⟩
  rw [← hx1, ← hx2, ← hy1, ← hy2] at HZ ⊢
  clear hx1 hx2 hy1 hy2
  obtain ⟨wd, hwd⟩ : ∃ wd, wd = ((W.alloc (.cells #[.int .i64 x1, .int .i64 x2] 96)).alloc (.cells #[.int .i64 y1, .int .i64 y2] 96)).drew := ⟨_, rfl⟩
  have a0 : wd.cell? ⟨W.heap.size, 0, none⟩ = some (.int .i64 x1) := by rw [hwd]; go_simp
  have a1 : wd.cell? ⟨W.heap.size, 1, none⟩ = some (.int .i64 x2) := by rw [hwd]; go_simp
  have a2 : wd.cell? ⟨W.heap.size + 1, 0, none⟩ = some (.int .i64 y1) := by rw [hwd]; go_simp
  have a3 : wd.cell? ⟨W.heap.size + 1, 1, none⟩ = some (.int .i64 y2) := by rw [hwd]; go_simp
  have HC := hid (compare_calls _ _ x1 x2 y1 y2 wd a0 a1 a2 a3)
  rw [← HZ.out] at HC
  have HWD := hid hwd
  clear hwd
  go_enter Try.func65, Try.ntmps65
  go_upto_region 1 with fail
  refine wp_region_noPanic ?_
  refine wp_region_U (S := (S2 (fun w' => w' = wd))) (T := (fun _ => 0)) (by kernel_rfl) (S2i0 HWD.out.symm) (fun hH => ?_)
  have hWr1 : Weaker (S2 (fun w' => w' = wd)) := weaker2 _
  refine U_take 0 5 3 0 0 (v := ?vr1_1) rfl (by kernel_rfl) (by kernel_rfl) hWr1 (by kernel_rfl) (by kernel_rfl) (by kernel_rfl) (by kernel_rfl) (by kernel_rfl) (by kernel_rfl) (fun _ _ _ _ h => h) (by kernel_rfl) ?hyr1_1 (by omega) hH ?_
  case hyr1_1 => (intro w' hSw; clear hSw; go_simp; try (with_reducible rfl))
  simp only [List.set_cons_zero, List.set_cons_succ]
  refine U_take 1 6 2 0 0 (v := ?vr1_2) rfl (by kernel_rfl) (by kernel_rfl) hWr1 (by kernel_rfl) (by kernel_rfl) (by kernel_rfl) (by kernel_rfl) (by kernel_rfl) (by kernel_rfl) (fun _ _ _ _ h => h) (by kernel_rfl) ?hyr1_2 (by omega) hH ?_
  case hyr1_2 => (intro w' hSw; clear hSw; go_simp; try (with_reducible rfl))
  simp only [List.set_cons_zero, List.set_cons_succ]
  refine wpAnyU_ready (rs := [2]) (by kernel_rfl) (by simp) ?_
  refine AllReadyU.cons 0 (by kernel_rfl) (o := _) rfl (fun K hK => ?_) AllReadyU.nil
  have hG := hH
  replace hG := S2o0 hG; (try dsimp only at hG); have q0 := hG
  subst q0
  go_simp
  (go_at_call 66; refine HC.out.mono ?_; rintro e wn ⟨rfl, rfl⟩)
  refine hK.out _ _ ?hsr1_3 (fun hH2 => ?hrr1_3)
  case hsr1_3 => exact S2i0 (by have hG := hH; replace hG := S2o0 hG; (try dsimp only at hG); have q0 := hG; exact q0)
  clear hK K hH
  have hH := hH2
  clear hH2
  try simp only [Act.put, List.setIfInBounds_toArray, List.set_cons_zero, List.set_cons_succ]
  refine U_take 3 4 0 0 0 (v := ?vr1_4) rfl (by kernel_rfl) (by kernel_rfl) hWr1 (by kernel_rfl) (by kernel_rfl) (by kernel_rfl) (by kernel_rfl) (by kernel_rfl) (by kernel_rfl) (fun _ _ _ _ h => h) (by kernel_rfl) ?hyr1_4 (by omega) hH ?_
  case hyr1_4 => (intro w' hSw; clear hSw; go_simp; try (with_reducible rfl))
  simp only [List.set_cons_zero, List.set_cons_succ]
  refine wpAnyU_done (by kernel_rfl) ?_ _ _
  refine NoPanic.normal ?_
  replace hH := S2o0 hH
  (try dsimp only at hH)
  have q0 := hH
  clear hH hWr1
  go_wp2
  go_returns
  refine ⟨rfl, ?_⟩
  exact ⟨1, _, by rw [alloc_eq_grow, alloc_eq_grow]; show grow (grow W.drew _) _ = _; rw [grow_grow]; rfl⟩
theorem cf_t1 (args : Array Value) (w : World) : (callFunc 65 args).run Try.prog w = .ok (.enter 65 args) w := by kernel_rfl
set_option maxHeartbeats 1000000 in
/-- pairs sorted by the laws' order -/
theorem sortTurned_calls (o : List (Nat × Nat)) (B : Nat) (s : Value) (w : World) (hs : OwnE layPair 96 w B s o) (hl : o.length ≤ 1000000) :
    Calls Try.prog 67 #[s, .func (.func 65) #[] #[]] w fun e w' => e = .returned (.tuple #[]) ∧ (∃ o' : List (Nat × Nat), o'.Perm o ∧ o'.Pairwise (fun p q => ¬ cmpPair q p < 0) ∧ OwnE layPair 96 w' B s o') ∧ w.grownBy w' s.ownBlock := by
  rcases hs.form with ⟨rfl, h0⟩ | ⟨g, cap, rfl, hB, hg, hn, hm, hf, hcl⟩
  · refine (AnyF.slices_SortFunc_none laySortPair none 0 _ w).mono ?_
    rintro e w' ⟨rfl, rfl⟩
    rw [h0] at hs ⊢
    exact ⟨rfl, ⟨[], List.Perm.refl _, List.Pairwise.nil, hs⟩, ⟨rfl, rfl, rfl, Nat.le_refl _, fun _ _ _ => rfl⟩⟩
  · have hH := hs.holds
    have hcmp : CmpLays Try.prog 65 #[] layPair.enc 2 cmpPair g 0 o.toArray.size w := fun m os dk hdk x y => turned1_calls x y _
    have hO : SWO (ltOf cmpPair) := by
      have e : ∀ x y, ltOf cmpPair x y = decide (ltP x y) := fun x y => by
        unfold ltOf
        rw [decide_eq_decide, cmpPair_lt]
      refine ⟨fun x => ?_, fun x y z h1 h2 => ?_, fun x y z h1 h2 => ?_⟩
      · rw [e]; exact decide_eq_false ltP_irrefl
      · rw [e] at *; exact decide_eq_true (ltP_trans (of_decide_eq_true h1) (of_decide_eq_true h2))
      · rw [e] at *
        have a := of_decide_eq_false h1
        have b := of_decide_eq_false h2
        refine decide_eq_false ?_
        unfold ltP at *
        omega
    have hlen : o.length = o.toArray.size := by simp
    have hsz2 : o.toArray.size ≤ 1000000 := by rw [← hlen]; exact hl
    have hcon := AnyQ.slices_SortFunc laySortPair 2 Try.isAgg96 Try.sizeOf96 layPair.enc layPair.hk layPair.one cmpPair hO 65 #[] g 0 cap o.toArray w cf_t1 hcmp hH hg (by omega)
    rw [hlen]
    refine Calls.mono hcon ?_
    rintro e w' ⟨rfl, d', m, os, hp, hsd, rfl⟩
    obtain ⟨p1, p2⟩ := permIn_list hp
    have hso : SortedIn (ltOf cmpPair) 0 d'.size d' := by rw [p2]; exact hsd
    have hpw := sortedIn_list hso
    rw [hlen] at hs
    refine ⟨rfl, ⟨d'.toList, p1, ?_, hs.sorted d' (by rw [p2]; simp)⟩, grownBy_sortedK (L := layPair) d'⟩
    refine hpw.imp fun {x y} h => ?_
    unfold ltOf at h
    rwa [decide_eq_false_iff_not] at h

end Go.Proofs.Ythhfjiikmaghdaa
