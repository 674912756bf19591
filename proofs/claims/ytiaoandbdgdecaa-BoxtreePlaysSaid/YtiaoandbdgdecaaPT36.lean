/- Parts of a proof: contracts and laws. -/
import Derived.Test.YtiaoandbdgdecaaPT10
namespace Go.Proofs.Ytiaoandbdgdecaa
section
set_option linter.unusedVariables false
set_option linter.unusedSimpArgs false
open Go.RowKit

def okB (b : Bx) : Prop := vldB b = true ∧ (-1073741824 ≤ b.1.1 ∧ b.1.1 ≤ 1073741824) ∧ (-1073741824 ≤ b.1.2 ∧ b.1.2 ≤ 1073741824) ∧ (-1073741824 ≤ b.2.1 ∧ b.2.1 ≤ 1073741824) ∧ (-1073741824 ≤ b.2.2 ∧ b.2.2 ≤ 1073741824)
theorem keepOwnBB {w w' : World} {B : Nat} {s : Value} {o : List Bx} (hb : Below w.heap.size w w') (h : OwnE layBox 32 w B s o) : OwnE layBox 32 w' B s o := h.below hb
theorem info_boxB : (Try.prog.info? 32).map (fun i => (i.zero, i.size, i.bytes)) = some (some (.agg #[.int .i64 0, .int .i64 0, .int .i64 0, .int .i64 0]), 4, 32) := by kernel_rfl
theorem tyBoxB : TyE layBox 27 32 32 := ⟨Try.underlying27, by obtain ⟨i0, hi, hz0, hz1, hz2⟩ := info_parts info_boxB; exact ⟨i0, .agg #[.int .i64 0, .int .i64 0, .int .i64 0, .int .i64 0], hi, hz0, hz1, hz2, rfl⟩⟩
theorem cells_boxB {w : World} {b : Nat} {p : Bx} (h0 : w.cell? ⟨b, 0, none⟩ = some (.int .i64 p.1.1)) (h1 : w.cell? ⟨b, 1, none⟩ = some (.int .i64 p.1.2)) (h2 : w.cell? ⟨b, 2, none⟩ = some (.int .i64 p.2.1)) (h3 : w.cell? ⟨b, 3, none⟩ = some (.int .i64 p.2.2)) : CellsE layBox w b 0 [p] :=
  ⟨lt_of_cell h0, fun j hj m v hv => by
    obtain rfl : j = 0 := by simpa using hj
    match m, hv with
    | 0, hv => have e : some (Value.int .i64 p.1.1) = some v := hv; cases e; simpa [layBox] using h0
    | 1, hv => have e : some (Value.int .i64 p.1.2) = some v := hv; cases e; simpa [layBox] using h1
    | 2, hv => have e : some (Value.int .i64 p.2.1) = some v := hv; cases e; simpa [layBox] using h2
    | 3, hv => have e : some (Value.int .i64 p.2.2) = some v := hv; cases e; simpa [layBox] using h3
    | m + 4, hv => simp [layBox] at hv⟩
def RetBxB (w : World) (e : Ending) (w' : World) : Prop := ∃ (l : List Bx) (A : Option Addr) (n c : Nat), e = .returned (.slice A n c) ∧ OwnE layBox 32 w' w.heap.size (.slice A n c) l ∧ l.length ≤ 24 ∧ (∀ b ∈ l, okB b) ∧ Below w.heap.size w w'
def BoxesEB (w : World) (b off i2 i3 : Nat) (r2 r3 px py : Int) (s : Value) (o : List Bx) (t : Value) (wx : World) : Prop := ∃ gT, t = .pointer (some ⟨gT, 0, none⟩) ∧ wx.cell? ⟨gT, 0, none⟩ = some (.int .i64 px) ∧ wx.cell? ⟨gT, 1, none⟩ = some (.int .i64 py) ∧ wx.cell? ⟨b, off + i2, none⟩ = some (.int .i64 r2) ∧ wx.cell? ⟨b, off + i3, none⟩ = some (.int .i64 r3) ∧ OwnE layBox 32 wx w.heap.size s o ∧ Below w.heap.size w wx
theorem boxes_endB {w w' : World} {b off i2 i3 gT : Nat} {r2 r3 px py : Int} {s : Value} {o : List Bx} {x y : Value} (h1 : w.heap.size ≤ gT) (h2 : b ≠ gT) (h3 : ∀ k, s.ownBlock = some k → k ≠ gT) (y0 : w'.cell? ⟨gT, 0, none⟩ = some x) (y1 : w'.cell? ⟨gT, 1, none⟩ = some y) (yf : ∀ j, w'.frozen? ⟨gT, j, none⟩ = false)
    (q2 : w'.cell? ⟨b, off + i2, none⟩ = some (.int .i64 r2)) (q3 : w'.cell? ⟨b, off + i3, none⟩ = some (.int .i64 r3)) (q4 : OwnE layBox 32 w' w.heap.size s o) (q5 : Below w.heap.size w w') :
    BoxesEB w b off i2 i3 r2 r3 px py s o (.pointer (some ⟨gT, 0, none⟩)) ((w'.setCell ⟨gT, 0, none⟩ (.int .i64 px)).setCell ⟨gT, 1, none⟩ (.int .i64 py)) := by
  have hl := lt_of_cell y0
  exact ⟨gT, rfl, by go_simp, by go_simp, far2 (fun e => h2 e.symm) q2, far2 (fun e => h2 e.symm) q3, (q4.off h3 _ _).off h3 _ _, (q5.setCell (p := ⟨gT, 0, none⟩) h1 _).setCell (p := ⟨gT, 1, none⟩) h1 _⟩
set_option maxRecDepth 100000 in
set_option maxHeartbeats 4000000 in
theorem boxesB_calls (A : Option Addr) (n c : Nat) (r : List Int) (w : World) (hS : SlI w A n c r) : Calls Try.prog 9 #[.slice A n c] w (RetBxB w) := by
  have hn := hS.len
  have hbig := Nat.le_trans hS.cap hS.big
  subst hn
  have HS := hid hS
  clear hS
  go_enter Try.func9, Try.ntmps9
  go_wp2
  go_loopw [3, 4] (fun s j wr => ∃ (k : Nat) (o : List Bx), o.length = k ∧ k ≤ 24 ∧ j = .int .i64 ((4 * k : Nat) : Int) ∧ (∀ b ∈ o, okB b) ∧ OwnE layBox 32 wr w.heap.size s o ∧ Below w.heap.size w wr) (fun _ j _ => 100 - (intOf j).toNat)
  case atStart => exact ⟨0, [], rfl, by omega, rfl, by simp, OwnE.nil _ _ _ _, Below.refl _ _⟩
  case round =>
    obtain ⟨k, o, hok, hk, rfl, hv, ho, hB⟩ := hrel
    obtain ⟨wo, rfl⟩ : ∃ wo : World, wo = wr := ⟨_, rfl⟩
    have HV := hid hv
    have HO := hid ho
    obtain ⟨i, hi⟩ : ∃ i, i = 4 * k := ⟨_, rfl⟩
    rw [← hi]
    have wi3 : IntKind.i64.wrap ((i : Int) + 3) = (i : Int) + 3 := IntWalk.i64_in _ (by omega)
    obtain ⟨Ao, no, co, rfl, hso, hfo⟩ := ho.sl
    have hno := hso.len
    have hnk : no = k := by omega
    subst hnk
    by_cases h1 : i + 3 < r.length
    · by_cases h2 : no < 24
      · obtain ⟨b, off, rfl, hbl, hc⟩ := (HS.out.below hB).at_ (by intro h; rw [h] at h1; simp at h1)
        obtain ⟨i1, hi1⟩ : ∃ j, j = i + 1 := ⟨_, rfl⟩
        obtain ⟨i2, hi2⟩ : ∃ j, j = i + 2 := ⟨_, rfl⟩
        obtain ⟨i3, hi3⟩ : ∃ j, j = i + 3 := ⟨_, rfl⟩
        have c0 := hc i (by omega)
        have c1 := hc i1 (by omega)
        have c2 := hc i2 (by omega)
        have c3 := hc i3 (by omega)
        generalize r.getD i 0 = r0 at *
        generalize r.getD i1 0 = r1 at *
        generalize r.getD i2 0 = r2 at *
        generalize r.getD i3 0 = r3 at *
        have g1 : ((i : Int) + 3 < (r.length : Int)) := by omega
        have g0 : (i : Int) < (r.length : Int) := by omega
        have g2 : (no : Int) < 24 := by omega
        have w1 : IntKind.i64.wrap ((i : Int) + 1) = (i1 : Int) := by rw [IntWalk.i64_in _ (by omega)]; omega
        have w2 : IntKind.i64.wrap ((i : Int) + 2) = (i2 : Int) := by rw [IntWalk.i64_in _ (by omega)]; omega
        have w3 : IntKind.i64.wrap ((i : Int) + 3) = (i3 : Int) := by rw [IntWalk.i64_in _ (by omega)]; omega
        have w4 : IntKind.i64.wrap ((i : Int) + 4) = (i : Int) + 4 := IntWalk.i64_in _ (by omega)
        have k1 : (i1 : Int) < (r.length : Int) := by omega
        have k2 : (i2 : Int) < (r.length : Int) := by omega
        have k3 : (i3 : Int) < (r.length : Int) := by omega
        have l0 : i < r.length := by omega
        have l1 : i1 < r.length := by omega
        have l2 : i2 < r.length := by omega
        have l3 : i3 < r.length := by omega
        have HPL := hid (place_calls r0 r1)
        have m1 := Int.emod_nonneg r0 (show (1572864 : Int) ≠ 0 by omega)
        have m2 := Int.emod_lt_of_pos r0 (show (0 : Int) < 1572864 by omega)
        have m3 := Int.emod_nonneg r1 (show (1572864 : Int) ≠ 0 by omega)
        have m4 := Int.emod_lt_of_pos r1 (show (0 : Int) < 1572864 by omega)
        have m5 := Int.emod_nonneg r2 (show (262144 : Int) ≠ 0 by omega)
        have m6 := Int.emod_lt_of_pos r2 (show (0 : Int) < 262144 by omega)
        have m7 := Int.emod_nonneg r3 (show (262144 : Int) ≠ 0 by omega)
        have m8 := Int.emod_lt_of_pos r3 (show (0 : Int) < 262144 by omega)
        obtain ⟨px, hpx⟩ : ∃ z, z = r0 % 1572864 - 786432 := ⟨_, rfl⟩
        obtain ⟨py, hpy⟩ : ∃ z, z = r1 % 1572864 - 786432 := ⟨_, rfl⟩
        rw [← hpx, ← hpy] at HPL
        have bx : -786432 ≤ px ∧ px ≤ 786432 := by omega
        have by_ : -786432 ≤ py ∧ py ≤ 786432 := by omega
        obtain ⟨u, hu⟩ : ∃ z, z = r2 % 262144 := ⟨_, rfl⟩
        obtain ⟨v, hv2⟩ : ∃ z, z = r3 % 262144 := ⟨_, rfl⟩
        have HBU := hid (tbelow_calls r2 262144 (by omega) (by omega))
        have HBV := hid (tbelow_calls r3 262144 (by omega) (by omega))
        rw [← hu] at HBU
        rw [← hv2] at HBV
        have u1 : IntKind.i64.wrap (px + u) = px + u := IntWalk.i64_in _ (by omega)
        have v1 : IntKind.i64.wrap (py + v) = py + v := IntWalk.i64_in _ (by omega)
        have HVB : Hid (okB ((px, py), (px + u, py + v))) := by refine ⟨by unfold vldB; exact decide_eq_true (by dsimp only; omega), ?_⟩; dsimp only; omega
        have HI := hid hi
        have HNO := hid hno
        clear wi3 hno hc hi1 hi2 hi3 hpx hpy m1 m2 m3 m4 m5 m6 m7 m8 hv ho hso hfo h1 hi
        clear hu hv2
        go_upto_region 5 with fail
        go_cut [5] from 18 to 27 (fun t wx => BoxesEB w b off i2 i3 r2 r3 px py (.slice Ao no co) o t wx)
        case first =>
          refine wp_region_noPanic ?_
          refine wp_region_U (S := (S2 (fun w' => w'.cell? ⟨b, off + i, none⟩ = some (.int .i64 r0) ∧ w'.cell? ⟨b, off + i1, none⟩ = some (.int .i64 r1) ∧ w'.cell? ⟨b, off + i2, none⟩ = some (.int .i64 r2) ∧ w'.cell? ⟨b, off + i3, none⟩ = some (.int .i64 r3) ∧ OwnE layBox 32 w' w.heap.size (.slice Ao no co) o ∧ Below w.heap.size w w'))) (T := (fun j => [0, 0, 0, 0, 0, 0, 0, 0, 0, 0, 0, 1].getD j 0)) (by kernel_rfl) (S2i0 ⟨c0, c1, c2, c3, HO.out.drew, hB.drew⟩) (fun hH => ?_)
          have hWr1 : Weaker (S2 (fun w' => w'.cell? ⟨b, off + i, none⟩ = some (.int .i64 r0) ∧ w'.cell? ⟨b, off + i1, none⟩ = some (.int .i64 r1) ∧ w'.cell? ⟨b, off + i2, none⟩ = some (.int .i64 r2) ∧ w'.cell? ⟨b, off + i3, none⟩ = some (.int .i64 r3) ∧ OwnE layBox 32 w' w.heap.size (.slice Ao no co) o ∧ Below w.heap.size w w')) := weaker2 _
          refine U_take 0 18 11 0 0 (v := ?vr1_1) rfl (by kernel_rfl) (by kernel_rfl) hWr1 (by kernel_rfl) (by kernel_rfl) (by kernel_rfl) (by kernel_rfl) (by kernel_rfl) (by kernel_rfl) (fun _ _ _ _ h => h) (by kernel_rfl) ?hyr1_1 (by omega) hH ?_
          case hyr1_1 => (intro w' hSw; clear hSw; go_simp; try (with_reducible rfl))
          simp only [List.set_cons_zero, List.set_cons_succ]
          refine U_take 1 19 10 0 0 (v := ?vr1_2) rfl (by kernel_rfl) (by kernel_rfl) hWr1 (by kernel_rfl) (by kernel_rfl) (by kernel_rfl) (by kernel_rfl) (by kernel_rfl) (by kernel_rfl) (fun _ _ _ _ h => h) (by kernel_rfl) ?hyr1_2 (by omega) hH ?_
          case hyr1_2 => (intro w' hSw; clear hSw; go_simp; try (with_reducible rfl))
          simp only [List.set_cons_zero, List.set_cons_succ]
          refine U_take 2 20 9 0 0 (v := ?vr1_3) rfl (by kernel_rfl) (by kernel_rfl) hWr1 (by kernel_rfl) (by kernel_rfl) (by kernel_rfl) (by kernel_rfl) (by kernel_rfl) (by kernel_rfl) (fun _ _ _ _ h => h) (by kernel_rfl) ?hyr1_3 (by omega) hH ?_
          case hyr1_3 => (intro w' hSw; clear hSw; go_simp; try (with_reducible rfl))
          simp only [List.set_cons_zero, List.set_cons_succ]
          refine U_take 3 21 8 0 0 (v := ?vr1_4) rfl (by kernel_rfl) (by kernel_rfl) hWr1 (by kernel_rfl) (by kernel_rfl) (by kernel_rfl) (by kernel_rfl) (by kernel_rfl) (by kernel_rfl) (fun _ _ _ _ h => h) (by kernel_rfl) ?hyr1_4 (by omega) hH ?_
          case hyr1_4 => (intro w' hSw; replace hSw := S2o0 hSw; (try dsimp only at hSw); have q0 := hSw.1; have q1 := hSw.2.1; have q2 := hSw.2.2.1; have q3 := hSw.2.2.2.1; have q4 := hSw.2.2.2.2.1; have q5 := hSw.2.2.2.2.2; go_simp; try (with_reducible rfl))
          simp only [List.set_cons_zero, List.set_cons_succ]
          refine U_take 4 22 7 0 0 (v := ?vr1_5) rfl (by kernel_rfl) (by kernel_rfl) hWr1 (by kernel_rfl) (by kernel_rfl) (by kernel_rfl) (by kernel_rfl) (by kernel_rfl) (by kernel_rfl) (fun _ _ _ _ h => h) (by kernel_rfl) ?hyr1_5 (by omega) hH ?_
          case hyr1_5 => (intro w' hSw; clear hSw; go_simp; try (with_reducible rfl))
          simp only [List.set_cons_zero, List.set_cons_succ]
          refine U_take 5 23 6 0 0 (v := ?vr1_6) rfl (by kernel_rfl) (by kernel_rfl) hWr1 (by kernel_rfl) (by kernel_rfl) (by kernel_rfl) (by kernel_rfl) (by kernel_rfl) (by kernel_rfl) (fun _ _ _ _ h => h) (by kernel_rfl) ?hyr1_6 (by omega) hH ?_
          case hyr1_6 => (intro w' hSw; clear hSw; go_simp; try (with_reducible rfl))
          simp only [List.set_cons_zero, List.set_cons_succ]
          refine U_take 6 24 5 0 0 (v := ?vr1_7) rfl (by kernel_rfl) (by kernel_rfl) hWr1 (by kernel_rfl) (by kernel_rfl) (by kernel_rfl) (by kernel_rfl) (by kernel_rfl) (by kernel_rfl) (fun _ _ _ _ h => h) (by kernel_rfl) ?hyr1_7 (by omega) hH ?_
          case hyr1_7 => (intro w' hSw; clear hSw; go_simp; try (with_reducible rfl))
          simp only [List.set_cons_zero, List.set_cons_succ]
          refine U_take 7 25 4 0 0 (v := ?vr1_8) rfl (by kernel_rfl) (by kernel_rfl) hWr1 (by kernel_rfl) (by kernel_rfl) (by kernel_rfl) (by kernel_rfl) (by kernel_rfl) (by kernel_rfl) (fun _ _ _ _ h => h) (by kernel_rfl) ?hyr1_8 (by omega) hH ?_
          case hyr1_8 => (intro w' hSw; clear hSw; go_simp; try (with_reducible rfl))
          simp only [List.set_cons_zero, List.set_cons_succ]
          refine U_take 8 26 3 0 0 (v := ?vr1_9) rfl (by kernel_rfl) (by kernel_rfl) hWr1 (by kernel_rfl) (by kernel_rfl) (by kernel_rfl) (by kernel_rfl) (by kernel_rfl) (by kernel_rfl) (fun _ _ _ _ h => h) (by kernel_rfl) ?hyr1_9 (by omega) hH ?_
          case hyr1_9 => (intro w' hSw; replace hSw := S2o0 hSw; (try dsimp only at hSw); have q0 := hSw.1; have q1 := hSw.2.1; have q2 := hSw.2.2.1; have q3 := hSw.2.2.2.1; have q4 := hSw.2.2.2.2.1; have q5 := hSw.2.2.2.2.2; go_simp; try (with_reducible rfl))
          simp only [List.set_cons_zero, List.set_cons_succ]
          refine wpAnyU_ready (rs := [9, 10]) (by kernel_rfl) (by simp) ?_
          refine AllReadyU.cons 0 (by kernel_rfl) (o := _) rfl (fun K hK => ?_) ?_
          · try clear hb
            go_simp
            (go_at_call 24; refine (HPL.out _).mono ?_; rintro e wn ⟨rfl, hb⟩; (try (replace hT := keepVZ hb hT)))
            refine hK.out _ _ ?hsr1_10 (fun hH2 => ?hrr1_10)
            case hsr1_10 => exact S2i0 (by have hG := hH; replace hG := S2o0 hG; (try dsimp only at hG); have q0 := hG.1; have q1 := hG.2.1; have q2 := hG.2.2.1; have q3 := hG.2.2.2.1; have q4 := hG.2.2.2.2.1; have q5 := hG.2.2.2.2.2; exact ⟨keepCell hb q0, keepCell hb q1, keepCell hb q2, keepCell hb q3, keepOwnBB hb q4, keepBelow hb q5⟩)
            clear hK K hH
            have hH := hH2
            clear hH2
            try simp only [Act.put, List.setIfInBounds_toArray, List.set_cons_zero, List.set_cons_succ]
            refine wpAnyU_ready (rs := [10]) (by kernel_rfl) (by simp) ?_
            refine AllReadyU.cons 0 (by kernel_rfl) (o := _) rfl (fun K hK => ?_) AllReadyU.nil
            try clear hb
            have hG := hH
            replace hG := S2o0 hG; (try dsimp only at hG); have q0 := hG.1; have q1 := hG.2.1; have q2 := hG.2.2.1; have q3 := hG.2.2.2.1; have q4 := hG.2.2.2.2.1; have q5 := hG.2.2.2.2.2
            go_simp
            refine hK.out _ _ ?hsr1_11 (fun hH2 => ?hrr1_11)
            case hsr1_11 => exact S2i0 (by have hG := hH; replace hG := S2o0 hG; (try dsimp only at hG); have q0 := hG.1; have q1 := hG.2.1; have q2 := hG.2.2.1; have q3 := hG.2.2.2.1; have q4 := hG.2.2.2.2.1; have q5 := hG.2.2.2.2.2; exact ⟨keepCell ((Below.refl _ _).alloc (Nat.le_refl _) _) q0, keepCell ((Below.refl _ _).alloc (Nat.le_refl _) _) q1, keepCell ((Below.refl _ _).alloc (Nat.le_refl _) _) q2, keepCell ((Below.refl _ _).alloc (Nat.le_refl _) _) q3, q4.alloc _, q5.alloc q5.size _⟩)
            clear hK K hH
            have hH := hH2
            clear hH2
            try simp only [Act.put, List.setIfInBounds_toArray, List.set_cons_zero, List.set_cons_succ]
            have hT : VZ (wn.alloc (.cells #[.int .i64 0, .int .i64 0] 30)) wn.heap.size := VZ.here _ _ _ _
            obtain ⟨gT, hgT⟩ : ∃ g, g = wn.heap.size := ⟨_, rfl⟩
            have hlT : w.heap.size ≤ gT ∧ b ≠ gT ∧ ∀ k, Value.ownBlock (.slice Ao no co) = some k → k ≠ gT := by rw [hgT]; exact ⟨q5.size, by have := lt_of_cell q0; omega, fun k hk => by have := (q4.lt hk).2; (try simp at this); omega⟩
            rw [← hgT] at hT
            try rw [← hgT]
            clear hgT q0 q1 q2 q3 q4 q5
            generalize wn.alloc (.cells #[.int .i64 0, .int .i64 0] 30) = wx10 at *
            refine wpAnyU_ready (rs := [11]) (by kernel_rfl) (by simp) ?_
            refine AllReadyU.cons 1 (by kernel_rfl) (o := _) rfl (fun K hK => ?_) AllReadyU.nil
            have hG := hH
            replace hG := S2o0 hG; (try dsimp only at hG); have q0 := hG.1; have q1 := hG.2.1; have q2 := hG.2.2.1; have q3 := hG.2.2.2.1; have q4 := hG.2.2.2.2.1; have q5 := hG.2.2.2.2.2
            obtain ⟨⟨z0, z1, y0, y1⟩, yf⟩ := hT
            go_simp
            refine hK.out _ _ ?hsr1_12 (fun hH2 => ?hrr1_12)
            case hsr1_12 => exact S2i1
            clear hK K hH
            have hH := hH2
            clear hH2
            try simp only [Act.put, List.setIfInBounds_toArray, List.set_cons_zero, List.set_cons_succ]
            refine wpAnyU_done (by kernel_rfl) ?_ _ _
            refine NoPanic.normal ?_
            go_wp2_with fail
            go_meet
            exact boxes_endB hlT.1 hlT.2.1 hlT.2.2 y0 y1 yf q2 q3 q4 q5
          refine AllReadyU.cons 0 (by kernel_rfl) (o := _) rfl (fun K hK => ?_) ?_
          · try clear hb
            have hG := hH
            replace hG := S2o0 hG; (try dsimp only at hG); have q0 := hG.1; have q1 := hG.2.1; have q2 := hG.2.2.1; have q3 := hG.2.2.2.1; have q4 := hG.2.2.2.2.1; have q5 := hG.2.2.2.2.2
            go_simp
            refine hK.out _ _ ?hsr1_13 (fun hH2 => ?hrr1_13)
            case hsr1_13 => exact S2i0 (by have hG := hH; replace hG := S2o0 hG; (try dsimp only at hG); have q0 := hG.1; have q1 := hG.2.1; have q2 := hG.2.2.1; have q3 := hG.2.2.2.1; have q4 := hG.2.2.2.2.1; have q5 := hG.2.2.2.2.2; exact ⟨keepCell ((Below.refl _ _).alloc (Nat.le_refl _) _) q0, keepCell ((Below.refl _ _).alloc (Nat.le_refl _) _) q1, keepCell ((Below.refl _ _).alloc (Nat.le_refl _) _) q2, keepCell ((Below.refl _ _).alloc (Nat.le_refl _) _) q3, q4.alloc _, q5.alloc q5.size _⟩)
            clear hK K hH
            have hH := hH2
            clear hH2
            try simp only [Act.put, List.setIfInBounds_toArray, List.set_cons_zero, List.set_cons_succ]
            have hT : VZ ((wo.alloc (.cells #[.int .i64 0, .int .i64 0] 30)).drew) wo.heap.size := VZ.drew (VZ.here _ _ _ _)
            obtain ⟨gT, hgT⟩ : ∃ g, g = wo.heap.size := ⟨_, rfl⟩
            have hlT : w.heap.size ≤ gT ∧ b ≠ gT ∧ ∀ k, Value.ownBlock (.slice Ao no co) = some k → k ≠ gT := by rw [hgT]; exact ⟨q5.size, by have := lt_of_cell q0; omega, fun k hk => by have := (q4.lt hk).2; (try simp at this); omega⟩
            rw [← hgT] at hT
            try rw [← hgT]
            clear hgT q0 q1 q2 q3 q4 q5
            generalize (wo.alloc (.cells #[.int .i64 0, .int .i64 0] 30)).drew = wx10 at *
            refine wpAnyU_ready (rs := [9]) (by kernel_rfl) (by simp) ?_
            refine AllReadyU.cons 0 (by kernel_rfl) (o := _) rfl (fun K hK => ?_) AllReadyU.nil
            try clear hb
            go_simp
            (go_at_call 24; refine (HPL.out _).mono ?_; rintro e wn ⟨rfl, hb⟩; (try (replace hT := keepVZ hb hT)))
            refine hK.out _ _ ?hsr1_14 (fun hH2 => ?hrr1_14)
            case hsr1_14 => exact S2i0 (by have hG := hH; replace hG := S2o0 hG; (try dsimp only at hG); have q0 := hG.1; have q1 := hG.2.1; have q2 := hG.2.2.1; have q3 := hG.2.2.2.1; have q4 := hG.2.2.2.2.1; have q5 := hG.2.2.2.2.2; exact ⟨keepCell hb q0, keepCell hb q1, keepCell hb q2, keepCell hb q3, keepOwnBB hb q4, keepBelow hb q5⟩)
            clear hK K hH
            have hH := hH2
            clear hH2
            try simp only [Act.put, List.setIfInBounds_toArray, List.set_cons_zero, List.set_cons_succ]
            refine wpAnyU_ready (rs := [11]) (by kernel_rfl) (by simp) ?_
            refine AllReadyU.cons 1 (by kernel_rfl) (o := _) rfl (fun K hK => ?_) AllReadyU.nil
            have hG := hH
            replace hG := S2o0 hG; (try dsimp only at hG); have q0 := hG.1; have q1 := hG.2.1; have q2 := hG.2.2.1; have q3 := hG.2.2.2.1; have q4 := hG.2.2.2.2.1; have q5 := hG.2.2.2.2.2
            obtain ⟨⟨z0, z1, y0, y1⟩, yf⟩ := hT
            go_simp
            refine hK.out _ _ ?hsr1_15 (fun hH2 => ?hrr1_15)
            case hsr1_15 => exact S2i1
            clear hK K hH
            have hH := hH2
            clear hH2
            try simp only [Act.put, List.setIfInBounds_toArray, List.set_cons_zero, List.set_cons_succ]
            refine wpAnyU_done (by kernel_rfl) ?_ _ _
            refine NoPanic.normal ?_
            go_wp2_with fail
            go_meet
            exact boxes_endB hlT.1 hlT.2.1 hlT.2.2 y0 y1 yf q2 q3 q4 q5
          exact AllReadyU.nil
        case rest =>
          obtain ⟨gT, rfl, t0, t1, c2, c3, ho2, hB2⟩ := hcut
          have HO2 := hid ho2
          clear ho2 c0 c1 HO hB HPL
          go_upto_region 6 with fail
          refine wp_region_noPanic ?_
          refine wp_region_U (S := (S2 (fun w' => w'.cell? ⟨gT, 0, none⟩ = some (.int .i64 px) ∧ w'.cell? ⟨gT, 1, none⟩ = some (.int .i64 py) ∧ w'.cell? ⟨b, off + i2, none⟩ = some (.int .i64 r2) ∧ w'.cell? ⟨b, off + i3, none⟩ = some (.int .i64 r3) ∧ OwnE layBox 32 w' w.heap.size (.slice Ao no co) o ∧ Below w.heap.size w w'))) (T := (fun j => [0, 0, 0, 0, 0, 0, 0, 0, 0, 0, 0, 0, 0, 0, 0, 0, 0, 0, 0, 0, 0, 0, 1, 1].getD j 0)) (by kernel_rfl) (S2i0 ⟨t0, t1, c2, c3, HO2.out.drew, hB2.drew⟩) (fun hH => ?_)
          have hWr2 : Weaker (S2 (fun w' => w'.cell? ⟨gT, 0, none⟩ = some (.int .i64 px) ∧ w'.cell? ⟨gT, 1, none⟩ = some (.int .i64 py) ∧ w'.cell? ⟨b, off + i2, none⟩ = some (.int .i64 r2) ∧ w'.cell? ⟨b, off + i3, none⟩ = some (.int .i64 r3) ∧ OwnE layBox 32 w' w.heap.size (.slice Ao no co) o ∧ Below w.heap.size w w')) := weaker2 _
          refine U_take 1 29 24 0 0 (v := ?vr2_1) rfl (by kernel_rfl) (by kernel_rfl) hWr2 (by kernel_rfl) (by kernel_rfl) (by kernel_rfl) (by kernel_rfl) (by kernel_rfl) (by kernel_rfl) (fun _ _ _ _ h => h) (by kernel_rfl) ?hyr2_1 (by omega) hH ?_
          case hyr2_1 => (intro w' hSw; replace hSw := S2o0 hSw; (try dsimp only at hSw); have q0 := hSw.1; have q1 := hSw.2.1; have q2 := hSw.2.2.1; have q3 := hSw.2.2.2.1; have q4 := hSw.2.2.2.2.1; have q5 := hSw.2.2.2.2.2; go_simp; try (with_reducible rfl))
          simp only [List.set_cons_zero, List.set_cons_succ]
          refine U_take 2 30 23 0 0 (v := ?vr2_2) rfl (by kernel_rfl) (by kernel_rfl) hWr2 (by kernel_rfl) (by kernel_rfl) (by kernel_rfl) (by kernel_rfl) (by kernel_rfl) (by kernel_rfl) (fun _ _ _ _ h => h) (by kernel_rfl) ?hyr2_2 (by omega) hH ?_
          case hyr2_2 => (intro w' hSw; clear hSw; go_simp; try (with_reducible rfl))
          simp only [List.set_cons_zero, List.set_cons_succ]
          refine U_take 3 31 22 0 0 (v := ?vr2_3) rfl (by kernel_rfl) (by kernel_rfl) hWr2 (by kernel_rfl) (by kernel_rfl) (by kernel_rfl) (by kernel_rfl) (by kernel_rfl) (by kernel_rfl) (fun _ _ _ _ h => h) (by kernel_rfl) ?hyr2_3 (by omega) hH ?_
          case hyr2_3 => (intro w' hSw; replace hSw := S2o0 hSw; (try dsimp only at hSw); have q0 := hSw.1; have q1 := hSw.2.1; have q2 := hSw.2.2.1; have q3 := hSw.2.2.2.1; have q4 := hSw.2.2.2.2.1; have q5 := hSw.2.2.2.2.2; go_simp; try (with_reducible rfl))
          simp only [List.set_cons_zero, List.set_cons_succ]
          refine U_take 4 32 21 0 0 (v := ?vr2_4) rfl (by kernel_rfl) (by kernel_rfl) hWr2 (by kernel_rfl) (by kernel_rfl) (by kernel_rfl) (by kernel_rfl) (by kernel_rfl) (by kernel_rfl) (fun _ _ _ _ h => h) (by kernel_rfl) ?hyr2_4 (by omega) hH ?_
          case hyr2_4 => (intro w' hSw; clear hSw; go_simp; try (with_reducible rfl))
          simp only [List.set_cons_zero, List.set_cons_succ]
          refine U_take 5 33 20 0 0 (v := ?vr2_5) rfl (by kernel_rfl) (by kernel_rfl) hWr2 (by kernel_rfl) (by kernel_rfl) (by kernel_rfl) (by kernel_rfl) (by kernel_rfl) (by kernel_rfl) (fun _ _ _ _ h => h) (by kernel_rfl) ?hyr2_5 (by omega) hH ?_
          case hyr2_5 => (intro w' hSw; clear hSw; go_simp; try (with_reducible rfl))
          simp only [List.set_cons_zero, List.set_cons_succ]
          refine U_take 6 34 19 0 0 (v := ?vr2_6) rfl (by kernel_rfl) (by kernel_rfl) hWr2 (by kernel_rfl) (by kernel_rfl) (by kernel_rfl) (by kernel_rfl) (by kernel_rfl) (by kernel_rfl) (fun _ _ _ _ h => h) (by kernel_rfl) ?hyr2_6 (by omega) hH ?_
          case hyr2_6 => (intro w' hSw; clear hSw; go_simp; try (with_reducible rfl))
          simp only [List.set_cons_zero, List.set_cons_succ]
          refine U_take 7 35 18 0 0 (v := ?vr2_7) rfl (by kernel_rfl) (by kernel_rfl) hWr2 (by kernel_rfl) (by kernel_rfl) (by kernel_rfl) (by kernel_rfl) (by kernel_rfl) (by kernel_rfl) (fun _ _ _ _ h => h) (by kernel_rfl) ?hyr2_7 (by omega) hH ?_
          case hyr2_7 => (intro w' hSw; clear hSw; go_simp; try (with_reducible rfl))
          simp only [List.set_cons_zero, List.set_cons_succ]
          refine U_take 8 36 17 0 0 (v := ?vr2_8) rfl (by kernel_rfl) (by kernel_rfl) hWr2 (by kernel_rfl) (by kernel_rfl) (by kernel_rfl) (by kernel_rfl) (by kernel_rfl) (by kernel_rfl) (fun _ _ _ _ h => h) (by kernel_rfl) ?hyr2_8 (by omega) hH ?_
          case hyr2_8 => (intro w' hSw; replace hSw := S2o0 hSw; (try dsimp only at hSw); have q0 := hSw.1; have q1 := hSw.2.1; have q2 := hSw.2.2.1; have q3 := hSw.2.2.2.1; have q4 := hSw.2.2.2.2.1; have q5 := hSw.2.2.2.2.2; go_simp; try (with_reducible rfl))
          simp only [List.set_cons_zero, List.set_cons_succ]
          refine U_take 11 39 16 0 0 (v := ?vr2_9) rfl (by kernel_rfl) (by kernel_rfl) hWr2 (by kernel_rfl) (by kernel_rfl) (by kernel_rfl) (by kernel_rfl) (by kernel_rfl) (by kernel_rfl) (fun _ _ _ _ h => h) (by kernel_rfl) ?hyr2_9 (by omega) hH ?_
          case hyr2_9 => (intro w' hSw; clear hSw; go_simp; try (with_reducible rfl))
          simp only [List.set_cons_zero, List.set_cons_succ]
          refine U_take 12 40 15 0 0 (v := ?vr2_10) rfl (by kernel_rfl) (by kernel_rfl) hWr2 (by kernel_rfl) (by kernel_rfl) (by kernel_rfl) (by kernel_rfl) (by kernel_rfl) (by kernel_rfl) (fun _ _ _ _ h => h) (by kernel_rfl) ?hyr2_10 (by omega) hH ?_
          case hyr2_10 => (intro w' hSw; replace hSw := S2o0 hSw; (try dsimp only at hSw); have q0 := hSw.1; have q1 := hSw.2.1; have q2 := hSw.2.2.1; have q3 := hSw.2.2.2.1; have q4 := hSw.2.2.2.2.1; have q5 := hSw.2.2.2.2.2; go_simp; try (with_reducible rfl))
          simp only [List.set_cons_zero, List.set_cons_succ]
          refine U_take 13 41 14 0 0 (v := ?vr2_11) rfl (by kernel_rfl) (by kernel_rfl) hWr2 (by kernel_rfl) (by kernel_rfl) (by kernel_rfl) (by kernel_rfl) (by kernel_rfl) (by kernel_rfl) (fun _ _ _ _ h => h) (by kernel_rfl) ?hyr2_11 (by omega) hH ?_
          case hyr2_11 => (intro w' hSw; clear hSw; go_simp; try (with_reducible rfl))
          simp only [List.set_cons_zero, List.set_cons_succ]
          refine U_take 14 42 13 0 0 (v := ?vr2_12) rfl (by kernel_rfl) (by kernel_rfl) hWr2 (by kernel_rfl) (by kernel_rfl) (by kernel_rfl) (by kernel_rfl) (by kernel_rfl) (by kernel_rfl) (fun _ _ _ _ h => h) (by kernel_rfl) ?hyr2_12 (by omega) hH ?_
          case hyr2_12 => (intro w' hSw; clear hSw; go_simp; try (with_reducible rfl))
          simp only [List.set_cons_zero, List.set_cons_succ]
          refine U_take 15 43 12 0 0 (v := ?vr2_13) rfl (by kernel_rfl) (by kernel_rfl) hWr2 (by kernel_rfl) (by kernel_rfl) (by kernel_rfl) (by kernel_rfl) (by kernel_rfl) (by kernel_rfl) (fun _ _ _ _ h => h) (by kernel_rfl) ?hyr2_13 (by omega) hH ?_
          case hyr2_13 => (intro w' hSw; clear hSw; go_simp; try (with_reducible rfl))
          simp only [List.set_cons_zero, List.set_cons_succ]
          refine U_take 16 44 11 0 0 (v := ?vr2_14) rfl (by kernel_rfl) (by kernel_rfl) hWr2 (by kernel_rfl) (by kernel_rfl) (by kernel_rfl) (by kernel_rfl) (by kernel_rfl) (by kernel_rfl) (fun _ _ _ _ h => h) (by kernel_rfl) ?hyr2_14 (by omega) hH ?_
          case hyr2_14 => (intro w' hSw; clear hSw; go_simp; try (with_reducible rfl))
          simp only [List.set_cons_zero, List.set_cons_succ]
          refine U_take 17 45 10 0 0 (v := ?vr2_15) rfl (by kernel_rfl) (by kernel_rfl) hWr2 (by kernel_rfl) (by kernel_rfl) (by kernel_rfl) (by kernel_rfl) (by kernel_rfl) (by kernel_rfl) (fun _ _ _ _ h => h) (by kernel_rfl) ?hyr2_15 (by omega) hH ?_
          case hyr2_15 => (intro w' hSw; replace hSw := S2o0 hSw; (try dsimp only at hSw); have q0 := hSw.1; have q1 := hSw.2.1; have q2 := hSw.2.2.1; have q3 := hSw.2.2.2.1; have q4 := hSw.2.2.2.2.1; have q5 := hSw.2.2.2.2.2; go_simp; try (with_reducible rfl))
          simp only [List.set_cons_zero, List.set_cons_succ]
          refine U_take 0 28 9 1 0 (v := ?vr2_16) rfl (by kernel_rfl) (by kernel_rfl) hWr2 (by kernel_rfl) (by kernel_rfl) (by kernel_rfl) (by kernel_rfl) (by kernel_rfl) (by kernel_rfl) (fun _ _ _ _ h => h) (by kernel_rfl) ?hyr2_16 (by omega) hH ?_
          case hyr2_16 => (intro w' hSw; clear hSw; go_simp; try (with_reducible rfl))
          simp only [List.set_cons_zero, List.set_cons_succ]
          refine wpAnyU_ready (rs := [9]) (by kernel_rfl) (by simp) ?_
          refine AllReadyU.cons 0 (by kernel_rfl) (o := _) rfl (fun K hK => ?_) AllReadyU.nil
          try clear hb
          go_simp
          (go_at_call 8; refine (HBU.out _).mono ?_; rintro e wn ⟨rfl, hb⟩; (try (replace hT := keepVZ hb hT)))
          refine hK.out _ _ ?hsr2_17 (fun hH2 => ?hrr2_17)
          case hsr2_17 => exact S2i0 (by have hG := hH; replace hG := S2o0 hG; (try dsimp only at hG); have q0 := hG.1; have q1 := hG.2.1; have q2 := hG.2.2.1; have q3 := hG.2.2.2.1; have q4 := hG.2.2.2.2.1; have q5 := hG.2.2.2.2.2; exact ⟨keepCell hb q0, keepCell hb q1, keepCell hb q2, keepCell hb q3, keepOwnBB hb q4, keepBelow hb q5⟩)
          clear hK K hH
          have hH := hH2
          clear hH2
          try simp only [Act.put, List.setIfInBounds_toArray, List.set_cons_zero, List.set_cons_succ]
          refine U_take 10 38 7 0 0 (v := ?vr2_18) rfl (by kernel_rfl) (by kernel_rfl) hWr2 (by kernel_rfl) (by kernel_rfl) (by kernel_rfl) (by kernel_rfl) (by kernel_rfl) (by kernel_rfl) (fun _ _ _ _ h => h) (by kernel_rfl) ?hyr2_18 (by omega) hH ?_
          case hyr2_18 => (intro w' hSw; clear hSw; go_simp; try (with_reducible rfl))
          simp only [List.set_cons_zero, List.set_cons_succ]
          refine wpAnyU_ready (rs := [18]) (by kernel_rfl) (by simp) ?_
          refine AllReadyU.cons 0 (by kernel_rfl) (o := _) rfl (fun K hK => ?_) AllReadyU.nil
          try clear hb
          go_simp
          (go_at_call 8; refine (HBV.out _).mono ?_; rintro e wn ⟨rfl, hb⟩; (try (replace hT := keepVZ hb hT)))
          refine hK.out _ _ ?hsr2_19 (fun hH2 => ?hrr2_19)
          case hsr2_19 => exact S2i0 (by have hG := hH; replace hG := S2o0 hG; (try dsimp only at hG); have q0 := hG.1; have q1 := hG.2.1; have q2 := hG.2.2.1; have q3 := hG.2.2.2.1; have q4 := hG.2.2.2.2.1; have q5 := hG.2.2.2.2.2; exact ⟨keepCell hb q0, keepCell hb q1, keepCell hb q2, keepCell hb q3, keepOwnBB hb q4, keepBelow hb q5⟩)
          clear hK K hH
          have hH := hH2
          clear hH2
          try simp only [Act.put, List.setIfInBounds_toArray, List.set_cons_zero, List.set_cons_succ]
          refine U_take 19 47 5 0 0 (v := ?vr2_20) rfl (by kernel_rfl) (by kernel_rfl) hWr2 (by kernel_rfl) (by kernel_rfl) (by kernel_rfl) (by kernel_rfl) (by kernel_rfl) (by kernel_rfl) (fun _ _ _ _ h => h) (by kernel_rfl) ?hyr2_20 (by omega) hH ?_
          case hyr2_20 => (intro w' hSw; clear hSw; go_simp; try (with_reducible rfl))
          simp only [List.set_cons_zero, List.set_cons_succ]
          refine U_take 20 48 4 0 0 (v := ?vr2_21) rfl (by kernel_rfl) (by kernel_rfl) hWr2 (by kernel_rfl) (by kernel_rfl) (by kernel_rfl) (by kernel_rfl) (by kernel_rfl) (by kernel_rfl) (fun _ _ _ _ h => h) (by kernel_rfl) ?hyr2_21 (by omega) hH ?_
          case hyr2_21 => (intro w' hSw; clear hSw; go_simp; try (with_reducible rfl))
          simp only [List.set_cons_zero, List.set_cons_succ]
          refine U_take 21 49 3 0 0 (v := ?vr2_22) rfl (by kernel_rfl) (by kernel_rfl) hWr2 (by kernel_rfl) (by kernel_rfl) (by kernel_rfl) (by kernel_rfl) (by kernel_rfl) (by kernel_rfl) (fun _ _ _ _ h => h) (by kernel_rfl) ?hyr2_22 (by omega) hH ?_
          case hyr2_22 => (intro w' hSw; clear hSw; go_simp; try (with_reducible rfl))
          simp only [List.set_cons_zero, List.set_cons_succ]
          refine wpAnyU_ready (rs := [22]) (by kernel_rfl) (by simp) ?_
          refine AllReadyU.cons 1 (by kernel_rfl) (o := _) rfl (fun K hK => ?_) AllReadyU.nil
          try clear hb
          have hG := hH
          replace hG := S2o0 hG; (try dsimp only at hG); have q0 := hG.1; have q1 := hG.2.1; have q2 := hG.2.2.1; have q3 := hG.2.2.2.1; have q4 := hG.2.2.2.2.1; have q5 := hG.2.2.2.2.2
          go_simp
          refine hK.out _ _ ?hsr2_23 (fun hH2 => ?hrr2_23)
          case hsr2_23 => exact S2i1
          clear hK K hH
          have hH := hH2
          clear hH2
          try simp only [Act.put, List.setIfInBounds_toArray, List.set_cons_zero, List.set_cons_succ]
          have HW := hid q5
          refine wpAnyU_ready (rs := [23]) (by kernel_rfl) (by simp) ?_
          refine AllReadyU.cons 1 (by kernel_rfl) (o := _) rfl (fun K hK => ?_) AllReadyU.nil
          (refine step_append_E tyBoxB (by rfl) _ _ (by rfl) w.heap.size _ _ (by rfl) (q4.alloc _) _ 0 1 1 [((px, py), (px + u, py + v))] (by rfl) (by rfl) (cells_boxB (by show _ = some (Value.int .i64 px); go_simp) (by show _ = some (Value.int .i64 py); go_simp) (by show _ = some (Value.int .i64 (px + u)); go_simp) (by show _ = some (Value.int .i64 (py + v)); go_simp)) (by simp; omega) (by simp; omega) (by have := HW.out.size; simp; omega) ?_; intro s' w7 ho1 hg1 hat)
          refine hK.out _ _ ?hsr2_24 (fun hH2 => ?hrr2_24)
          case hsr2_24 => exact S2i1
          clear hK K hH
          have hH := hH2
          clear hH2
          try simp only [Act.put, List.getElem_toArray, List.getElem_cons_succ, List.getElem_cons_zero, List.setIfInBounds_toArray, List.set_cons_zero, List.set_cons_succ]
          have HO1 := hid ho1
          have HB1 := hid ((q5.alloc q5.size _).grown hg1 (by have := HW.out.size; simp; omega) (fun k hk => (q4.lt hk).1))
          clear ho1 hg1 hat q0 q1 q2 q3 q4 q5 HW
          refine U_take 24 3 0 1 1 (v := ?vr2_25) rfl (by kernel_rfl) (by kernel_rfl) hWr2 (by kernel_rfl) (by kernel_rfl) (by kernel_rfl) (by kernel_rfl) (by kernel_rfl) (by kernel_rfl) (fun _ _ _ _ h => h) (by kernel_rfl) ?hyr2_25 (by omega) hH ?_
          case hyr2_25 => (intro w' hSw; clear hSw; go_simp; try (with_reducible rfl))
          simp only [List.set_cons_zero, List.set_cons_succ]
          refine wpAnyU_done (by kernel_rfl) ?_ _ _
          refine NoPanic.normal ?_
          clear hH
          have HNL := hid (show (o ++ [((px, py), (px + u, py + v))]).length = no + 1 by simp; exact HNO.out.symm)
          clear t0 t1 c2 c3 HO2 hB2
          go_wp2
          go_roundw
          case rel =>
            refine ⟨no + 1, o ++ [((px, py), (px + u, py + v))], HNL.out, by omega, by have := HI.out; (go_num <;> (try omega)), fun b hb => ?_, HO1.out, HB1.out⟩
            rcases List.mem_append.1 hb with g | g
            · exact HV.out b g
            · rw [List.mem_singleton] at g
              rw [g]
              exact HVB.out
          case measure => have := HI.out; simp [intOf]; omega
      · have g2 : ¬ (no : Int) < 24 := by omega
        have g1 : ((i : Int) + 3 < (r.length : Int)) := by omega
        have HR : Hid (RetBxB w (.returned (.slice Ao no co)) wo) := ⟨o, Ao, no, co, rfl, ho, by omega, HV.out, hB⟩
        clear hso hfo ho HO hB hi hok hno
        go_wp2
        refine bodyPost_ret (v := .slice Ao no co) (by simp [results, Try.results9, go_sem]) rfl HR.out
    · have g1 : ¬ ((i : Int) + 3 < (r.length : Int)) := by omega
      have HR : Hid (RetBxB w (.returned (.slice Ao no co)) wo) := ⟨o, Ao, no, co, rfl, ho, by omega, HV.out, hB⟩
      clear hso hfo ho HO hB hi hok hno
      go_wp2
      refine bodyPost_ret (v := .slice Ao no co) (by simp [results, Try.results9, go_sem]) rfl HR.out
end
end Go.Proofs.Ytiaoandbdgdecaa
