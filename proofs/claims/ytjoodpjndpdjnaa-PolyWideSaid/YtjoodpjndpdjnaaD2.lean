/- The walk of PolyWide. -/
import Derived.Test.YtjoodpjndpdjnaaE9
import Derived.Test.YtjoodpjndpdjnaaB3
namespace Go.Proofs.Ytjoodpjndpdjnaa
set_option linter.unusedVariables false
set_option linter.unusedSimpArgs false
open Go.RowKit

theorem ofWide_calls' (z : Int) (d : Nat → Int) (hd : d = digs z) (w : World) :
    Calls Try.prog 35 #[wideV z] w (Ret (.agg #[.int .u32 (d 0), .int .u32 (d 1), .int .u32 (d 2), .int .u32 (d 3), .int .u32 (d 4), .int .u32 (d 5), .int .u32 (d 6), .int .u32 (d 7)]) w) := by
  subst hd
  exact ofWide_calls z w
theorem hiW_m15 : hiW (-15) = -1 := by unfold hiW wrap64; omega
theorem loW_m15 : loW (-15) = 18446744073709551601 := by unfold loW; omega

set_option maxRecDepth 100000 in
set_option maxHeartbeats 8000000 in
theorem polyWide_walk (v u a b c d n : Int) (hv : -170141183460469231731687303715884105728 ≤ v ∧ v < 170141183460469231731687303715884105728) (hu : -170141183460469231731687303715884105728 ≤ u ∧ u < 170141183460469231731687303715884105728) (ha : i64 a) (hb : i64 b) (hc : i64 c) (hd : i64 d) (hn : i64 n) (w : World) :
    Calls Try.prog 7 #[wideV v, wideV u, vecV a b, vecV c d, .int .i64 n] w (Ret (.bool true) w) := by
  have RV := hid hv
  have RU := hid hu
  have RA := hid ha
  have RB := hid hb
  have RC := hid hc
  have RD := hid hd
  have RN := hid hn
  clear hv hu ha hb hc hd hn
  obtain ⟨dv, hdv⟩ : ∃ dv, dv = digs v := ⟨_, rfl⟩
  obtain ⟨du, hdu⟩ : ∃ du, du = digs u := ⟨_, rfl⟩
  have HDV := hid hdv
  have HDU := hid hdu
  clear hdv hdu
  obtain ⟨W, hW⟩ : ∃ W, W = ((((w.alloc (.cells #[.int .i64 (hiW v), .int .u64 (loW v)] 40)).alloc (.cells #[.int .i64 (hiW u), .int .u64 (loW u)] 40)).alloc (.cells #[.int .i64 a, .int .i64 b] 24)).alloc (.cells #[.int .i64 c, .int .i64 d] 24)) := ⟨_, rfl⟩
  have k0 : W.cell? ⟨w.heap.size, 0, none⟩ = some (.int .i64 (hiW v)) := by subst hW; go_simp
  have k1 : W.cell? ⟨w.heap.size, 1, none⟩ = some (.int .u64 (loW v)) := by subst hW; go_simp
  have k2 : W.cell? ⟨w.heap.size + 1, 0, none⟩ = some (.int .i64 (hiW u)) := by subst hW; go_simp
  have k3 : W.cell? ⟨w.heap.size + 1, 1, none⟩ = some (.int .u64 (loW u)) := by subst hW; go_simp
  have k4 : W.cell? ⟨w.heap.size + 2, 0, none⟩ = some (.int .i64 a) := by subst hW; go_simp
  have k5 : W.cell? ⟨w.heap.size + 2, 1, none⟩ = some (.int .i64 b) := by subst hW; go_simp
  have k6 : W.cell? ⟨w.heap.size + 3, 0, none⟩ = some (.int .i64 c) := by subst hW; go_simp
  have k7 : W.cell? ⟨w.heap.size + 3, 1, none⟩ = some (.int .i64 d) := by subst hW; go_simp
  have hB : Below w.heap.size w W := by subst hW; go_grown
  have hsz : w.heap.size + 4 ≤ W.heap.size := by subst hW; simp
  go_enter Try.func7, Try.ntmps7
  go_wp2_with fail
  rw [← hW]
  have HW := hid hW
  clear hW
  refine (times_calls (-3) 5 (by omega) (by omega) (by omega) (by omega) _).mono ?_
  rintro e w0 ⟨rfl, hb0⟩
  have h1 := hiW_m15
  have h2 := loW_m15
  have hsz0 : W.heap.size ≤ w0.heap.size := hb0.size
  go_upto_region 3 with fail
  clear h1 h2
  replace k0 := keepCell hb0 k0
  replace k1 := keepCell hb0 k1
  replace k2 := keepCell hb0 k2
  replace k3 := keepCell hb0 k3
  replace k4 := keepCell hb0 k4
  replace k5 := keepCell hb0 k5
  replace k6 := keepCell hb0 k6
  replace k7 := keepCell hb0 k7
  have hB0 := keepBelow hb0 hB
  clear hb0 hB hsz HW
  have hsz : w.heap.size + 4 ≤ w0.heap.size := by have := lt_of_cell k7; omega
  clear hsz0
  go_cut [11, 12] from 20 to 23 (fun p q wx => ∃ g3 g4 : Nat, p = .pointer (some ⟨g3, 0, none⟩) ∧ q = .pointer (some ⟨g4, 0, none⟩) ∧ g3 ≠ g4 ∧ Blk8 wx g3 dv ∧ Blk8 wx g4 du ∧ Below w0.heap.size w0 wx)
  case first =>
    have n0a00 : ¬ w0.heap.size = w.heap.size := by omega
    have n0b00 : ¬ w.heap.size = w0.heap.size := by omega
    have n0a01 : ¬ w0.heap.size + 1 = w.heap.size := by omega
    have n0b01 : ¬ w.heap.size = w0.heap.size + 1 := by omega
    have n0l0 : w.heap.size < w0.heap.size := by omega
    have n0a10 : ¬ w0.heap.size = w.heap.size + 1 := by omega
    have n0b10 : ¬ w.heap.size + 1 = w0.heap.size := by omega
    have n0a11 : ¬ w0.heap.size + 1 = w.heap.size + 1 := by omega
    have n0b11 : ¬ w.heap.size + 1 = w0.heap.size + 1 := by omega
    have n0l1 : w.heap.size + 1 < w0.heap.size := by omega
    have s1 : w0.drew.cell? ⟨w.heap.size, 0, none⟩ = some (.int .i64 (hiW v)) ∧ w0.drew.cell? ⟨w.heap.size, 1, none⟩ = some (.int .u64 (loW v)) ∧ w0.drew.cell? ⟨w.heap.size + 1, 0, none⟩ = some (.int .i64 (hiW u)) ∧ w0.drew.cell? ⟨w.heap.size + 1, 1, none⟩ = some (.int .u64 (loW u)) := ⟨by go_simp, by go_simp, by go_simp, by go_simp⟩
    have S1 := hid s1
    clear s1
    go_region_held3 (fun w' => w'.cell? ⟨w.heap.size, 0, none⟩ = some (.int .i64 (hiW v)) ∧ w'.cell? ⟨w.heap.size, 1, none⟩ = some (.int .u64 (loW v)) ∧ w'.cell? ⟨w.heap.size + 1, 0, none⟩ = some (.int .i64 (hiW u)) ∧ w'.cell? ⟨w.heap.size + 1, 1, none⟩ = some (.int .u64 (loW u)))
      (first | with_reducible exact S1.out | ((try dsimp only); refine ⟨?_, ?_, ?_, ?_⟩ <;> go_simp))
      (first | (go_at_call 35; go_split_ands; first | ((with_reducible refine (ofWide_calls' v dv HDV.out _).mono ?_); rintro e w1 ⟨rfl, hb1⟩; have q0 := keepCell (b := w.heap.size) (o := 0) (v := .int .i64 (hiW v)) hb1 (by go_simp); have q1 := keepCell (b := w.heap.size) (o := 1) (v := .int .u64 (loW v)) hb1 (by go_simp); have q2 := keepCell (b := w.heap.size + 1) (o := 0) (v := .int .i64 (hiW u)) hb1 (by go_simp); have q3 := keepCell (b := w.heap.size + 1) (o := 1) (v := .int .u64 (loW u)) hb1 (by go_simp); have s1 := hb1.size; (try simp at s1); have n1a00 : ¬ w1.heap.size = w.heap.size := (by omega); have n1b00 : ¬ w.heap.size = w1.heap.size := (by omega); have n1a01 : ¬ w1.heap.size + 1 = w.heap.size := (by omega); have n1b01 : ¬ w.heap.size = w1.heap.size + 1 := (by omega); have n1l0 : w.heap.size < w1.heap.size := (by omega); have n1a10 : ¬ w1.heap.size = w.heap.size + 1 := (by omega); have n1b10 : ¬ w.heap.size + 1 = w1.heap.size := (by omega); have n1a11 : ¬ w1.heap.size + 1 = w.heap.size + 1 := (by omega); have n1b11 : ¬ w.heap.size + 1 = w1.heap.size + 1 := (by omega); have n1l1 : w.heap.size + 1 < w1.heap.size := (by omega); (try have t1 := Nat.lt_of_succ_le s1); (try have t1' := Nat.lt_of_succ_lt t1); obtain ⟨hc1, hf1⟩ := bcell hb1; (try simp at hc1 hf1)) | ((with_reducible refine (ofWide_calls' u du HDU.out _).mono ?_); rintro e w2 ⟨rfl, hb2⟩; have r0 := keepCell (b := w.heap.size) (o := 0) (v := .int .i64 (hiW v)) hb2 (by go_simp); have r1 := keepCell (b := w.heap.size) (o := 1) (v := .int .u64 (loW v)) hb2 (by go_simp); have r2 := keepCell (b := w.heap.size + 1) (o := 0) (v := .int .i64 (hiW u)) hb2 (by go_simp); have r3 := keepCell (b := w.heap.size + 1) (o := 1) (v := .int .u64 (loW u)) hb2 (by go_simp); have s2 := hb2.size; (try simp at s2); have n2a00 : ¬ w2.heap.size = w.heap.size := (by omega); have n2b00 : ¬ w.heap.size = w2.heap.size := (by omega); have n2a01 : ¬ w2.heap.size + 1 = w.heap.size := (by omega); have n2b01 : ¬ w.heap.size = w2.heap.size + 1 := (by omega); have n2l0 : w.heap.size < w2.heap.size := (by omega); have n2a10 : ¬ w2.heap.size = w.heap.size + 1 := (by omega); have n2b10 : ¬ w.heap.size + 1 = w2.heap.size := (by omega); have n2a11 : ¬ w2.heap.size + 1 = w.heap.size + 1 := (by omega); have n2b11 : ¬ w.heap.size + 1 = w2.heap.size + 1 := (by omega); have n2l1 : w.heap.size + 1 < w2.heap.size := (by omega); (try have t2 := Nat.lt_of_succ_le s2); (try have t2' := Nat.lt_of_succ_lt t2); (try have t2'' := Nat.lt_of_lt_of_le t1 (Nat.le_of_succ_le s2)); (try have t3 := Nat.lt_of_lt_of_le t1 s2); (try have t4 := Nat.lt_of_lt_of_le t1' s2); obtain ⟨hc2, hf2⟩ := bcell hb2; (try simp at hc2 hf2))))
    all_goals
      go_split_ands
      clear hc1 hf1 hc2 hf2
      clear n0a00 n0b00 n0a01 n0b01 n0a10 n0b10 n0a11 n0b11 n1a00 n1b00 n1a01 n1b01 n1a10 n1b10 n1a11 n1b11 n2a00 n2b00 n2a01 n2b01 n2a10 n2b10 n2a11 n2b11
      clear k0 k1 k2 k3 k4 k5 k6 k7 q0 q1 q2 q3 r0 r1 r2 r3 S1
      try clear t1
      try clear t1'
      go_wp2_with fail
      go_meet
      refine ⟨_, _, rfl, rfl, ?_, ?_, ?_, ?_⟩
      · first | omega | (simp; omega)
      · (repeat (first | (with_reducible assumption) | ((with_reducible refine Blk8.lit ?_); (simp; done)) | ((with_reducible refine Blk8.fresh ?_); (simp; done)) | (with_reducible refine Blk8.drew ?_) | (with_reducible refine Blk8.later ?_ _) | (with_reducible refine Blk8.sets8 (p := fun _ => 0) ?_) | ((with_reducible refine Blk8.far8 ?_ ?_); rotate_left; (first | omega | (simp <;> omega))) | ((with_reducible refine Blk8.below ?_ hb2 ?_); rotate_left; (first | omega | (simp <;> omega))) | ((with_reducible refine Blk8.below ?_ hb1 ?_); rotate_left; (first | omega | (simp <;> omega)))))
      · (repeat (first | (with_reducible assumption) | ((with_reducible refine Blk8.lit ?_); (simp; done)) | ((with_reducible refine Blk8.fresh ?_); (simp; done)) | (with_reducible refine Blk8.drew ?_) | (with_reducible refine Blk8.later ?_ _) | (with_reducible refine Blk8.sets8 (p := fun _ => 0) ?_) | ((with_reducible refine Blk8.far8 ?_ ?_); rotate_left; (first | omega | (simp <;> omega))) | ((with_reducible refine Blk8.below ?_ hb2 ?_); rotate_left; (first | omega | (simp <;> omega))) | ((with_reducible refine Blk8.below ?_ hb1 ?_); rotate_left; (first | omega | (simp <;> omega)))))
      · have f1 := (show Below w0.heap.size w0 _ by go_grown).trans (hb1.mono (show w0.heap.size ≤ _ by (try simp) <;> omega))
        have f2 := (show Below w0.heap.size w0 _ by go_grown).trans (hb2.mono (show w0.heap.size ≤ _ by (try simp) <;> omega))
        go_grown
  case rest =>
    obtain ⟨g3, g4, rfl, rfl, hne, h3, h4, hB3⟩ := hcut
    rw [HDV.out] at h3
    rw [HDU.out] at h4
    replace k0 := keepCell hB3 k0
    replace k1 := keepCell hB3 k1
    replace k2 := keepCell hB3 k2
    replace k3 := keepCell hB3 k3
    replace k4 := keepCell hB3 k4
    replace k5 := keepCell hB3 k5
    replace k6 := keepCell hB3 k6
    replace k7 := keepCell hB3 k7
    have hB4 := keepBelow hB3 hB0
    clear hB3 hB0 hsz
    have H3 := hid h3
    have H4 := hid h4
    clear h3 h4
    have s1 : wc.drew.cell? ⟨w.heap.size, 0, none⟩ = some (.int .i64 (hiW v)) ∧ wc.drew.cell? ⟨w.heap.size, 1, none⟩ = some (.int .u64 (loW v)) ∧ wc.drew.cell? ⟨w.heap.size + 1, 0, none⟩ = some (.int .i64 (hiW u)) ∧ wc.drew.cell? ⟨w.heap.size + 1, 1, none⟩ = some (.int .u64 (loW u)) ∧ wc.drew.cell? ⟨w.heap.size + 2, 0, none⟩ = some (.int .i64 a) ∧ wc.drew.cell? ⟨w.heap.size + 2, 1, none⟩ = some (.int .i64 b) ∧ wc.drew.cell? ⟨w.heap.size + 3, 0, none⟩ = some (.int .i64 c) ∧ wc.drew.cell? ⟨w.heap.size + 3, 1, none⟩ = some (.int .i64 d) := ⟨by go_simp, by go_simp, by go_simp, by go_simp, by go_simp, by go_simp, by go_simp, by go_simp⟩
    have S1 := hid s1
    clear s1 k0 k1 k2 k3 k4 k5 k6 k7
    go_wp2_with fail
    refine wp_region_noPanic ?_
    refine wp_region_T (S := (S2 (fun w' => w'.cell? ⟨w.heap.size, 0, none⟩ = some (.int .i64 (hiW v)) ∧ w'.cell? ⟨w.heap.size, 1, none⟩ = some (.int .u64 (loW v)) ∧ w'.cell? ⟨w.heap.size + 1, 0, none⟩ = some (.int .i64 (hiW u)) ∧ w'.cell? ⟨w.heap.size + 1, 1, none⟩ = some (.int .u64 (loW u)) ∧ w'.cell? ⟨w.heap.size + 2, 0, none⟩ = some (.int .i64 a) ∧ w'.cell? ⟨w.heap.size + 2, 1, none⟩ = some (.int .i64 b) ∧ w'.cell? ⟨w.heap.size + 3, 0, none⟩ = some (.int .i64 c) ∧ w'.cell? ⟨w.heap.size + 3, 1, none⟩ = some (.int .i64 d) ∧ Blk8 w' (g3) (digs v) ∧ Blk8 w' (g4) (digs u) ∧ Below w.heap.size w w'))) (T := (fun _ => 0)) (by kernel_rfl) (S2i0 ⟨S1.out.1, S1.out.2.1, S1.out.2.2.1, S1.out.2.2.2.1, S1.out.2.2.2.2.1, S1.out.2.2.2.2.2.1, S1.out.2.2.2.2.2.2.1, S1.out.2.2.2.2.2.2.2, H3.out.drew, H4.out.drew, hB4.drew⟩) (fun hH => ?_)
    have hWr1 : Weaker (S2 (fun w' => w'.cell? ⟨w.heap.size, 0, none⟩ = some (.int .i64 (hiW v)) ∧ w'.cell? ⟨w.heap.size, 1, none⟩ = some (.int .u64 (loW v)) ∧ w'.cell? ⟨w.heap.size + 1, 0, none⟩ = some (.int .i64 (hiW u)) ∧ w'.cell? ⟨w.heap.size + 1, 1, none⟩ = some (.int .u64 (loW u)) ∧ w'.cell? ⟨w.heap.size + 2, 0, none⟩ = some (.int .i64 a) ∧ w'.cell? ⟨w.heap.size + 2, 1, none⟩ = some (.int .i64 b) ∧ w'.cell? ⟨w.heap.size + 3, 0, none⟩ = some (.int .i64 c) ∧ w'.cell? ⟨w.heap.size + 3, 1, none⟩ = some (.int .i64 d) ∧ Blk8 w' (g3) (digs v) ∧ Blk8 w' (g4) (digs u) ∧ Below w.heap.size w w')) := weaker2 _
    refine T_take 0 24 42 0 (v := ?vr1_1) rfl (by kernel_rfl) (by kernel_rfl) hWr1 (by kernel_rfl) (by kernel_rfl) (by kernel_rfl) (by kernel_rfl) (by kernel_rfl) (by kernel_rfl) (fun _ _ _ _ h => h) (by kernel_rfl) ?hyr1_1 hH ?_
    case hyr1_1 => (intro w' hSw; clear hSw; go_simp; try (with_reducible rfl))
    simp only [List.set_cons_zero, List.set_cons_succ]
    refine T_take 1 25 41 0 (v := ?vr1_2) rfl (by kernel_rfl) (by kernel_rfl) hWr1 (by kernel_rfl) (by kernel_rfl) (by kernel_rfl) (by kernel_rfl) (by kernel_rfl) (by kernel_rfl) (fun _ _ _ _ h => h) (by kernel_rfl) ?hyr1_2 hH ?_
    case hyr1_2 => (intro w' hSw; replace hSw := S2o0 hSw; (try dsimp only at hSw); have q0 := hSw.1; have q1 := hSw.2.1; have q2 := hSw.2.2.1; have q3 := hSw.2.2.2.1; have q4 := hSw.2.2.2.2.1; have q5 := hSw.2.2.2.2.2.1; have q6 := hSw.2.2.2.2.2.2.1; have q7 := hSw.2.2.2.2.2.2.2.1; have q8 := hSw.2.2.2.2.2.2.2.2.1; have q9 := hSw.2.2.2.2.2.2.2.2.2.1; have q10 := hSw.2.2.2.2.2.2.2.2.2.2; obtain ⟨qa8_0, qa8_1, qa8_2, qa8_3, qa8_4, qa8_5, qa8_6, qa8_7⟩ := Blk8.all q8; obtain ⟨qa9_0, qa9_1, qa9_2, qa9_3, qa9_4, qa9_5, qa9_6, qa9_7⟩ := Blk8.all q9; go_simp; try (with_reducible rfl))
    simp only [List.set_cons_zero, List.set_cons_succ]
    refine T_take 2 26 40 0 (v := ?vr1_3) rfl (by kernel_rfl) (by kernel_rfl) hWr1 (by kernel_rfl) (by kernel_rfl) (by kernel_rfl) (by kernel_rfl) (by kernel_rfl) (by kernel_rfl) (fun _ _ _ _ h => h) (by kernel_rfl) ?hyr1_3 hH ?_
    case hyr1_3 => (intro w' hSw; clear hSw; go_simp; try (with_reducible rfl))
    simp only [List.set_cons_zero, List.set_cons_succ]
    refine T_take 3 27 39 0 (v := ?vr1_4) rfl (by kernel_rfl) (by kernel_rfl) hWr1 (by kernel_rfl) (by kernel_rfl) (by kernel_rfl) (by kernel_rfl) (by kernel_rfl) (by kernel_rfl) (fun _ _ _ _ h => h) (by kernel_rfl) ?hyr1_4 hH ?_
    case hyr1_4 => (intro w' hSw; replace hSw := S2o0 hSw; (try dsimp only at hSw); have q0 := hSw.1; have q1 := hSw.2.1; have q2 := hSw.2.2.1; have q3 := hSw.2.2.2.1; have q4 := hSw.2.2.2.2.1; have q5 := hSw.2.2.2.2.2.1; have q6 := hSw.2.2.2.2.2.2.1; have q7 := hSw.2.2.2.2.2.2.2.1; have q8 := hSw.2.2.2.2.2.2.2.2.1; have q9 := hSw.2.2.2.2.2.2.2.2.2.1; have q10 := hSw.2.2.2.2.2.2.2.2.2.2; obtain ⟨qa8_0, qa8_1, qa8_2, qa8_3, qa8_4, qa8_5, qa8_6, qa8_7⟩ := Blk8.all q8; obtain ⟨qa9_0, qa9_1, qa9_2, qa9_3, qa9_4, qa9_5, qa9_6, qa9_7⟩ := Blk8.all q9; go_simp; try (with_reducible rfl))
    simp only [List.set_cons_zero, List.set_cons_succ]
    refine T_take 5 29 38 0 (v := ?vr1_5) rfl (by kernel_rfl) (by kernel_rfl) hWr1 (by kernel_rfl) (by kernel_rfl) (by kernel_rfl) (by kernel_rfl) (by kernel_rfl) (by kernel_rfl) (fun _ _ _ _ h => h) (by kernel_rfl) ?hyr1_5 hH ?_
    case hyr1_5 => (intro w' hSw; clear hSw; go_simp; try (with_reducible rfl))
    simp only [List.set_cons_zero, List.set_cons_succ]
    refine T_take 6 30 37 0 (v := ?vr1_6) rfl (by kernel_rfl) (by kernel_rfl) hWr1 (by kernel_rfl) (by kernel_rfl) (by kernel_rfl) (by kernel_rfl) (by kernel_rfl) (by kernel_rfl) (fun _ _ _ _ h => h) (by kernel_rfl) ?hyr1_6 hH ?_
    case hyr1_6 => (intro w' hSw; replace hSw := S2o0 hSw; (try dsimp only at hSw); have q0 := hSw.1; have q1 := hSw.2.1; have q2 := hSw.2.2.1; have q3 := hSw.2.2.2.1; have q4 := hSw.2.2.2.2.1; have q5 := hSw.2.2.2.2.2.1; have q6 := hSw.2.2.2.2.2.2.1; have q7 := hSw.2.2.2.2.2.2.2.1; have q8 := hSw.2.2.2.2.2.2.2.2.1; have q9 := hSw.2.2.2.2.2.2.2.2.2.1; have q10 := hSw.2.2.2.2.2.2.2.2.2.2; obtain ⟨qa8_0, qa8_1, qa8_2, qa8_3, qa8_4, qa8_5, qa8_6, qa8_7⟩ := Blk8.all q8; obtain ⟨qa9_0, qa9_1, qa9_2, qa9_3, qa9_4, qa9_5, qa9_6, qa9_7⟩ := Blk8.all q9; go_simp; try (with_reducible rfl))
    simp only [List.set_cons_zero, List.set_cons_succ]
    refine T_take 8 32 36 0 (v := ?vr1_7) rfl (by kernel_rfl) (by kernel_rfl) hWr1 (by kernel_rfl) (by kernel_rfl) (by kernel_rfl) (by kernel_rfl) (by kernel_rfl) (by kernel_rfl) (fun _ _ _ _ h => h) (by kernel_rfl) ?hyr1_7 hH ?_
    case hyr1_7 => (intro w' hSw; clear hSw; go_simp; try (with_reducible rfl))
    simp only [List.set_cons_zero, List.set_cons_succ]
    refine T_take 9 33 35 0 (v := ?vr1_8) rfl (by kernel_rfl) (by kernel_rfl) hWr1 (by kernel_rfl) (by kernel_rfl) (by kernel_rfl) (by kernel_rfl) (by kernel_rfl) (by kernel_rfl) (fun _ _ _ _ h => h) (by kernel_rfl) ?hyr1_8 hH ?_
    case hyr1_8 => (intro w' hSw; replace hSw := S2o0 hSw; (try dsimp only at hSw); have q0 := hSw.1; have q1 := hSw.2.1; have q2 := hSw.2.2.1; have q3 := hSw.2.2.2.1; have q4 := hSw.2.2.2.2.1; have q5 := hSw.2.2.2.2.2.1; have q6 := hSw.2.2.2.2.2.2.1; have q7 := hSw.2.2.2.2.2.2.2.1; have q8 := hSw.2.2.2.2.2.2.2.2.1; have q9 := hSw.2.2.2.2.2.2.2.2.2.1; have q10 := hSw.2.2.2.2.2.2.2.2.2.2; obtain ⟨qa8_0, qa8_1, qa8_2, qa8_3, qa8_4, qa8_5, qa8_6, qa8_7⟩ := Blk8.all q8; obtain ⟨qa9_0, qa9_1, qa9_2, qa9_3, qa9_4, qa9_5, qa9_6, qa9_7⟩ := Blk8.all q9; go_simp; try (with_reducible rfl))
    simp only [List.set_cons_zero, List.set_cons_succ]
    refine wpAnyT_ready (rs := [4]) (by kernel_rfl) (by simp) ?_
    refine AllReadyT.cons 0 (by kernel_rfl) (o := _) rfl (fun K hK => ?_) AllReadyT.nil
    try clear hb
    go_simp
    (go_at_call 31; refine (times_calls a c RA.out.1 RA.out.2 RC.out.1 RC.out.2 _).mono ?_; rintro e wn ⟨rfl, hb⟩)
    refine hK.out _ _ ?hsr1_9 (fun hH2 => ?hrr1_9)
    case hsr1_9 => exact S2i0 (by have hG := hH; replace hG := S2o0 hG; (try dsimp only at hG); have q0 := hG.1; have q1 := hG.2.1; have q2 := hG.2.2.1; have q3 := hG.2.2.2.1; have q4 := hG.2.2.2.2.1; have q5 := hG.2.2.2.2.2.1; have q6 := hG.2.2.2.2.2.2.1; have q7 := hG.2.2.2.2.2.2.2.1; have q8 := hG.2.2.2.2.2.2.2.2.1; have q9 := hG.2.2.2.2.2.2.2.2.2.1; have q10 := hG.2.2.2.2.2.2.2.2.2.2; exact ⟨keepCell hb q0, keepCell hb q1, keepCell hb q2, keepCell hb q3, keepCell hb q4, keepCell hb q5, keepCell hb q6, keepCell hb q7, keepBlk hb q8, keepBlk hb q9, keepBelow hb q10⟩)
    clear hK K hH
    have hH := hH2
    clear hH2
    try simp only [Act.put, List.setIfInBounds_toArray, List.set_cons_zero, List.set_cons_succ]
    refine wpAnyT_ready (rs := [7]) (by kernel_rfl) (by simp) ?_
    refine AllReadyT.cons 0 (by kernel_rfl) (o := _) rfl (fun K hK => ?_) AllReadyT.nil
    try clear hb
    go_simp
    (go_at_call 36; refine (of_calls a RA.out.1 RA.out.2 _).mono ?_; rintro e wn ⟨rfl, hb⟩)
    refine hK.out _ _ ?hsr1_10 (fun hH2 => ?hrr1_10)
    case hsr1_10 => exact S2i0 (by have hG := hH; replace hG := S2o0 hG; (try dsimp only at hG); have q0 := hG.1; have q1 := hG.2.1; have q2 := hG.2.2.1; have q3 := hG.2.2.2.1; have q4 := hG.2.2.2.2.1; have q5 := hG.2.2.2.2.2.1; have q6 := hG.2.2.2.2.2.2.1; have q7 := hG.2.2.2.2.2.2.2.1; have q8 := hG.2.2.2.2.2.2.2.2.1; have q9 := hG.2.2.2.2.2.2.2.2.2.1; have q10 := hG.2.2.2.2.2.2.2.2.2.2; exact ⟨keepCell hb q0, keepCell hb q1, keepCell hb q2, keepCell hb q3, keepCell hb q4, keepCell hb q5, keepCell hb q6, keepCell hb q7, keepBlk hb q8, keepBlk hb q9, keepBelow hb q10⟩)
    clear hK K hH
    have hH := hH2
    clear hH2
    try simp only [Act.put, List.setIfInBounds_toArray, List.set_cons_zero, List.set_cons_succ]
    refine wpAnyT_ready (rs := [10]) (by kernel_rfl) (by simp) ?_
    refine AllReadyT.cons 0 (by kernel_rfl) (o := _) rfl (fun K hK => ?_) AllReadyT.nil
    try clear hb
    go_simp
    (go_at_call 36; refine (of_calls c RC.out.1 RC.out.2 _).mono ?_; rintro e wn ⟨rfl, hb⟩)
    refine hK.out _ _ ?hsr1_11 (fun hH2 => ?hrr1_11)
    case hsr1_11 => exact S2i0 (by have hG := hH; replace hG := S2o0 hG; (try dsimp only at hG); have q0 := hG.1; have q1 := hG.2.1; have q2 := hG.2.2.1; have q3 := hG.2.2.2.1; have q4 := hG.2.2.2.2.1; have q5 := hG.2.2.2.2.2.1; have q6 := hG.2.2.2.2.2.2.1; have q7 := hG.2.2.2.2.2.2.2.1; have q8 := hG.2.2.2.2.2.2.2.2.1; have q9 := hG.2.2.2.2.2.2.2.2.2.1; have q10 := hG.2.2.2.2.2.2.2.2.2.2; exact ⟨keepCell hb q0, keepCell hb q1, keepCell hb q2, keepCell hb q3, keepCell hb q4, keepCell hb q5, keepCell hb q6, keepCell hb q7, keepBlk hb q8, keepBlk hb q9, keepBelow hb q10⟩)
    clear hK K hH
    have hH := hH2
    clear hH2
    try simp only [Act.put, List.setIfInBounds_toArray, List.set_cons_zero, List.set_cons_succ]
    refine wpAnyT_ready (rs := [11]) (by kernel_rfl) (by simp) ?_
    refine AllReadyT.cons 0 (by kernel_rfl) (o := _) rfl (fun K hK => ?_) AllReadyT.nil
    try clear hb
    go_simp
    (go_at_call 37; refine (mul_calls a c _).mono ?_; rintro e wn ⟨rfl, hb⟩)
    refine hK.out _ _ ?hsr1_12 (fun hH2 => ?hrr1_12)
    case hsr1_12 => exact S2i0 (by have hG := hH; replace hG := S2o0 hG; (try dsimp only at hG); have q0 := hG.1; have q1 := hG.2.1; have q2 := hG.2.2.1; have q3 := hG.2.2.2.1; have q4 := hG.2.2.2.2.1; have q5 := hG.2.2.2.2.2.1; have q6 := hG.2.2.2.2.2.2.1; have q7 := hG.2.2.2.2.2.2.2.1; have q8 := hG.2.2.2.2.2.2.2.2.1; have q9 := hG.2.2.2.2.2.2.2.2.2.1; have q10 := hG.2.2.2.2.2.2.2.2.2.2; exact ⟨keepCell hb q0, keepCell hb q1, keepCell hb q2, keepCell hb q3, keepCell hb q4, keepCell hb q5, keepCell hb q6, keepCell hb q7, keepBlk hb q8, keepBlk hb q9, keepBelow hb q10⟩)
    clear hK K hH
    have hH := hH2
    clear hH2
    try simp only [Act.put, List.setIfInBounds_toArray, List.set_cons_zero, List.set_cons_succ]
    refine wpAnyT_ready (rs := [12]) (by kernel_rfl) (by simp) ?_
    refine AllReadyT.cons 0 (by kernel_rfl) (o := _) rfl (fun K hK => ?_) AllReadyT.nil
    try clear hb
    go_simp
    (go_at_call 38; refine (wide_calls (a * c) _).mono ?_; rintro e wn ⟨rfl, hb⟩)
    refine hK.out _ _ ?hsr1_13 (fun hH2 => ?hrr1_13)
    case hsr1_13 => exact S2i0 (by have hG := hH; replace hG := S2o0 hG; (try dsimp only at hG); have q0 := hG.1; have q1 := hG.2.1; have q2 := hG.2.2.1; have q3 := hG.2.2.2.1; have q4 := hG.2.2.2.2.1; have q5 := hG.2.2.2.2.2.1; have q6 := hG.2.2.2.2.2.2.1; have q7 := hG.2.2.2.2.2.2.2.1; have q8 := hG.2.2.2.2.2.2.2.2.1; have q9 := hG.2.2.2.2.2.2.2.2.2.1; have q10 := hG.2.2.2.2.2.2.2.2.2.2; exact ⟨keepCell hb q0, keepCell hb q1, keepCell hb q2, keepCell hb q3, keepCell hb q4, keepCell hb q5, keepCell hb q6, keepCell hb q7, keepBlk hb q8, keepBlk hb q9, keepBelow hb q10⟩)
    clear hK K hH
    have hH := hH2
    clear hH2
    try simp only [Act.put, List.setIfInBounds_toArray, List.set_cons_zero, List.set_cons_succ]
    refine T_take 13 37 29 0 (v := ?vr1_14) rfl (by kernel_rfl) (by kernel_rfl) hWr1 (by kernel_rfl) (by kernel_rfl) (by kernel_rfl) (by kernel_rfl) (by kernel_rfl) (by kernel_rfl) (fun _ _ _ _ h => h) (by kernel_rfl) ?hyr1_14 hH ?_
    case hyr1_14 => (intro w' hSw; clear hSw; go_simp; try (with_reducible rfl))
    simp only [List.set_cons_zero, List.set_cons_succ]
    refine T_take 14 38 28 0 (v := ?vr1_15) rfl (by kernel_rfl) (by kernel_rfl) hWr1 (by kernel_rfl) (by kernel_rfl) (by kernel_rfl) (by kernel_rfl) (by kernel_rfl) (by kernel_rfl) (fun _ _ _ _ h => h) (by kernel_rfl) ?hyr1_15 hH ?_
    case hyr1_15 => (intro w' hSw; clear hSw; go_simp; try (with_reducible rfl))
    simp only [List.set_cons_zero, List.set_cons_succ]
    refine T_take 15 39 27 0 (v := ?vr1_16) rfl (by kernel_rfl) (by kernel_rfl) hWr1 (by kernel_rfl) (by kernel_rfl) (by kernel_rfl) (by kernel_rfl) (by kernel_rfl) (by kernel_rfl) (fun _ _ _ _ h => h) (by kernel_rfl) ?hyr1_16 hH ?_
    case hyr1_16 => (intro w' hSw; replace hSw := S2o0 hSw; (try dsimp only at hSw); have q0 := hSw.1; have q1 := hSw.2.1; have q2 := hSw.2.2.1; have q3 := hSw.2.2.2.1; have q4 := hSw.2.2.2.2.1; have q5 := hSw.2.2.2.2.2.1; have q6 := hSw.2.2.2.2.2.2.1; have q7 := hSw.2.2.2.2.2.2.2.1; have q8 := hSw.2.2.2.2.2.2.2.2.1; have q9 := hSw.2.2.2.2.2.2.2.2.2.1; have q10 := hSw.2.2.2.2.2.2.2.2.2.2; obtain ⟨qa8_0, qa8_1, qa8_2, qa8_3, qa8_4, qa8_5, qa8_6, qa8_7⟩ := Blk8.all q8; obtain ⟨qa9_0, qa9_1, qa9_2, qa9_3, qa9_4, qa9_5, qa9_6, qa9_7⟩ := Blk8.all q9; go_simp; try (with_reducible rfl))
    simp only [List.set_cons_zero, List.set_cons_succ]
    refine T_take 16 40 26 0 (v := ?vr1_17) rfl (by kernel_rfl) (by kernel_rfl) hWr1 (by kernel_rfl) (by kernel_rfl) (by kernel_rfl) (by kernel_rfl) (by kernel_rfl) (by kernel_rfl) (fun _ _ _ _ h => h) (by kernel_rfl) ?hyr1_17 hH ?_
    case hyr1_17 => (intro w' hSw; replace hSw := S2o0 hSw; (try dsimp only at hSw); have q0 := hSw.1; have q1 := hSw.2.1; have q2 := hSw.2.2.1; have q3 := hSw.2.2.2.1; have q4 := hSw.2.2.2.2.1; have q5 := hSw.2.2.2.2.2.1; have q6 := hSw.2.2.2.2.2.2.1; have q7 := hSw.2.2.2.2.2.2.2.1; have q8 := hSw.2.2.2.2.2.2.2.2.1; have q9 := hSw.2.2.2.2.2.2.2.2.2.1; have q10 := hSw.2.2.2.2.2.2.2.2.2.2; obtain ⟨qa8_0, qa8_1, qa8_2, qa8_3, qa8_4, qa8_5, qa8_6, qa8_7⟩ := Blk8.all q8; obtain ⟨qa9_0, qa9_1, qa9_2, qa9_3, qa9_4, qa9_5, qa9_6, qa9_7⟩ := Blk8.all q9; go_simp; try (with_reducible rfl))
    simp only [List.set_cons_zero, List.set_cons_succ]
    refine T_take 18 42 25 0 (v := ?vr1_18) rfl (by kernel_rfl) (by kernel_rfl) hWr1 (by kernel_rfl) (by kernel_rfl) (by kernel_rfl) (by kernel_rfl) (by kernel_rfl) (by kernel_rfl) (fun _ _ _ _ h => h) (by kernel_rfl) ?hyr1_18 hH ?_
    case hyr1_18 => (intro w' hSw; replace hSw := S2o0 hSw; (try dsimp only at hSw); have q0 := hSw.1; have q1 := hSw.2.1; have q2 := hSw.2.2.1; have q3 := hSw.2.2.2.1; have q4 := hSw.2.2.2.2.1; have q5 := hSw.2.2.2.2.2.1; have q6 := hSw.2.2.2.2.2.2.1; have q7 := hSw.2.2.2.2.2.2.2.1; have q8 := hSw.2.2.2.2.2.2.2.2.1; have q9 := hSw.2.2.2.2.2.2.2.2.2.1; have q10 := hSw.2.2.2.2.2.2.2.2.2.2; obtain ⟨qa8_0, qa8_1, qa8_2, qa8_3, qa8_4, qa8_5, qa8_6, qa8_7⟩ := Blk8.all q8; obtain ⟨qa9_0, qa9_1, qa9_2, qa9_3, qa9_4, qa9_5, qa9_6, qa9_7⟩ := Blk8.all q9; go_simp; try (with_reducible rfl))
    simp only [List.set_cons_zero, List.set_cons_succ]
    refine T_take 19 43 24 0 (v := ?vr1_19) rfl (by kernel_rfl) (by kernel_rfl) hWr1 (by kernel_rfl) (by kernel_rfl) (by kernel_rfl) (by kernel_rfl) (by kernel_rfl) (by kernel_rfl) (fun _ _ _ _ h => h) (by kernel_rfl) ?hyr1_19 hH ?_
    case hyr1_19 => (intro w' hSw; replace hSw := S2o0 hSw; (try dsimp only at hSw); have q0 := hSw.1; have q1 := hSw.2.1; have q2 := hSw.2.2.1; have q3 := hSw.2.2.2.1; have q4 := hSw.2.2.2.2.1; have q5 := hSw.2.2.2.2.2.1; have q6 := hSw.2.2.2.2.2.2.1; have q7 := hSw.2.2.2.2.2.2.2.1; have q8 := hSw.2.2.2.2.2.2.2.2.1; have q9 := hSw.2.2.2.2.2.2.2.2.2.1; have q10 := hSw.2.2.2.2.2.2.2.2.2.2; obtain ⟨qa8_0, qa8_1, qa8_2, qa8_3, qa8_4, qa8_5, qa8_6, qa8_7⟩ := Blk8.all q8; obtain ⟨qa9_0, qa9_1, qa9_2, qa9_3, qa9_4, qa9_5, qa9_6, qa9_7⟩ := Blk8.all q9; go_simp; try (with_reducible rfl))
    simp only [List.set_cons_zero, List.set_cons_succ]
    refine wpAnyT_ready (rs := [17]) (by kernel_rfl) (by simp) ?_
    refine AllReadyT.cons 0 (by kernel_rfl) (o := _) rfl (fun K hK => ?_) AllReadyT.nil
    try clear hb
    go_simp
    (go_at_call 32; refine (plus_calls v u _).mono ?_; rintro e wn ⟨rfl, hb⟩)
    refine hK.out _ _ ?hsr1_20 (fun hH2 => ?hrr1_20)
    case hsr1_20 => exact S2i0 (by have hG := hH; replace hG := S2o0 hG; (try dsimp only at hG); have q0 := hG.1; have q1 := hG.2.1; have q2 := hG.2.2.1; have q3 := hG.2.2.2.1; have q4 := hG.2.2.2.2.1; have q5 := hG.2.2.2.2.2.1; have q6 := hG.2.2.2.2.2.2.1; have q7 := hG.2.2.2.2.2.2.2.1; have q8 := hG.2.2.2.2.2.2.2.2.1; have q9 := hG.2.2.2.2.2.2.2.2.2.1; have q10 := hG.2.2.2.2.2.2.2.2.2.2; exact ⟨keepCell hb q0, keepCell hb q1, keepCell hb q2, keepCell hb q3, keepCell hb q4, keepCell hb q5, keepCell hb q6, keepCell hb q7, keepBlk hb q8, keepBlk hb q9, keepBelow hb q10⟩)
    clear hK K hH
    have hH := hH2
    clear hH2
    try simp only [Act.put, List.setIfInBounds_toArray, List.set_cons_zero, List.set_cons_succ]
    refine wpAnyT_ready (rs := [20]) (by kernel_rfl) (by simp) ?_
    refine AllReadyT.cons 0 (by kernel_rfl) (o := _) rfl (fun K hK => ?_) AllReadyT.nil
    try clear hb
    go_simp
    (go_at_call 39; refine (add_calls v u _).mono ?_; rintro e wn ⟨rfl, hb⟩)
    refine hK.out _ _ ?hsr1_21 (fun hH2 => ?hrr1_21)
    case hsr1_21 => exact S2i0 (by have hG := hH; replace hG := S2o0 hG; (try dsimp only at hG); have q0 := hG.1; have q1 := hG.2.1; have q2 := hG.2.2.1; have q3 := hG.2.2.2.1; have q4 := hG.2.2.2.2.1; have q5 := hG.2.2.2.2.2.1; have q6 := hG.2.2.2.2.2.2.1; have q7 := hG.2.2.2.2.2.2.2.1; have q8 := hG.2.2.2.2.2.2.2.2.1; have q9 := hG.2.2.2.2.2.2.2.2.2.1; have q10 := hG.2.2.2.2.2.2.2.2.2.2; exact ⟨keepCell hb q0, keepCell hb q1, keepCell hb q2, keepCell hb q3, keepCell hb q4, keepCell hb q5, keepCell hb q6, keepCell hb q7, keepBlk hb q8, keepBlk hb q9, keepBelow hb q10⟩)
    clear hK K hH
    have hH := hH2
    clear hH2
    try simp only [Act.put, List.setIfInBounds_toArray, List.set_cons_zero, List.set_cons_succ]
    refine wpAnyT_ready (rs := [21]) (by kernel_rfl) (by simp) ?_
    refine AllReadyT.cons 0 (by kernel_rfl) (o := _) rfl (fun K hK => ?_) AllReadyT.nil
    try clear hb
    go_simp
    (go_at_call 38; refine (wide_calls (v + u) _).mono ?_; rintro e wn ⟨rfl, hb⟩)
    refine hK.out _ _ ?hsr1_22 (fun hH2 => ?hrr1_22)
    case hsr1_22 => exact S2i0 (by have hG := hH; replace hG := S2o0 hG; (try dsimp only at hG); have q0 := hG.1; have q1 := hG.2.1; have q2 := hG.2.2.1; have q3 := hG.2.2.2.1; have q4 := hG.2.2.2.2.1; have q5 := hG.2.2.2.2.2.1; have q6 := hG.2.2.2.2.2.2.1; have q7 := hG.2.2.2.2.2.2.2.1; have q8 := hG.2.2.2.2.2.2.2.2.1; have q9 := hG.2.2.2.2.2.2.2.2.2.1; have q10 := hG.2.2.2.2.2.2.2.2.2.2; exact ⟨keepCell hb q0, keepCell hb q1, keepCell hb q2, keepCell hb q3, keepCell hb q4, keepCell hb q5, keepCell hb q6, keepCell hb q7, keepBlk hb q8, keepBlk hb q9, keepBelow hb q10⟩)
    clear hK K hH
    have hH := hH2
    clear hH2
    try simp only [Act.put, List.setIfInBounds_toArray, List.set_cons_zero, List.set_cons_succ]
    refine T_take 22 46 20 0 (v := ?vr1_23) rfl (by kernel_rfl) (by kernel_rfl) hWr1 (by kernel_rfl) (by kernel_rfl) (by kernel_rfl) (by kernel_rfl) (by kernel_rfl) (by kernel_rfl) (fun _ _ _ _ h => h) (by kernel_rfl) ?hyr1_23 hH ?_
    case hyr1_23 => (intro w' hSw; clear hSw; go_simp; try (with_reducible rfl))
    simp only [List.set_cons_zero, List.set_cons_succ]
    refine T_take 23 47 19 0 (v := ?vr1_24) rfl (by kernel_rfl) (by kernel_rfl) hWr1 (by kernel_rfl) (by kernel_rfl) (by kernel_rfl) (by kernel_rfl) (by kernel_rfl) (by kernel_rfl) (fun _ _ _ _ h => h) (by kernel_rfl) ?hyr1_24 hH ?_
    case hyr1_24 => (intro w' hSw; clear hSw; go_simp; try (with_reducible rfl))
    simp only [List.set_cons_zero, List.set_cons_succ]
    refine T_take 24 48 18 0 (v := ?vr1_25) rfl (by kernel_rfl) (by kernel_rfl) hWr1 (by kernel_rfl) (by kernel_rfl) (by kernel_rfl) (by kernel_rfl) (by kernel_rfl) (by kernel_rfl) (fun _ _ _ _ h => h) (by kernel_rfl) ?hyr1_25 hH ?_
    case hyr1_25 => (intro w' hSw; clear hSw; go_simp; try (with_reducible rfl))
    simp only [List.set_cons_zero, List.set_cons_succ]
    refine T_take 25 49 17 0 (v := ?vr1_26) rfl (by kernel_rfl) (by kernel_rfl) hWr1 (by kernel_rfl) (by kernel_rfl) (by kernel_rfl) (by kernel_rfl) (by kernel_rfl) (by kernel_rfl) (fun _ _ _ _ h => h) (by kernel_rfl) ?hyr1_26 hH ?_
    case hyr1_26 => (intro w' hSw; replace hSw := S2o0 hSw; (try dsimp only at hSw); have q0 := hSw.1; have q1 := hSw.2.1; have q2 := hSw.2.2.1; have q3 := hSw.2.2.2.1; have q4 := hSw.2.2.2.2.1; have q5 := hSw.2.2.2.2.2.1; have q6 := hSw.2.2.2.2.2.2.1; have q7 := hSw.2.2.2.2.2.2.2.1; have q8 := hSw.2.2.2.2.2.2.2.2.1; have q9 := hSw.2.2.2.2.2.2.2.2.2.1; have q10 := hSw.2.2.2.2.2.2.2.2.2.2; obtain ⟨qa8_0, qa8_1, qa8_2, qa8_3, qa8_4, qa8_5, qa8_6, qa8_7⟩ := Blk8.all q8; obtain ⟨qa9_0, qa9_1, qa9_2, qa9_3, qa9_4, qa9_5, qa9_6, qa9_7⟩ := Blk8.all q9; go_simp; try (with_reducible rfl))
    simp only [List.set_cons_zero, List.set_cons_succ]
    refine T_take 26 50 16 0 (v := ?vr1_27) rfl (by kernel_rfl) (by kernel_rfl) hWr1 (by kernel_rfl) (by kernel_rfl) (by kernel_rfl) (by kernel_rfl) (by kernel_rfl) (by kernel_rfl) (fun _ _ _ _ h => h) (by kernel_rfl) ?hyr1_27 hH ?_
    case hyr1_27 => (intro w' hSw; replace hSw := S2o0 hSw; (try dsimp only at hSw); have q0 := hSw.1; have q1 := hSw.2.1; have q2 := hSw.2.2.1; have q3 := hSw.2.2.2.1; have q4 := hSw.2.2.2.2.1; have q5 := hSw.2.2.2.2.2.1; have q6 := hSw.2.2.2.2.2.2.1; have q7 := hSw.2.2.2.2.2.2.2.1; have q8 := hSw.2.2.2.2.2.2.2.2.1; have q9 := hSw.2.2.2.2.2.2.2.2.2.1; have q10 := hSw.2.2.2.2.2.2.2.2.2.2; obtain ⟨qa8_0, qa8_1, qa8_2, qa8_3, qa8_4, qa8_5, qa8_6, qa8_7⟩ := Blk8.all q8; obtain ⟨qa9_0, qa9_1, qa9_2, qa9_3, qa9_4, qa9_5, qa9_6, qa9_7⟩ := Blk8.all q9; go_simp; try (with_reducible rfl))
    simp only [List.set_cons_zero, List.set_cons_succ]
    refine T_take 28 52 15 0 (v := ?vr1_28) rfl (by kernel_rfl) (by kernel_rfl) hWr1 (by kernel_rfl) (by kernel_rfl) (by kernel_rfl) (by kernel_rfl) (by kernel_rfl) (by kernel_rfl) (fun _ _ _ _ h => h) (by kernel_rfl) ?hyr1_28 hH ?_
    case hyr1_28 => (intro w' hSw; replace hSw := S2o0 hSw; (try dsimp only at hSw); have q0 := hSw.1; have q1 := hSw.2.1; have q2 := hSw.2.2.1; have q3 := hSw.2.2.2.1; have q4 := hSw.2.2.2.2.1; have q5 := hSw.2.2.2.2.2.1; have q6 := hSw.2.2.2.2.2.2.1; have q7 := hSw.2.2.2.2.2.2.2.1; have q8 := hSw.2.2.2.2.2.2.2.2.1; have q9 := hSw.2.2.2.2.2.2.2.2.2.1; have q10 := hSw.2.2.2.2.2.2.2.2.2.2; obtain ⟨qa8_0, qa8_1, qa8_2, qa8_3, qa8_4, qa8_5, qa8_6, qa8_7⟩ := Blk8.all q8; obtain ⟨qa9_0, qa9_1, qa9_2, qa9_3, qa9_4, qa9_5, qa9_6, qa9_7⟩ := Blk8.all q9; go_simp; try (with_reducible rfl))
    simp only [List.set_cons_zero, List.set_cons_succ]
    refine T_take 29 53 14 0 (v := ?vr1_29) rfl (by kernel_rfl) (by kernel_rfl) hWr1 (by kernel_rfl) (by kernel_rfl) (by kernel_rfl) (by kernel_rfl) (by kernel_rfl) (by kernel_rfl) (fun _ _ _ _ h => h) (by kernel_rfl) ?hyr1_29 hH ?_
    case hyr1_29 => (intro w' hSw; replace hSw := S2o0 hSw; (try dsimp only at hSw); have q0 := hSw.1; have q1 := hSw.2.1; have q2 := hSw.2.2.1; have q3 := hSw.2.2.2.1; have q4 := hSw.2.2.2.2.1; have q5 := hSw.2.2.2.2.2.1; have q6 := hSw.2.2.2.2.2.2.1; have q7 := hSw.2.2.2.2.2.2.2.1; have q8 := hSw.2.2.2.2.2.2.2.2.1; have q9 := hSw.2.2.2.2.2.2.2.2.2.1; have q10 := hSw.2.2.2.2.2.2.2.2.2.2; obtain ⟨qa8_0, qa8_1, qa8_2, qa8_3, qa8_4, qa8_5, qa8_6, qa8_7⟩ := Blk8.all q8; obtain ⟨qa9_0, qa9_1, qa9_2, qa9_3, qa9_4, qa9_5, qa9_6, qa9_7⟩ := Blk8.all q9; go_simp; try (with_reducible rfl))
    simp only [List.set_cons_zero, List.set_cons_succ]
    refine wpAnyT_ready (rs := [27]) (by kernel_rfl) (by simp) ?_
    refine AllReadyT.cons 0 (by kernel_rfl) (o := _) rfl (fun K hK => ?_) AllReadyT.nil
    try clear hb
    go_simp
    (go_at_call 33; refine (minus_calls v u _).mono ?_; rintro e wn ⟨rfl, hb⟩)
    refine hK.out _ _ ?hsr1_30 (fun hH2 => ?hrr1_30)
    case hsr1_30 => exact S2i0 (by have hG := hH; replace hG := S2o0 hG; (try dsimp only at hG); have q0 := hG.1; have q1 := hG.2.1; have q2 := hG.2.2.1; have q3 := hG.2.2.2.1; have q4 := hG.2.2.2.2.1; have q5 := hG.2.2.2.2.2.1; have q6 := hG.2.2.2.2.2.2.1; have q7 := hG.2.2.2.2.2.2.2.1; have q8 := hG.2.2.2.2.2.2.2.2.1; have q9 := hG.2.2.2.2.2.2.2.2.2.1; have q10 := hG.2.2.2.2.2.2.2.2.2.2; exact ⟨keepCell hb q0, keepCell hb q1, keepCell hb q2, keepCell hb q3, keepCell hb q4, keepCell hb q5, keepCell hb q6, keepCell hb q7, keepBlk hb q8, keepBlk hb q9, keepBelow hb q10⟩)
    clear hK K hH
    have hH := hH2
    clear hH2
    try simp only [Act.put, List.setIfInBounds_toArray, List.set_cons_zero, List.set_cons_succ]
    refine wpAnyT_ready (rs := [30]) (by kernel_rfl) (by simp) ?_
    refine AllReadyT.cons 0 (by kernel_rfl) (o := _) rfl (fun K hK => ?_) AllReadyT.nil
    try clear hb
    go_simp
    (go_at_call 40; refine (bsub_calls v u _).mono ?_; rintro e wn ⟨rfl, hb⟩)
    refine hK.out _ _ ?hsr1_31 (fun hH2 => ?hrr1_31)
    case hsr1_31 => exact S2i0 (by have hG := hH; replace hG := S2o0 hG; (try dsimp only at hG); have q0 := hG.1; have q1 := hG.2.1; have q2 := hG.2.2.1; have q3 := hG.2.2.2.1; have q4 := hG.2.2.2.2.1; have q5 := hG.2.2.2.2.2.1; have q6 := hG.2.2.2.2.2.2.1; have q7 := hG.2.2.2.2.2.2.2.1; have q8 := hG.2.2.2.2.2.2.2.2.1; have q9 := hG.2.2.2.2.2.2.2.2.2.1; have q10 := hG.2.2.2.2.2.2.2.2.2.2; exact ⟨keepCell hb q0, keepCell hb q1, keepCell hb q2, keepCell hb q3, keepCell hb q4, keepCell hb q5, keepCell hb q6, keepCell hb q7, keepBlk hb q8, keepBlk hb q9, keepBelow hb q10⟩)
    clear hK K hH
    have hH := hH2
    clear hH2
    try simp only [Act.put, List.setIfInBounds_toArray, List.set_cons_zero, List.set_cons_succ]
    refine wpAnyT_ready (rs := [31]) (by kernel_rfl) (by simp) ?_
    refine AllReadyT.cons 0 (by kernel_rfl) (o := _) rfl (fun K hK => ?_) AllReadyT.nil
    try clear hb
    go_simp
    (go_at_call 38; refine (wide_calls (v - u) _).mono ?_; rintro e wn ⟨rfl, hb⟩)
    refine hK.out _ _ ?hsr1_32 (fun hH2 => ?hrr1_32)
    case hsr1_32 => exact S2i0 (by have hG := hH; replace hG := S2o0 hG; (try dsimp only at hG); have q0 := hG.1; have q1 := hG.2.1; have q2 := hG.2.2.1; have q3 := hG.2.2.2.1; have q4 := hG.2.2.2.2.1; have q5 := hG.2.2.2.2.2.1; have q6 := hG.2.2.2.2.2.2.1; have q7 := hG.2.2.2.2.2.2.2.1; have q8 := hG.2.2.2.2.2.2.2.2.1; have q9 := hG.2.2.2.2.2.2.2.2.2.1; have q10 := hG.2.2.2.2.2.2.2.2.2.2; exact ⟨keepCell hb q0, keepCell hb q1, keepCell hb q2, keepCell hb q3, keepCell hb q4, keepCell hb q5, keepCell hb q6, keepCell hb q7, keepBlk hb q8, keepBlk hb q9, keepBelow hb q10⟩)
    clear hK K hH
    have hH := hH2
    clear hH2
    try simp only [Act.put, List.setIfInBounds_toArray, List.set_cons_zero, List.set_cons_succ]
    refine T_take 32 56 10 0 (v := ?vr1_33) rfl (by kernel_rfl) (by kernel_rfl) hWr1 (by kernel_rfl) (by kernel_rfl) (by kernel_rfl) (by kernel_rfl) (by kernel_rfl) (by kernel_rfl) (fun _ _ _ _ h => h) (by kernel_rfl) ?hyr1_33 hH ?_
    case hyr1_33 => (intro w' hSw; clear hSw; go_simp; try (with_reducible rfl))
    simp only [List.set_cons_zero, List.set_cons_succ]
    refine T_take 33 57 9 0 (v := ?vr1_34) rfl (by kernel_rfl) (by kernel_rfl) hWr1 (by kernel_rfl) (by kernel_rfl) (by kernel_rfl) (by kernel_rfl) (by kernel_rfl) (by kernel_rfl) (fun _ _ _ _ h => h) (by kernel_rfl) ?hyr1_34 hH ?_
    case hyr1_34 => (intro w' hSw; clear hSw; go_simp; try (with_reducible rfl))
    simp only [List.set_cons_zero, List.set_cons_succ]
    refine T_take 34 58 8 0 (v := ?vr1_35) rfl (by kernel_rfl) (by kernel_rfl) hWr1 (by kernel_rfl) (by kernel_rfl) (by kernel_rfl) (by kernel_rfl) (by kernel_rfl) (by kernel_rfl) (fun _ _ _ _ h => h) (by kernel_rfl) ?hyr1_35 hH ?_
    case hyr1_35 => (intro w' hSw; clear hSw; go_simp; try (with_reducible rfl))
    simp only [List.set_cons_zero, List.set_cons_succ]
    refine T_take 35 59 7 0 (v := ?vr1_36) rfl (by kernel_rfl) (by kernel_rfl) hWr1 (by kernel_rfl) (by kernel_rfl) (by kernel_rfl) (by kernel_rfl) (by kernel_rfl) (by kernel_rfl) (fun _ _ _ _ h => h) (by kernel_rfl) ?hyr1_36 hH ?_
    case hyr1_36 => (intro w' hSw; replace hSw := S2o0 hSw; (try dsimp only at hSw); have q0 := hSw.1; have q1 := hSw.2.1; have q2 := hSw.2.2.1; have q3 := hSw.2.2.2.1; have q4 := hSw.2.2.2.2.1; have q5 := hSw.2.2.2.2.2.1; have q6 := hSw.2.2.2.2.2.2.1; have q7 := hSw.2.2.2.2.2.2.2.1; have q8 := hSw.2.2.2.2.2.2.2.2.1; have q9 := hSw.2.2.2.2.2.2.2.2.2.1; have q10 := hSw.2.2.2.2.2.2.2.2.2.2; obtain ⟨qa8_0, qa8_1, qa8_2, qa8_3, qa8_4, qa8_5, qa8_6, qa8_7⟩ := Blk8.all q8; obtain ⟨qa9_0, qa9_1, qa9_2, qa9_3, qa9_4, qa9_5, qa9_6, qa9_7⟩ := Blk8.all q9; go_simp; try (with_reducible rfl))
    simp only [List.set_cons_zero, List.set_cons_succ]
    refine T_take 36 60 6 0 (v := ?vr1_37) rfl (by kernel_rfl) (by kernel_rfl) hWr1 (by kernel_rfl) (by kernel_rfl) (by kernel_rfl) (by kernel_rfl) (by kernel_rfl) (by kernel_rfl) (fun _ _ _ _ h => h) (by kernel_rfl) ?hyr1_37 hH ?_
    case hyr1_37 => (intro w' hSw; replace hSw := S2o0 hSw; (try dsimp only at hSw); have q0 := hSw.1; have q1 := hSw.2.1; have q2 := hSw.2.2.1; have q3 := hSw.2.2.2.1; have q4 := hSw.2.2.2.2.1; have q5 := hSw.2.2.2.2.2.1; have q6 := hSw.2.2.2.2.2.2.1; have q7 := hSw.2.2.2.2.2.2.2.1; have q8 := hSw.2.2.2.2.2.2.2.2.1; have q9 := hSw.2.2.2.2.2.2.2.2.2.1; have q10 := hSw.2.2.2.2.2.2.2.2.2.2; obtain ⟨qa8_0, qa8_1, qa8_2, qa8_3, qa8_4, qa8_5, qa8_6, qa8_7⟩ := Blk8.all q8; obtain ⟨qa9_0, qa9_1, qa9_2, qa9_3, qa9_4, qa9_5, qa9_6, qa9_7⟩ := Blk8.all q9; go_simp; try (with_reducible rfl))
    simp only [List.set_cons_zero, List.set_cons_succ]
    refine T_take 38 62 5 0 (v := ?vr1_38) rfl (by kernel_rfl) (by kernel_rfl) hWr1 (by kernel_rfl) (by kernel_rfl) (by kernel_rfl) (by kernel_rfl) (by kernel_rfl) (by kernel_rfl) (fun _ _ _ _ h => h) (by kernel_rfl) ?hyr1_38 hH ?_
    case hyr1_38 => (intro w' hSw; replace hSw := S2o0 hSw; (try dsimp only at hSw); have q0 := hSw.1; have q1 := hSw.2.1; have q2 := hSw.2.2.1; have q3 := hSw.2.2.2.1; have q4 := hSw.2.2.2.2.1; have q5 := hSw.2.2.2.2.2.1; have q6 := hSw.2.2.2.2.2.2.1; have q7 := hSw.2.2.2.2.2.2.2.1; have q8 := hSw.2.2.2.2.2.2.2.2.1; have q9 := hSw.2.2.2.2.2.2.2.2.2.1; have q10 := hSw.2.2.2.2.2.2.2.2.2.2; obtain ⟨qa8_0, qa8_1, qa8_2, qa8_3, qa8_4, qa8_5, qa8_6, qa8_7⟩ := Blk8.all q8; obtain ⟨qa9_0, qa9_1, qa9_2, qa9_3, qa9_4, qa9_5, qa9_6, qa9_7⟩ := Blk8.all q9; go_simp; try (with_reducible rfl))
    simp only [List.set_cons_zero, List.set_cons_succ]
    refine T_take 39 63 4 0 (v := ?vr1_39) rfl (by kernel_rfl) (by kernel_rfl) hWr1 (by kernel_rfl) (by kernel_rfl) (by kernel_rfl) (by kernel_rfl) (by kernel_rfl) (by kernel_rfl) (fun _ _ _ _ h => h) (by kernel_rfl) ?hyr1_39 hH ?_
    case hyr1_39 => (intro w' hSw; replace hSw := S2o0 hSw; (try dsimp only at hSw); have q0 := hSw.1; have q1 := hSw.2.1; have q2 := hSw.2.2.1; have q3 := hSw.2.2.2.1; have q4 := hSw.2.2.2.2.1; have q5 := hSw.2.2.2.2.2.1; have q6 := hSw.2.2.2.2.2.2.1; have q7 := hSw.2.2.2.2.2.2.2.1; have q8 := hSw.2.2.2.2.2.2.2.2.1; have q9 := hSw.2.2.2.2.2.2.2.2.2.1; have q10 := hSw.2.2.2.2.2.2.2.2.2.2; obtain ⟨qa8_0, qa8_1, qa8_2, qa8_3, qa8_4, qa8_5, qa8_6, qa8_7⟩ := Blk8.all q8; obtain ⟨qa9_0, qa9_1, qa9_2, qa9_3, qa9_4, qa9_5, qa9_6, qa9_7⟩ := Blk8.all q9; go_simp; try (with_reducible rfl))
    simp only [List.set_cons_zero, List.set_cons_succ]
    refine wpAnyT_ready (rs := [37]) (by kernel_rfl) (by simp) ?_
    refine AllReadyT.cons 0 (by kernel_rfl) (o := _) rfl (fun K hK => ?_) AllReadyT.nil
    try clear hb
    go_simp
    (go_at_call 29; refine (wcmp_z v u RV.out.1 RV.out.2 RU.out.1 RU.out.2 _).mono ?_; rintro e wn ⟨rfl, hb⟩)
    refine hK.out _ _ ?hsr1_40 (fun hH2 => ?hrr1_40)
    case hsr1_40 => exact S2i0 (by have hG := hH; replace hG := S2o0 hG; (try dsimp only at hG); have q0 := hG.1; have q1 := hG.2.1; have q2 := hG.2.2.1; have q3 := hG.2.2.2.1; have q4 := hG.2.2.2.2.1; have q5 := hG.2.2.2.2.2.1; have q6 := hG.2.2.2.2.2.2.1; have q7 := hG.2.2.2.2.2.2.2.1; have q8 := hG.2.2.2.2.2.2.2.2.1; have q9 := hG.2.2.2.2.2.2.2.2.2.1; have q10 := hG.2.2.2.2.2.2.2.2.2.2; exact ⟨keepCell hb q0, keepCell hb q1, keepCell hb q2, keepCell hb q3, keepCell hb q4, keepCell hb q5, keepCell hb q6, keepCell hb q7, keepBlk hb q8, keepBlk hb q9, keepBelow hb q10⟩)
    clear hK K hH
    have hH := hH2
    clear hH2
    try simp only [Act.put, List.setIfInBounds_toArray, List.set_cons_zero, List.set_cons_succ]
    refine wpAnyT_ready (rs := [40]) (by kernel_rfl) (by simp) ?_
    refine AllReadyT.cons 0 (by kernel_rfl) (o := _) rfl (fun K hK => ?_) AllReadyT.nil
    try clear hb
    go_simp
    (go_at_call 41; refine (bcmp_calls v u RV.out.1 RV.out.2 RU.out.1 RU.out.2 _).mono ?_; rintro e wn ⟨rfl, hb⟩)
    refine hK.out _ _ ?hsr1_41 (fun hH2 => ?hrr1_41)
    case hsr1_41 => exact S2i0 (by have hG := hH; replace hG := S2o0 hG; (try dsimp only at hG); have q0 := hG.1; have q1 := hG.2.1; have q2 := hG.2.2.1; have q3 := hG.2.2.2.1; have q4 := hG.2.2.2.2.1; have q5 := hG.2.2.2.2.2.1; have q6 := hG.2.2.2.2.2.2.1; have q7 := hG.2.2.2.2.2.2.2.1; have q8 := hG.2.2.2.2.2.2.2.2.1; have q9 := hG.2.2.2.2.2.2.2.2.2.1; have q10 := hG.2.2.2.2.2.2.2.2.2.2; exact ⟨keepCell hb q0, keepCell hb q1, keepCell hb q2, keepCell hb q3, keepCell hb q4, keepCell hb q5, keepCell hb q6, keepCell hb q7, keepBlk hb q8, keepBlk hb q9, keepBelow hb q10⟩)
    clear hK K hH
    have hH := hH2
    clear hH2
    try simp only [Act.put, List.setIfInBounds_toArray, List.set_cons_zero, List.set_cons_succ]
    refine T_take 41 65 1 0 (v := ?vr1_42) rfl (by kernel_rfl) (by kernel_rfl) hWr1 (by kernel_rfl) (by kernel_rfl) (by kernel_rfl) (by kernel_rfl) (by kernel_rfl) (by kernel_rfl) (fun _ _ _ _ h => h) (by kernel_rfl) ?hyr1_42 hH ?_
    case hyr1_42 => (intro w' hSw; clear hSw; go_simp; try (with_reducible rfl))
    simp only [List.set_cons_zero, List.set_cons_succ]
    refine T_take 42 66 0 0 (v := ?vr1_43) rfl (by kernel_rfl) (by kernel_rfl) hWr1 (by kernel_rfl) (by kernel_rfl) (by kernel_rfl) (by kernel_rfl) (by kernel_rfl) (by kernel_rfl) (fun _ _ _ _ h => h) (by kernel_rfl) ?hyr1_43 hH ?_
    case hyr1_43 => (intro w' hSw; clear hSw; go_simp; try (with_reducible rfl))
    simp only [List.set_cons_zero, List.set_cons_succ]
    refine wpAnyT_done (by kernel_rfl) ?_ _
    refine NoPanic.normal ?_
    clear hb hWr1 S1 H3 H4 hB4
    replace hH := S2o0 hH
    (try dsimp only at hH)
    have p0 := hH.1
    have p1 := hH.2.1
    have p2 := hH.2.2.1
    have p3 := hH.2.2.2.1
    have p4 := hH.2.2.2.2.1
    have p5 := hH.2.2.2.2.2.1
    have p6 := hH.2.2.2.2.2.2.1
    have p7 := hH.2.2.2.2.2.2.2.1
    have p8 := hH.2.2.2.2.2.2.2.2.1
    have p9 := hH.2.2.2.2.2.2.2.2.2.1
    have p10 := hH.2.2.2.2.2.2.2.2.2.2
    clear hH
    have T3 := hid p8
    have T4 := hid p9
    clear p9
    go_wp2_with fail
    have s1 : wn.drew.cell? ⟨w.heap.size, 0, none⟩ = some (.int .i64 (hiW v)) ∧ wn.drew.cell? ⟨w.heap.size, 1, none⟩ = some (.int .u64 (loW v)) ∧ wn.drew.cell? ⟨w.heap.size + 1, 0, none⟩ = some (.int .i64 (hiW u)) ∧ wn.drew.cell? ⟨w.heap.size + 1, 1, none⟩ = some (.int .u64 (loW u)) ∧ wn.drew.cell? ⟨w.heap.size + 2, 0, none⟩ = some (.int .i64 a) ∧ wn.drew.cell? ⟨w.heap.size + 2, 1, none⟩ = some (.int .i64 b) ∧ wn.drew.cell? ⟨w.heap.size + 3, 0, none⟩ = some (.int .i64 c) ∧ wn.drew.cell? ⟨w.heap.size + 3, 1, none⟩ = some (.int .i64 d) := ⟨by go_simp, by go_simp, by go_simp, by go_simp, by go_simp, by go_simp, by go_simp, by go_simp⟩
    have S1 := hid s1
    have hB4 := p10
    clear s1 p0 p1 p2 p3 p4 p5 p6 p7 p8 p10
    refine wp_region_noPanic ?_
    refine wp_region_T (S := (S2 (fun w' => w'.cell? ⟨w.heap.size, 0, none⟩ = some (.int .i64 (hiW v)) ∧ w'.cell? ⟨w.heap.size, 1, none⟩ = some (.int .u64 (loW v)) ∧ w'.cell? ⟨w.heap.size + 1, 0, none⟩ = some (.int .i64 (hiW u)) ∧ w'.cell? ⟨w.heap.size + 1, 1, none⟩ = some (.int .u64 (loW u)) ∧ w'.cell? ⟨w.heap.size + 2, 0, none⟩ = some (.int .i64 a) ∧ w'.cell? ⟨w.heap.size + 2, 1, none⟩ = some (.int .i64 b) ∧ w'.cell? ⟨w.heap.size + 3, 0, none⟩ = some (.int .i64 c) ∧ w'.cell? ⟨w.heap.size + 3, 1, none⟩ = some (.int .i64 d) ∧ Blk8 w' (g3) (digs v) ∧ Blk8 w' (g4) (digs u) ∧ Below w.heap.size w w'))) (T := (fun _ => 0)) (by kernel_rfl) (S2i0 ⟨S1.out.1, S1.out.2.1, S1.out.2.2.1, S1.out.2.2.2.1, S1.out.2.2.2.2.1, S1.out.2.2.2.2.2.1, S1.out.2.2.2.2.2.2.1, S1.out.2.2.2.2.2.2.2, T3.out.drew, T4.out.drew, hB4.drew⟩) (fun hH => ?_)
    have hWr2 : Weaker (S2 (fun w' => w'.cell? ⟨w.heap.size, 0, none⟩ = some (.int .i64 (hiW v)) ∧ w'.cell? ⟨w.heap.size, 1, none⟩ = some (.int .u64 (loW v)) ∧ w'.cell? ⟨w.heap.size + 1, 0, none⟩ = some (.int .i64 (hiW u)) ∧ w'.cell? ⟨w.heap.size + 1, 1, none⟩ = some (.int .u64 (loW u)) ∧ w'.cell? ⟨w.heap.size + 2, 0, none⟩ = some (.int .i64 a) ∧ w'.cell? ⟨w.heap.size + 2, 1, none⟩ = some (.int .i64 b) ∧ w'.cell? ⟨w.heap.size + 3, 0, none⟩ = some (.int .i64 c) ∧ w'.cell? ⟨w.heap.size + 3, 1, none⟩ = some (.int .i64 d) ∧ Blk8 w' (g3) (digs v) ∧ Blk8 w' (g4) (digs u) ∧ Below w.heap.size w w')) := weaker2 _
    refine T_take 0 67 17 0 (v := ?vr2_1) rfl (by kernel_rfl) (by kernel_rfl) hWr2 (by kernel_rfl) (by kernel_rfl) (by kernel_rfl) (by kernel_rfl) (by kernel_rfl) (by kernel_rfl) (fun _ _ _ _ h => h) (by kernel_rfl) ?hyr2_1 hH ?_
    case hyr2_1 => (intro w' hSw; replace hSw := S2o0 hSw; (try dsimp only at hSw); have q0 := hSw.1; have q1 := hSw.2.1; have q2 := hSw.2.2.1; have q3 := hSw.2.2.2.1; have q4 := hSw.2.2.2.2.1; have q5 := hSw.2.2.2.2.2.1; have q6 := hSw.2.2.2.2.2.2.1; have q7 := hSw.2.2.2.2.2.2.2.1; have q8 := hSw.2.2.2.2.2.2.2.2.1; have q9 := hSw.2.2.2.2.2.2.2.2.2.1; have q10 := hSw.2.2.2.2.2.2.2.2.2.2; obtain ⟨qa8_0, qa8_1, qa8_2, qa8_3, qa8_4, qa8_5, qa8_6, qa8_7⟩ := Blk8.all q8; obtain ⟨qa9_0, qa9_1, qa9_2, qa9_3, qa9_4, qa9_5, qa9_6, qa9_7⟩ := Blk8.all q9; go_simp; try (with_reducible rfl))
    simp only [List.set_cons_zero, List.set_cons_succ]
    refine T_take 1 68 16 0 (v := ?vr2_2) rfl (by kernel_rfl) (by kernel_rfl) hWr2 (by kernel_rfl) (by kernel_rfl) (by kernel_rfl) (by kernel_rfl) (by kernel_rfl) (by kernel_rfl) (fun _ _ _ _ h => h) (by kernel_rfl) ?hyr2_2 hH ?_
    case hyr2_2 => (intro w' hSw; replace hSw := S2o0 hSw; (try dsimp only at hSw); have q0 := hSw.1; have q1 := hSw.2.1; have q2 := hSw.2.2.1; have q3 := hSw.2.2.2.1; have q4 := hSw.2.2.2.2.1; have q5 := hSw.2.2.2.2.2.1; have q6 := hSw.2.2.2.2.2.2.1; have q7 := hSw.2.2.2.2.2.2.2.1; have q8 := hSw.2.2.2.2.2.2.2.2.1; have q9 := hSw.2.2.2.2.2.2.2.2.2.1; have q10 := hSw.2.2.2.2.2.2.2.2.2.2; obtain ⟨qa8_0, qa8_1, qa8_2, qa8_3, qa8_4, qa8_5, qa8_6, qa8_7⟩ := Blk8.all q8; obtain ⟨qa9_0, qa9_1, qa9_2, qa9_3, qa9_4, qa9_5, qa9_6, qa9_7⟩ := Blk8.all q9; go_simp; try (with_reducible rfl))
    simp only [List.set_cons_zero, List.set_cons_succ]
    refine T_take 3 70 15 0 (v := ?vr2_3) rfl (by kernel_rfl) (by kernel_rfl) hWr2 (by kernel_rfl) (by kernel_rfl) (by kernel_rfl) (by kernel_rfl) (by kernel_rfl) (by kernel_rfl) (fun _ _ _ _ h => h) (by kernel_rfl) ?hyr2_3 hH ?_
    case hyr2_3 => (intro w' hSw; replace hSw := S2o0 hSw; (try dsimp only at hSw); have q0 := hSw.1; have q1 := hSw.2.1; have q2 := hSw.2.2.1; have q3 := hSw.2.2.2.1; have q4 := hSw.2.2.2.2.1; have q5 := hSw.2.2.2.2.2.1; have q6 := hSw.2.2.2.2.2.2.1; have q7 := hSw.2.2.2.2.2.2.2.1; have q8 := hSw.2.2.2.2.2.2.2.2.1; have q9 := hSw.2.2.2.2.2.2.2.2.2.1; have q10 := hSw.2.2.2.2.2.2.2.2.2.2; obtain ⟨qa8_0, qa8_1, qa8_2, qa8_3, qa8_4, qa8_5, qa8_6, qa8_7⟩ := Blk8.all q8; obtain ⟨qa9_0, qa9_1, qa9_2, qa9_3, qa9_4, qa9_5, qa9_6, qa9_7⟩ := Blk8.all q9; go_simp; try (with_reducible rfl))
    simp only [List.set_cons_zero, List.set_cons_succ]
    refine T_take 4 71 14 0 (v := ?vr2_4) rfl (by kernel_rfl) (by kernel_rfl) hWr2 (by kernel_rfl) (by kernel_rfl) (by kernel_rfl) (by kernel_rfl) (by kernel_rfl) (by kernel_rfl) (fun _ _ _ _ h => h) (by kernel_rfl) ?hyr2_4 hH ?_
    case hyr2_4 => (intro w' hSw; replace hSw := S2o0 hSw; (try dsimp only at hSw); have q0 := hSw.1; have q1 := hSw.2.1; have q2 := hSw.2.2.1; have q3 := hSw.2.2.2.1; have q4 := hSw.2.2.2.2.1; have q5 := hSw.2.2.2.2.2.1; have q6 := hSw.2.2.2.2.2.2.1; have q7 := hSw.2.2.2.2.2.2.2.1; have q8 := hSw.2.2.2.2.2.2.2.2.1; have q9 := hSw.2.2.2.2.2.2.2.2.2.1; have q10 := hSw.2.2.2.2.2.2.2.2.2.2; obtain ⟨qa8_0, qa8_1, qa8_2, qa8_3, qa8_4, qa8_5, qa8_6, qa8_7⟩ := Blk8.all q8; obtain ⟨qa9_0, qa9_1, qa9_2, qa9_3, qa9_4, qa9_5, qa9_6, qa9_7⟩ := Blk8.all q9; go_simp; try (with_reducible rfl))
    simp only [List.set_cons_zero, List.set_cons_succ]
    refine wpAnyT_ready (rs := [2]) (by kernel_rfl) (by simp) ?_
    refine AllReadyT.cons 0 (by kernel_rfl) (o := _) rfl (fun K hK => ?_) AllReadyT.nil
    try clear hb
    go_simp
    (go_at_call 28; refine (pdot_calls a b c d RA.out RB.out RC.out RD.out _).mono ?_; rintro e wm ⟨rfl, hb⟩)
    refine hK.out _ _ ?hsr2_5 (fun hH2 => ?hrr2_5)
    case hsr2_5 => exact S2i0 (by have hG := hH; replace hG := S2o0 hG; (try dsimp only at hG); have q0 := hG.1; have q1 := hG.2.1; have q2 := hG.2.2.1; have q3 := hG.2.2.2.1; have q4 := hG.2.2.2.2.1; have q5 := hG.2.2.2.2.2.1; have q6 := hG.2.2.2.2.2.2.1; have q7 := hG.2.2.2.2.2.2.2.1; have q8 := hG.2.2.2.2.2.2.2.2.1; have q9 := hG.2.2.2.2.2.2.2.2.2.1; have q10 := hG.2.2.2.2.2.2.2.2.2.2; exact ⟨keepCell hb q0, keepCell hb q1, keepCell hb q2, keepCell hb q3, keepCell hb q4, keepCell hb q5, keepCell hb q6, keepCell hb q7, keepBlk hb q8, keepBlk hb q9, keepBelow hb q10⟩)
    clear hK K hH
    have hH := hH2
    clear hH2
    try simp only [Act.put, List.setIfInBounds_toArray, List.set_cons_zero, List.set_cons_succ]
    refine wpAnyT_ready (rs := [5]) (by kernel_rfl) (by simp) ?_
    refine AllReadyT.cons 0 (by kernel_rfl) (o := _) rfl (fun K hK => ?_) AllReadyT.nil
    try clear hb
    go_simp
    (go_at_call 42; refine (rdot_calls a b c d RA.out RB.out RC.out RD.out _).mono ?_; rintro e wm ⟨rfl, hb⟩)
    refine hK.out _ _ ?hsr2_6 (fun hH2 => ?hrr2_6)
    case hsr2_6 => exact S2i0 (by have hG := hH; replace hG := S2o0 hG; (try dsimp only at hG); have q0 := hG.1; have q1 := hG.2.1; have q2 := hG.2.2.1; have q3 := hG.2.2.2.1; have q4 := hG.2.2.2.2.1; have q5 := hG.2.2.2.2.2.1; have q6 := hG.2.2.2.2.2.2.1; have q7 := hG.2.2.2.2.2.2.2.1; have q8 := hG.2.2.2.2.2.2.2.2.1; have q9 := hG.2.2.2.2.2.2.2.2.2.1; have q10 := hG.2.2.2.2.2.2.2.2.2.2; exact ⟨keepCell hb q0, keepCell hb q1, keepCell hb q2, keepCell hb q3, keepCell hb q4, keepCell hb q5, keepCell hb q6, keepCell hb q7, keepBlk hb q8, keepBlk hb q9, keepBelow hb q10⟩)
    clear hK K hH
    have hH := hH2
    clear hH2
    try simp only [Act.put, List.setIfInBounds_toArray, List.set_cons_zero, List.set_cons_succ]
    refine wpAnyT_ready (rs := [6]) (by kernel_rfl) (by simp) ?_
    refine AllReadyT.cons 0 (by kernel_rfl) (o := _) rfl (fun K hK => ?_) AllReadyT.nil
    try clear hb
    go_simp
    (go_at_call 38; refine (wide_calls (a * c + b * d) _).mono ?_; rintro e wm ⟨rfl, hb⟩)
    refine hK.out _ _ ?hsr2_7 (fun hH2 => ?hrr2_7)
    case hsr2_7 => exact S2i0 (by have hG := hH; replace hG := S2o0 hG; (try dsimp only at hG); have q0 := hG.1; have q1 := hG.2.1; have q2 := hG.2.2.1; have q3 := hG.2.2.2.1; have q4 := hG.2.2.2.2.1; have q5 := hG.2.2.2.2.2.1; have q6 := hG.2.2.2.2.2.2.1; have q7 := hG.2.2.2.2.2.2.2.1; have q8 := hG.2.2.2.2.2.2.2.2.1; have q9 := hG.2.2.2.2.2.2.2.2.2.1; have q10 := hG.2.2.2.2.2.2.2.2.2.2; exact ⟨keepCell hb q0, keepCell hb q1, keepCell hb q2, keepCell hb q3, keepCell hb q4, keepCell hb q5, keepCell hb q6, keepCell hb q7, keepBlk hb q8, keepBlk hb q9, keepBelow hb q10⟩)
    clear hK K hH
    have hH := hH2
    clear hH2
    try simp only [Act.put, List.setIfInBounds_toArray, List.set_cons_zero, List.set_cons_succ]
    refine T_take 7 74 10 0 (v := ?vr2_8) rfl (by kernel_rfl) (by kernel_rfl) hWr2 (by kernel_rfl) (by kernel_rfl) (by kernel_rfl) (by kernel_rfl) (by kernel_rfl) (by kernel_rfl) (fun _ _ _ _ h => h) (by kernel_rfl) ?hyr2_8 hH ?_
    case hyr2_8 => (intro w' hSw; clear hSw; go_simp; try (with_reducible rfl))
    simp only [List.set_cons_zero, List.set_cons_succ]
    refine T_take 8 75 9 0 (v := ?vr2_9) rfl (by kernel_rfl) (by kernel_rfl) hWr2 (by kernel_rfl) (by kernel_rfl) (by kernel_rfl) (by kernel_rfl) (by kernel_rfl) (by kernel_rfl) (fun _ _ _ _ h => h) (by kernel_rfl) ?hyr2_9 hH ?_
    case hyr2_9 => (intro w' hSw; clear hSw; go_simp; try (with_reducible rfl))
    simp only [List.set_cons_zero, List.set_cons_succ]
    refine T_take 9 76 8 0 (v := ?vr2_10) rfl (by kernel_rfl) (by kernel_rfl) hWr2 (by kernel_rfl) (by kernel_rfl) (by kernel_rfl) (by kernel_rfl) (by kernel_rfl) (by kernel_rfl) (fun _ _ _ _ h => h) (by kernel_rfl) ?hyr2_10 hH ?_
    case hyr2_10 => (intro w' hSw; replace hSw := S2o0 hSw; (try dsimp only at hSw); have q0 := hSw.1; have q1 := hSw.2.1; have q2 := hSw.2.2.1; have q3 := hSw.2.2.2.1; have q4 := hSw.2.2.2.2.1; have q5 := hSw.2.2.2.2.2.1; have q6 := hSw.2.2.2.2.2.2.1; have q7 := hSw.2.2.2.2.2.2.2.1; have q8 := hSw.2.2.2.2.2.2.2.2.1; have q9 := hSw.2.2.2.2.2.2.2.2.2.1; have q10 := hSw.2.2.2.2.2.2.2.2.2.2; obtain ⟨qa8_0, qa8_1, qa8_2, qa8_3, qa8_4, qa8_5, qa8_6, qa8_7⟩ := Blk8.all q8; obtain ⟨qa9_0, qa9_1, qa9_2, qa9_3, qa9_4, qa9_5, qa9_6, qa9_7⟩ := Blk8.all q9; go_simp; try (with_reducible rfl))
    simp only [List.set_cons_zero, List.set_cons_succ]
    refine T_take 10 77 7 0 (v := ?vr2_11) rfl (by kernel_rfl) (by kernel_rfl) hWr2 (by kernel_rfl) (by kernel_rfl) (by kernel_rfl) (by kernel_rfl) (by kernel_rfl) (by kernel_rfl) (fun _ _ _ _ h => h) (by kernel_rfl) ?hyr2_11 hH ?_
    case hyr2_11 => (intro w' hSw; replace hSw := S2o0 hSw; (try dsimp only at hSw); have q0 := hSw.1; have q1 := hSw.2.1; have q2 := hSw.2.2.1; have q3 := hSw.2.2.2.1; have q4 := hSw.2.2.2.2.1; have q5 := hSw.2.2.2.2.2.1; have q6 := hSw.2.2.2.2.2.2.1; have q7 := hSw.2.2.2.2.2.2.2.1; have q8 := hSw.2.2.2.2.2.2.2.2.1; have q9 := hSw.2.2.2.2.2.2.2.2.2.1; have q10 := hSw.2.2.2.2.2.2.2.2.2.2; obtain ⟨qa8_0, qa8_1, qa8_2, qa8_3, qa8_4, qa8_5, qa8_6, qa8_7⟩ := Blk8.all q8; obtain ⟨qa9_0, qa9_1, qa9_2, qa9_3, qa9_4, qa9_5, qa9_6, qa9_7⟩ := Blk8.all q9; go_simp; try (with_reducible rfl))
    simp only [List.set_cons_zero, List.set_cons_succ]
    refine T_take 12 79 6 0 (v := ?vr2_12) rfl (by kernel_rfl) (by kernel_rfl) hWr2 (by kernel_rfl) (by kernel_rfl) (by kernel_rfl) (by kernel_rfl) (by kernel_rfl) (by kernel_rfl) (fun _ _ _ _ h => h) (by kernel_rfl) ?hyr2_12 hH ?_
    case hyr2_12 => (intro w' hSw; replace hSw := S2o0 hSw; (try dsimp only at hSw); have q0 := hSw.1; have q1 := hSw.2.1; have q2 := hSw.2.2.1; have q3 := hSw.2.2.2.1; have q4 := hSw.2.2.2.2.1; have q5 := hSw.2.2.2.2.2.1; have q6 := hSw.2.2.2.2.2.2.1; have q7 := hSw.2.2.2.2.2.2.2.1; have q8 := hSw.2.2.2.2.2.2.2.2.1; have q9 := hSw.2.2.2.2.2.2.2.2.2.1; have q10 := hSw.2.2.2.2.2.2.2.2.2.2; obtain ⟨qa8_0, qa8_1, qa8_2, qa8_3, qa8_4, qa8_5, qa8_6, qa8_7⟩ := Blk8.all q8; obtain ⟨qa9_0, qa9_1, qa9_2, qa9_3, qa9_4, qa9_5, qa9_6, qa9_7⟩ := Blk8.all q9; go_simp; try (with_reducible rfl))
    simp only [List.set_cons_zero, List.set_cons_succ]
    refine T_take 13 80 5 0 (v := ?vr2_13) rfl (by kernel_rfl) (by kernel_rfl) hWr2 (by kernel_rfl) (by kernel_rfl) (by kernel_rfl) (by kernel_rfl) (by kernel_rfl) (by kernel_rfl) (fun _ _ _ _ h => h) (by kernel_rfl) ?hyr2_13 hH ?_
    case hyr2_13 => (intro w' hSw; replace hSw := S2o0 hSw; (try dsimp only at hSw); have q0 := hSw.1; have q1 := hSw.2.1; have q2 := hSw.2.2.1; have q3 := hSw.2.2.2.1; have q4 := hSw.2.2.2.2.1; have q5 := hSw.2.2.2.2.2.1; have q6 := hSw.2.2.2.2.2.2.1; have q7 := hSw.2.2.2.2.2.2.2.1; have q8 := hSw.2.2.2.2.2.2.2.2.1; have q9 := hSw.2.2.2.2.2.2.2.2.2.1; have q10 := hSw.2.2.2.2.2.2.2.2.2.2; obtain ⟨qa8_0, qa8_1, qa8_2, qa8_3, qa8_4, qa8_5, qa8_6, qa8_7⟩ := Blk8.all q8; obtain ⟨qa9_0, qa9_1, qa9_2, qa9_3, qa9_4, qa9_5, qa9_6, qa9_7⟩ := Blk8.all q9; go_simp; try (with_reducible rfl))
    simp only [List.set_cons_zero, List.set_cons_succ]
    refine wpAnyT_ready (rs := [11]) (by kernel_rfl) (by simp) ?_
    refine AllReadyT.cons 0 (by kernel_rfl) (o := _) rfl (fun K hK => ?_) AllReadyT.nil
    try clear hb
    go_simp
    (go_at_call 43; refine (pcross_calls a b c d RA.out RB.out RC.out RD.out _).mono ?_; rintro e wm ⟨rfl, hb⟩)
    refine hK.out _ _ ?hsr2_14 (fun hH2 => ?hrr2_14)
    case hsr2_14 => exact S2i0 (by have hG := hH; replace hG := S2o0 hG; (try dsimp only at hG); have q0 := hG.1; have q1 := hG.2.1; have q2 := hG.2.2.1; have q3 := hG.2.2.2.1; have q4 := hG.2.2.2.2.1; have q5 := hG.2.2.2.2.2.1; have q6 := hG.2.2.2.2.2.2.1; have q7 := hG.2.2.2.2.2.2.2.1; have q8 := hG.2.2.2.2.2.2.2.2.1; have q9 := hG.2.2.2.2.2.2.2.2.2.1; have q10 := hG.2.2.2.2.2.2.2.2.2.2; exact ⟨keepCell hb q0, keepCell hb q1, keepCell hb q2, keepCell hb q3, keepCell hb q4, keepCell hb q5, keepCell hb q6, keepCell hb q7, keepBlk hb q8, keepBlk hb q9, keepBelow hb q10⟩)
    clear hK K hH
    have hH := hH2
    clear hH2
    try simp only [Act.put, List.setIfInBounds_toArray, List.set_cons_zero, List.set_cons_succ]
    refine wpAnyT_ready (rs := [14]) (by kernel_rfl) (by simp) ?_
    refine AllReadyT.cons 0 (by kernel_rfl) (o := _) rfl (fun K hK => ?_) AllReadyT.nil
    try clear hb
    go_simp
    (go_at_call 44; refine (rcross_calls a b c d RA.out RB.out RC.out RD.out _).mono ?_; rintro e wm ⟨rfl, hb⟩)
    refine hK.out _ _ ?hsr2_15 (fun hH2 => ?hrr2_15)
    case hsr2_15 => exact S2i0 (by have hG := hH; replace hG := S2o0 hG; (try dsimp only at hG); have q0 := hG.1; have q1 := hG.2.1; have q2 := hG.2.2.1; have q3 := hG.2.2.2.1; have q4 := hG.2.2.2.2.1; have q5 := hG.2.2.2.2.2.1; have q6 := hG.2.2.2.2.2.2.1; have q7 := hG.2.2.2.2.2.2.2.1; have q8 := hG.2.2.2.2.2.2.2.2.1; have q9 := hG.2.2.2.2.2.2.2.2.2.1; have q10 := hG.2.2.2.2.2.2.2.2.2.2; exact ⟨keepCell hb q0, keepCell hb q1, keepCell hb q2, keepCell hb q3, keepCell hb q4, keepCell hb q5, keepCell hb q6, keepCell hb q7, keepBlk hb q8, keepBlk hb q9, keepBelow hb q10⟩)
    clear hK K hH
    have hH := hH2
    clear hH2
    try simp only [Act.put, List.setIfInBounds_toArray, List.set_cons_zero, List.set_cons_succ]
    refine wpAnyT_ready (rs := [15]) (by kernel_rfl) (by simp) ?_
    refine AllReadyT.cons 0 (by kernel_rfl) (o := _) rfl (fun K hK => ?_) AllReadyT.nil
    try clear hb
    go_simp
    (go_at_call 38; refine (wide_calls (a * d - b * c) _).mono ?_; rintro e wm ⟨rfl, hb⟩)
    refine hK.out _ _ ?hsr2_16 (fun hH2 => ?hrr2_16)
    case hsr2_16 => exact S2i0 (by have hG := hH; replace hG := S2o0 hG; (try dsimp only at hG); have q0 := hG.1; have q1 := hG.2.1; have q2 := hG.2.2.1; have q3 := hG.2.2.2.1; have q4 := hG.2.2.2.2.1; have q5 := hG.2.2.2.2.2.1; have q6 := hG.2.2.2.2.2.2.1; have q7 := hG.2.2.2.2.2.2.2.1; have q8 := hG.2.2.2.2.2.2.2.2.1; have q9 := hG.2.2.2.2.2.2.2.2.2.1; have q10 := hG.2.2.2.2.2.2.2.2.2.2; exact ⟨keepCell hb q0, keepCell hb q1, keepCell hb q2, keepCell hb q3, keepCell hb q4, keepCell hb q5, keepCell hb q6, keepCell hb q7, keepBlk hb q8, keepBlk hb q9, keepBelow hb q10⟩)
    clear hK K hH
    have hH := hH2
    clear hH2
    try simp only [Act.put, List.setIfInBounds_toArray, List.set_cons_zero, List.set_cons_succ]
    refine T_take 16 83 1 0 (v := ?vr2_17) rfl (by kernel_rfl) (by kernel_rfl) hWr2 (by kernel_rfl) (by kernel_rfl) (by kernel_rfl) (by kernel_rfl) (by kernel_rfl) (by kernel_rfl) (fun _ _ _ _ h => h) (by kernel_rfl) ?hyr2_17 hH ?_
    case hyr2_17 => (intro w' hSw; clear hSw; go_simp; try (with_reducible rfl))
    simp only [List.set_cons_zero, List.set_cons_succ]
    refine T_take 17 84 0 0 (v := ?vr2_18) rfl (by kernel_rfl) (by kernel_rfl) hWr2 (by kernel_rfl) (by kernel_rfl) (by kernel_rfl) (by kernel_rfl) (by kernel_rfl) (by kernel_rfl) (fun _ _ _ _ h => h) (by kernel_rfl) ?hyr2_18 hH ?_
    case hyr2_18 => (intro w' hSw; clear hSw; go_simp; try (with_reducible rfl))
    simp only [List.set_cons_zero, List.set_cons_succ]
    refine wpAnyT_done (by kernel_rfl) ?_ _
    refine NoPanic.normal ?_
    clear hb hWr2 S1 hB4 T3 T4
    replace hH := S2o0 hH
    (try dsimp only at hH)
    have p0 := hH.1
    have p1 := hH.2.1
    have p2 := hH.2.2.1
    have p3 := hH.2.2.2.1
    have p4 := hH.2.2.2.2.1
    have p5 := hH.2.2.2.2.2.1
    have p6 := hH.2.2.2.2.2.2.1
    have p7 := hH.2.2.2.2.2.2.2.1
    have p8 := hH.2.2.2.2.2.2.2.2.1
    have p9 := hH.2.2.2.2.2.2.2.2.2.1
    have p10 := hH.2.2.2.2.2.2.2.2.2.2
    clear hH
    have hBm := p10
    have H3m := hid p8
    clear p2 p3 p4 p5 p6 p7 p8 p9
    go_wp2_with fail
    · go_returns
      exact ret_bool rfl hBm
    · have hvb : -42535295865117307932921825928971026432 ≤ v ∧ v ≤ 42535295865117307932921825928971026432 := by
        have hw := wide_of RV.out.1 RV.out.2
        have hl := loW_bd v
        omega
      have hnb : -2305843009213693952 ≤ n ∧ n ≤ 2305843009213693952 := by omega
      have HVB := hid hvb
      have HNB := hid hnb
      clear hvb hnb
      refine (over_calls v n RV.out.1 RV.out.2 RN.out.1 RN.out.2 _).mono ?_
      rintro e wq ⟨rfl, hbq⟩
      obtain ⟨a0, a1, a2, a3, a4, a5, a6, a7⟩ := (keepBlk hbq H3m.out).all
      have hBq := keepBelow hbq hBm
      go_wp2_with fail
      refine (bover_calls v n HVB.out.1 HVB.out.2 HNB.out.1 HNB.out.2 _).mono ?_
      rintro e wr ⟨rfl, hbr⟩
      have hBr := keepBelow hbr hBq
      go_wp2
      go_returns
      exact ret_bool (by simp) hBr
    · go_returns
      exact ret_bool rfl hBm
    · go_returns
      exact ret_bool rfl hBm
    · go_returns
      exact ret_bool rfl hBm

end Go.Proofs.Ytjoodpjndpdjnaa
