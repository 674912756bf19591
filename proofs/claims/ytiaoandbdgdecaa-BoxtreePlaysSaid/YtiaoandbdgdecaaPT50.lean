/- The walk of BoxtreePlays. -/
import Derived.Test.YtiaoandbdgdecaaPT49
import Derived.Test.YtiaoandbdgdecaaPT42
namespace Go.Proofs.Ytiaoandbdgdecaa
section
set_option linter.unusedVariables false
set_option linter.unusedSimpArgs false
open Go.RowKit
theorem zeroH : Try.zeroCells41 = hasV (fun _ => false) := by kernel_rfl
theorem zeroX : Try.zeroCells42 = bxsV (fun _ => ((0, 0), (0, 0))) := by kernel_rfl
theorem fof_none (X : Nat → Bx) : FofH (fun _ => false) X = fun _ => none := by funext j; unfold FofH; rw [if_neg (by simp)]
theorem PlS.dropA {w0 wo : World} {g gh gx : Nat} {F : Nat → Option Bx} {H : Nat → Bool} {X : Nat → Bx} {wr : World} (h : PlS w0 g gh gx F H X wo) (hb : Below wo.heap.size wo wr) {i : Nat} (hi : i < 256) {b : Bx} (hF : F i = some b) {v : Value} (hc : wr.cell? ⟨wo.heap.size, 1, none⟩ = some v) :
    Calls Try.prog 13 #[.pointer (some ⟨g, 0, none⟩), .int .i64 (i : Nat)] wr (fun e w' => e = .returned (.int .i64 0) ∧ PlS w0 g gh gx (upF F i none) H X w' ∧ w'.cell? ⟨wo.heap.size, 1, none⟩ = some v) := by
  obtain ⟨D, h1, h2⟩ := h.tr
  have hlt : ∀ k, D k → k < wo.heap.size := by obtain ⟨s, T, m, hW, q1, q2, q3⟩ := h1; exact q2
  exact (tdrop_calls (TrA.below hb h1) hi hF).mono fun e w' hr => by
    obtain ⟨q1, q2⟩ := (h.keep hb).retT h2 hr
    obtain ⟨-, D', -, o, -⟩ := hr
    exact ⟨q1, q2, o.cell hc (fun q => by have q : D wo.heap.size := q; have := hlt _ q; omega)⟩
theorem ret_get {x1 x2 x3 x4 z : Int} {w : World} {e : Ending} {w' : World} (h : RetGet ((x1, x2), (x3, x4)) z w e w') : e = .returned (.tuple #[.agg #[.int .i64 x1, .int .i64 x2, .int .i64 x3, .int .i64 x4], .int .i64 z]) ∧ Below w.heap.size w w' := h
set_option maxRecDepth 100000 in
theorem run_hasLoad {w : World} {gh : Nat} {H : Nat → Bool} (h : ∀ i, i < 256 → w.cell? ⟨gh, i, none⟩ = some (.bool (H i))) : (Instr.loadAt 41 (.pointer (some ⟨gh, 0, none⟩))).run Try.prog w = .ok (.agg (hasV H)) w := by
  obtain ⟨i0, hi, hz1⟩ := Option.map_eq_some_iff.1 (show (Try.prog.info? 41).map (fun i => i.size) = some 256 by kernel_rfl)
  have hl : (loadCellsFrom ⟨gh, 0, none⟩ 0 256 #[]).run Try.prog w = .ok (hasV H) w := by
    have := run_loadCells_list (P := Try.prog) w ⟨gh, 0, none⟩ (hasL H) (fun j v hv => by
      have hj : j < 256 := by
        rcases Nat.lt_or_ge j 256 with q | q
        · exact q
        · rw [List.getElem?_eq_none (by simp [hasL]; omega)] at hv; cases hv
      have hadd : (⟨gh, 0, none⟩ : Addr).add j = ⟨gh, j, none⟩ := by unfold Addr.add; split <;> simp_all
      rw [has_at hj] at hv
      rw [hadd]
      cases hv
      exact h j hj)
    have hl : (hasL H).length = 256 := by simp [hasL]
    rw [hl] at this
    exact this
  have ha : (isAgg 41).run Try.prog w = .ok true w := by go_simp
  have hs : (sizeOf 41).run Try.prog w = .ok 256 w := by simp [sizeOf, typeInfo, hi, hz1]
  simp only [Instr.loadAt, Instr.sureAddr, Sem.run_bind, Sem.run_pure, Result.andThen]
  simp only [loadVar, Sem.run_bind, ha, Result.andThen_ok, if_true, hs, loadCells, hl, Sem.run_pure]
set_option maxRecDepth 100000 in
theorem run_bxsLoad {w : World} {gx : Nat} {X : Nat → Bx} (h : CellsE layBox w gx 0 (bxL X)) : (Instr.loadAt 42 (.pointer (some ⟨gx, 0, none⟩))).run Try.prog w = .ok (.agg (bxsV X)) w := by
  obtain ⟨i0, hi, hz1⟩ := Option.map_eq_some_iff.1 (show (Try.prog.info? 42).map (fun i => i.size) = some 1024 by kernel_rfl)
  have hll : (flatE layBox (bxL X)).length = 1024 := by rw [flatE_len, bxL_len]; rfl
  have hl : (loadCellsFrom ⟨gx, 0, none⟩ 0 1024 #[]).run Try.prog w = .ok (bxsV X) w := by
    have := run_loadCells_list (P := Try.prog) w ⟨gx, 0, none⟩ (flatE layBox (bxL X)) (fun j v hv => by
      have hj : j < (bxL X).length * layBox.k := by
        rcases Nat.lt_or_ge j ((bxL X).length * layBox.k) with q | q
        · exact q
        · rw [List.getElem?_eq_none (by rw [flatE_len]; exact q)] at hv; cases hv
      have hadd : (⟨gx, 0, none⟩ : Addr).add j = ⟨gx, j, none⟩ := by unfold Addr.add; split <;> simp_all
      obtain ⟨q, m, hq, hm, hjq, hg⟩ := flatE_get (bxL X) j hj
      rw [hadd]
      rw [hg] at hv
      have := h.at_ q hq m v hv
      rw [Nat.zero_add] at this
      rw [hjq]
      exact this)
    rw [hll] at this
    exact this
  have ha : (isAgg 42).run Try.prog w = .ok true w := by go_simp
  have hs : (sizeOf 42).run Try.prog w = .ok 1024 w := by simp [sizeOf, typeInfo, hi, hz1]
  simp only [Instr.loadAt, Instr.sureAddr, Sem.run_bind, Sem.run_pure, Result.andThen]
  simp only [loadVar, Sem.run_bind, ha, Result.andThen_ok, if_true, hs, loadCells, hl, Sem.run_pure]
set_option maxRecDepth 100000 in
set_option maxHeartbeats 32000000 in
theorem boxtreePlays_walk (A : Option Addr) (n c : Nat) (L : List Ac) (w : World) (hS : SlE layAc w A n c L) : Calls Try.prog 4 #[.slice A n c] w (Ret (.bool true) w) := by
  have hn := hS.len
  subst hn
  have hcap := hS.cap
  have hbig := hS.big
  have HS := hid hS
  clear hS
  go_enter Try.func4, Try.ntmps4
  go_wp2_with fail
  refine (treeBegun_calls _).mono ?_
  rintro e w1 ⟨rfl, hb⟩
  have HB1 := hid hb
  clear hb
  go_wp2_with fail
  refine (tnew_calls _).mono ?_
  rintro e w2 ⟨g, rfl, hg, ht, hb⟩
  obtain ⟨w4, hw4⟩ : ∃ x, x = (w2.alloc (.cells (hasV (fun _ => false)) 41)).alloc (.cells (bxsV (fun _ => ((0, 0), (0, 0)))) 42) := ⟨_, rfl⟩
  obtain ⟨gh, hgh⟩ : ∃ x, x = w2.heap.size := ⟨_, rfl⟩
  obtain ⟨gx, hgx⟩ : ∃ x, x = w2.heap.size + 1 := ⟨_, rfl⟩
  have hgs : g < w2.heap.size := by obtain ⟨s, T, m, -⟩ := ht; exact m.lt
  have HK0 : Hid (PlS w g gh gx (FofH (fun _ => false) (fun _ => ((0, 0), (0, 0)))) (fun _ => false) (fun _ => ((0, 0), (0, 0))) w4) := by
    obtain ⟨av, hav⟩ : ∃ x, x = hasV (fun _ => false) := ⟨_, rfl⟩
    obtain ⟨bv, hbv⟩ : ∃ x, x = bxsV (fun _ => ((0, 0), (0, 0))) := ⟨_, rfl⟩
    rw [← hav, ← hbv] at hw4
    obtain ⟨w3, hw3⟩ : ∃ x, x = w2.alloc (.cells av 41) := ⟨_, rfl⟩
    rw [← hw3] at hw4
    have s3 : w3.heap.size = gx := by rw [hw3, hgx]; simp
    have hb3 : Below w2.heap.size w2 w3 := by rw [hw3]; exact (Below.refl _ _).alloc (Nat.le_refl _) _
    have hb4 : Below w3.heap.size w3 w4 := by rw [hw4]; exact (Below.refl _ _).alloc (Nat.le_refl _) _
    have hh3 : w3.heap[gh]? = some (.cells av 41) := by rw [hw3, hgh]; exact heap_alloc_new w2 _
    have hlt3 : gh < w3.heap.size := (Array.getElem?_eq_some_iff.1 hh3).1
    have hh4 : w4.heap[gh]? = some (.cells av 41) := (hb4.block _ hlt3).trans hh3
    have hx4 : w4.heap[gx]? = some (.cells bv 42) := by rw [hw4, ← s3]; exact heap_alloc_new w3 _
    rw [fof_none]
    refine ⟨⟨_, TrA.below hb4 (TrA.below hb3 ht), fun k hk => .inl hk⟩, fun i hi => ?_, fun j => by unfold World.frozen?; rw [hh4]; simp, ⟨(Array.getElem?_eq_some_iff.1 hx4).1, fun j hj m u hu => ?_⟩, fun j => by unfold World.frozen?; rw [hx4]; simp, keepBelow hb4 (keepBelow hb3 (keepBelow hb HB1.out)), ⟨Nat.le_trans HB1.out.size hg, by omega, by omega⟩⟩
    · unfold World.cell?
      rw [hh4, hav]
      show (hasV (fun _ => false))[i]? = _
      unfold hasV
      rw [List.getElem?_toArray]
      exact has_at hi
    · have h1 := flatE_at (L := layBox) (bxL (fun _ => ((0, 0), (0, 0)))) j hj m u hu
      unfold World.cell?
      rw [hx4, hbv]
      show (bxsV (fun _ => ((0, 0), (0, 0))))[0 + j * 4 + m]? = _
      unfold bxsV
      rw [List.getElem?_toArray, Nat.zero_add]
      exact h1
  obtain ⟨mm, hmm⟩ : ∃ mm : Nat, mm = min L.length 200 := ⟨_, rfl⟩
  have hml : mm ≤ L.length := by omega
  have hmb : mm ≤ 200 := by omega
  have hrmin : ∀ (ts : Array TypeId) (t : TypeId) (w : World), (Builtin.min_ ts t #[.int .i64 (L.length : Int), .int .i64 200]).run Try.prog w = .ok (.int .i64 (mm : Int)) w := fun ts t w => by
    rw [run_min_int2]
    congr 2
    omega
  have hmc : (mm : Int) ≤ (c : Int) := by omega
  have hm0 : 0 ≤ (mm : Int) := by omega
  have HM0 : Hid (0 = cntF (FofH (fun _ => false) (fun _ => ((0, 0), (0, 0))))) := by show _ = _; rw [fof_none]; exact cnt_none.symm
  have HZ1 := hid zeroH
  have HZ2 := hid zeroX
  clear hmm ht hb hg hgs HB1
  go_upto_region 6 with fail
  rw [HZ1.out, HZ2.out]
  rw [← hw4, ← hgx]
  rw [← hgh]
  clear hw4 hgh hgx HZ1 HZ2
  go_wp2
  go_loopw [6, 23] (fun q j wr => ∃ (k : Nat) (H : Nat → Bool) (X : Nat → Bx) (m : Nat), k ≤ mm ∧ j = .int .i64 k ∧ q = .int .i64 m ∧ Hid (m = cntF (FofH H X)) ∧ Hid (PlS w g gh gx (FofH H X) H X wr)) (fun _ j _ => mm - (intOf j).toNat)
  case atStart => exact ⟨0, _, _, 0, Nat.zero_le _, rfl, rfl, HM0, HK0⟩
  case round =>
    clear HK0 HM0 hrmin hmc hm0
    obtain ⟨k, H, X, m, hk, rfl, rfl, HM, HK⟩ := hrel
    obtain ⟨wo, rfl⟩ : ∃ wo : World, wo = wr := ⟨_, rfl⟩
    by_cases hlt : k < mm
    · have hlt' : (k : Int) < (mm : Int) := by omega
      have hwk : IntKind.i64.wrap ((k : Int) + 1) = (k : Int) + 1 := IntWalk.i64_in _ (by omega)
      have hm256 : m ≤ 256 := by rw [HM.out]; exact cnt_le _
      obtain ⟨bl, off, hA, hC⟩ := (HS.out.below HK.out.bel).at_ (by intro q; rw [q] at hml; simp at hml; omega)
      subst hA
      obtain ⟨x, hx⟩ : ∃ x, x = L[k]'(by omega) := ⟨_, rfl⟩
      obtain ⟨d0, d1, d2, d3, d4, d5⟩ := cells_ac hC (by omega) hx
      have ld := lt_of_cell d0
      obtain ⟨what, id, ⟨⟨b1, b2⟩, b3, b4⟩⟩ := x
      dsimp only at d0 d1 d2 d3 d4 d5
      obtain ⟨w5, hw5⟩ : ∃ x, x = wo.alloc (.cells #[.int .i64 what, .int .i64 id, .int .i64 b1, .int .i64 b2, .int .i64 b3, .int .i64 b4] 44) := ⟨_, rfl⟩
      obtain ⟨ga, hga⟩ : ∃ x, x = wo.heap.size := ⟨_, rfl⟩
      have hb5 : Below wo.heap.size wo w5 := by rw [hw5]; go_grown
      have a0 : w5.cell? ⟨ga, 0, none⟩ = some (.int .i64 what) := by rw [hw5, hga]; go_simp
      have a1 : w5.cell? ⟨ga, 1, none⟩ = some (.int .i64 id) := by rw [hw5, hga]; go_simp
      have a2 : w5.cell? ⟨ga, 2, none⟩ = some (.int .i64 b1) := by rw [hw5, hga]; go_simp
      have a3 : w5.cell? ⟨ga, 3, none⟩ = some (.int .i64 b2) := by rw [hw5, hga]; go_simp
      have a4 : w5.cell? ⟨ga, 4, none⟩ = some (.int .i64 b3) := by rw [hw5, hga]; go_simp
      have a5 : w5.cell? ⟨ga, 5, none⟩ = some (.int .i64 b4) := by rw [hw5, hga]; go_simp
      have la := lt_of_cell a0
      have hgx' : gx < wo.heap.size := HK.out.bx.lt
      have HGA : Hid (gh < ga ∧ gx < ga) := by have := HK.out.ord; show _ ∧ _; omega
      have HDA : Hid (∀ i : Nat, i < 256 → H i = true → ∀ v, w5.cell? ⟨ga, 1, none⟩ = some v → Calls Try.prog 13 #[.pointer (some ⟨g, 0, none⟩), .int .i64 (i : Nat)] w5 (fun e w' => e = .returned (.int .i64 0) ∧ PlS w g gh gx (FofH (setH H i false) X) H X w' ∧ w'.cell? ⟨ga, 1, none⟩ = some v)) := fun i hi hh v hv => by
        have hda := PlS.dropA HK.out hb5 hi (fof_at hi hh) (hga ▸ hv)
        rw [fof_drop, ← hga] at hda
        exact hda
      replace HK := hid (HK.out.keep hb5)
      clear hb5 hC hx hgx'
      go_upto_region 10 with fail
      rw [← hw5, ← hga]
      clear hw5 hga d0 d1 d2 d3 d4 d5 ld
      go_cut [9] from 27 to 34 (fun t wx => t = .bool (decide (0 ≤ id ∧ id < 256)) ∧ wx = w5)
      case first =>
        by_cases h1 : id ≥ 0
        · by_cases h2 : id < 256
          · have hd : decide (0 ≤ id ∧ id < 256) = true := decide_eq_true ⟨h1, h2⟩
            have HD := hid hd
            clear hd HK HM
            go_wp2_with fail
            go_meet
            exact ⟨by rw [HD.out], rfl⟩
          · have hd : decide (0 ≤ id ∧ id < 256) = false := decide_eq_false (fun q => h2 q.2)
            have HD := hid hd
            clear hd HK HM
            go_wp2_with fail
            go_meet
            exact ⟨by rw [HD.out], rfl⟩
        · have hd : decide (0 ≤ id ∧ id < 256) = false := decide_eq_false (fun q => h1 q.1)
          have HD := hid hd
          clear hd HK HM
          go_wp2_with fail
          go_meet
          exact ⟨by rw [HD.out], rfl⟩
      case rest =>
        obtain ⟨rfl, rfl⟩ := hcut
        obtain ⟨w5, rfl⟩ : ∃ w5 : World, w5 = wc := ⟨_, rfl⟩
        by_cases hok : 0 ≤ id ∧ id < 256
        · rw [decide_eq_true hok]
          obtain ⟨i, hid_⟩ : ∃ i : Nat, (i : Int) = id := ⟨id.toNat, by omega⟩
          have hi : i < 256 := by omega
          subst hid_
          by_cases c0 : what = 0
          · subst c0
            have HRB := hid (fun w => rbox_calls b1 b2 b3 b4 w)
            cases hv : vldB ((b1, b2), (b3, b4)) with
            | false =>
              rw [hv] at HRB
              have HPB := hid (fun w => tputbad_calls g (i : Int) b1 b2 b3 b4 (.inr (.inr hv)) w)
              clear hv
              go_wp2_with fail
              refine (HRB.out _).mono ?_
              rintro e w6a ⟨rfl, hb⟩
              replace HK := hid (HK.out.keep hb)
              replace a0 := keepCell hb a0
              replace a1 := keepCell hb a1
              replace a2 := keepCell hb a2
              replace a3 := keepCell hb a3
              replace a4 := keepCell hb a4
              replace a5 := keepCell hb a5
              have laa := lt_of_cell a0
              clear hb HRB
              go_wp2_with fail
              refine (HPB.out _).mono ?_
              rintro e w6b ⟨rfl, hb⟩
              replace HK := hid (HK.out.keep hb)
              clear hb HPB a0 a1 a2 a3 a4 a5
              have hL := HK.out.len
              rw [← HM.out] at hL
              have HL := hid hL
              clear hL
              go_wp2_with fail
              refine HL.out.mono ?_
              rintro e wa ⟨rfl, hb⟩
              replace HK := hid (HK.out.keep hb)
              clear hb HL
              have hL := HK.out.height
              rw [← HM.out] at hL
              have HL := hid hL
              clear hL
              go_wp2_with fail
              refine HL.out.mono ?_
              rintro e wb ⟨zh, rfl, hz, hb⟩
              replace HK := hid (HK.out.keep hb)
              have HLW := hid (low_calls zh _ hz (by rw [HM.out]; exact cnt_le _))
              clear hb HL hz
              go_wp2_with fail
              refine (HLW.out _).mono ?_
              rintro e wd ⟨rfl, hb⟩
              replace HK := hid (HK.out.keep hb)
              clear hb HLW
              go_wp2
              go_roundw
              case rel => exact ⟨k + 1, H, X, m, hlt, by go_num, rfl, HM, HK⟩
              case measure => simp [intOf]; omega
            | true =>
              rw [hv] at HRB
              have HV := hid hv
              clear hv
              go_wp2_with fail
              refine (HRB.out _).mono ?_
              rintro e w6a ⟨rfl, hb⟩
              replace HK := hid (HK.out.keep hb)
              replace a0 := keepCell hb a0
              replace a1 := keepCell hb a1
              replace a2 := keepCell hb a2
              replace a3 := keepCell hb a3
              replace a4 := keepCell hb a4
              replace a5 := keepCell hb a5
              have laa := lt_of_cell a0
              clear hb HRB
              have hch := HK.out.has i hi
              have lch := lt_of_cell hch
              cases hh : H i with
              | false =>
                rw [hh] at hch
                obtain ⟨m1, hm1⟩ : ∃ m1 : Nat, m1 = m + 1 := ⟨_, rfl⟩
                have hwm : IntKind.i64.wrap ((m : Int) + 1) = (m1 : Int) := by rw [IntWalk.i64_in _ (by omega)]; omega
                replace HM : Hid (m1 = cntF (FofH (setH H i true) (setX X i ((b1, b2), (b3, b4))))) := by show _ = _; rw [cnt_new hi _ hh, hm1, HM.out]
                clear hm1 hh
                go_upto_region 20 with fail
                have hs20 := HK.out.bx.box (i := i) (by rw [bxL_len]; exact hi)
                rw [bxL_at hi, Nat.zero_add] at hs20
                obtain ⟨⟨⟨x1, x2⟩, x3, x4⟩, hxi⟩ : ∃ x, x = X i := ⟨_, rfl⟩
                rw [← hxi] at hs20
                obtain ⟨q0, q1, q2, q3⟩ := hs20
                dsimp only at q0 q1 q2 q3
                have X0 := hid q0
                have X1 := hid q1
                have X2 := hid q2
                have X3 := hid q3
                have XF := hid HK.out.xf
                have HF := hid HK.out.hf
                have HC := hid hch
                have A1 := hid a1
                have A2 := hid a2
                have A3 := hid a3
                have A4 := hid a4
                have A5 := hid a5
                have n1 : gh ≠ ga := by have := HGA.out; omega
                have n2 : gh ≠ gx := by have := HK.out.ord; omega
                clear q0 q1 q2 q3 hxi hch
                refine wp_region_noPanic ?_
                refine wp_region_U (S := (S3 (fun w' => w'.cell? ⟨ga, 1, none⟩ = some (.int .i64 (i : Nat)) ∧ w'.cell? ⟨ga, 2, none⟩ = some (.int .i64 b1) ∧ w'.cell? ⟨ga, 3, none⟩ = some (.int .i64 b2) ∧ w'.cell? ⟨ga, 4, none⟩ = some (.int .i64 b3) ∧ w'.cell? ⟨ga, 5, none⟩ = some (.int .i64 b4) ∧ w'.cell? ⟨gx, i * 4, none⟩ = some (.int .i64 x1) ∧ w'.cell? ⟨gx, i * 4 + 1, none⟩ = some (.int .i64 x2) ∧ w'.cell? ⟨gx, i * 4 + 2, none⟩ = some (.int .i64 x3) ∧ w'.cell? ⟨gx, i * 4 + 3, none⟩ = some (.int .i64 x4) ∧ (∀ j, w'.frozen? ⟨gx, j, none⟩ = false) ∧ w'.cell? ⟨gh, i, none⟩ = some (.bool false) ∧ (∀ j, w'.frozen? ⟨gh, j, none⟩ = false)) (fun w' => w'.cell? ⟨ga, 1, none⟩ = some (.int .i64 (i : Nat)) ∧ w'.cell? ⟨ga, 2, none⟩ = some (.int .i64 b1) ∧ w'.cell? ⟨ga, 3, none⟩ = some (.int .i64 b2) ∧ w'.cell? ⟨ga, 4, none⟩ = some (.int .i64 b3) ∧ w'.cell? ⟨ga, 5, none⟩ = some (.int .i64 b4) ∧ w'.cell? ⟨gx, i * 4, none⟩ = some (.int .i64 x1) ∧ w'.cell? ⟨gx, i * 4 + 1, none⟩ = some (.int .i64 x2) ∧ w'.cell? ⟨gx, i * 4 + 2, none⟩ = some (.int .i64 x3) ∧ w'.cell? ⟨gx, i * 4 + 3, none⟩ = some (.int .i64 x4) ∧ (∀ j, w'.frozen? ⟨gx, j, none⟩ = false)))) (T := (fun j => [0, 0, 0, 0, 0, 0, 0, 1, 0, 2].getD j 0)) (by kernel_rfl) (S3i0 ⟨A1.out, A2.out, A3.out, A4.out, A5.out, X0.out, X1.out, X2.out, X3.out, XF.out, HC.out, HF.out⟩) (fun hH => ?_)
                have hWr1 : Weaker (S3 (fun w' => w'.cell? ⟨ga, 1, none⟩ = some (.int .i64 (i : Nat)) ∧ w'.cell? ⟨ga, 2, none⟩ = some (.int .i64 b1) ∧ w'.cell? ⟨ga, 3, none⟩ = some (.int .i64 b2) ∧ w'.cell? ⟨ga, 4, none⟩ = some (.int .i64 b3) ∧ w'.cell? ⟨ga, 5, none⟩ = some (.int .i64 b4) ∧ w'.cell? ⟨gx, i * 4, none⟩ = some (.int .i64 x1) ∧ w'.cell? ⟨gx, i * 4 + 1, none⟩ = some (.int .i64 x2) ∧ w'.cell? ⟨gx, i * 4 + 2, none⟩ = some (.int .i64 x3) ∧ w'.cell? ⟨gx, i * 4 + 3, none⟩ = some (.int .i64 x4) ∧ (∀ j, w'.frozen? ⟨gx, j, none⟩ = false) ∧ w'.cell? ⟨gh, i, none⟩ = some (.bool false) ∧ (∀ j, w'.frozen? ⟨gh, j, none⟩ = false)) (fun w' => w'.cell? ⟨ga, 1, none⟩ = some (.int .i64 (i : Nat)) ∧ w'.cell? ⟨ga, 2, none⟩ = some (.int .i64 b1) ∧ w'.cell? ⟨ga, 3, none⟩ = some (.int .i64 b2) ∧ w'.cell? ⟨ga, 4, none⟩ = some (.int .i64 b3) ∧ w'.cell? ⟨ga, 5, none⟩ = some (.int .i64 b4) ∧ w'.cell? ⟨gx, i * 4, none⟩ = some (.int .i64 x1) ∧ w'.cell? ⟨gx, i * 4 + 1, none⟩ = some (.int .i64 x2) ∧ w'.cell? ⟨gx, i * 4 + 2, none⟩ = some (.int .i64 x3) ∧ w'.cell? ⟨gx, i * 4 + 3, none⟩ = some (.int .i64 x4) ∧ (∀ j, w'.frozen? ⟨gx, j, none⟩ = false))) := weaker3 (fun _ ⟨q0, q1, q2, q3, q4, q5, q6, q7, q8, q9, q10, q11⟩ => ⟨q0, q1, q2, q3, q4, q5, q6, q7, q8, q9⟩)
                refine Ut 0 60 9 0 0 (v := ?vr1_1) rfl hWr1 hH ?yr1_1 ?_
                case yr1_1 => (intro w' hSw; clear hSw; go_simp; try (with_reducible rfl))
                simp only [sB, sC]
                refine Ut 1 61 8 0 0 (v := ?vr1_2) rfl hWr1 hH ?yr1_2 ?_
                case yr1_2 => (intro w' hSw; replace hSw := S3o0 hSw; (try dsimp only at hSw); have q0 := hSw.1; have q1 := hSw.2.1; have q2 := hSw.2.2.1; have q3 := hSw.2.2.2.1; have q4 := hSw.2.2.2.2.1; have q5 := hSw.2.2.2.2.2.1; have q6 := hSw.2.2.2.2.2.2.1; have q7 := hSw.2.2.2.2.2.2.2.1; have q8 := hSw.2.2.2.2.2.2.2.2.1; have q9 := hSw.2.2.2.2.2.2.2.2.2.1; have q10 := hSw.2.2.2.2.2.2.2.2.2.2.1; have q11 := hSw.2.2.2.2.2.2.2.2.2.2.2; go_simp; try (with_reducible rfl))
                simp only [sB, sC]
                refine Ut 6 66 7 0 0 (v := ?vr1_3) rfl hWr1 hH ?yr1_3 ?_
                case yr1_3 => (intro w' hSw; clear hSw; go_simp; try (with_reducible rfl))
                simp only [sB, sC]
                refine Ut 2 62 6 1 0 (v := ?vr1_4) rfl hWr1 hH ?yr1_4 ?_
                case yr1_4 => (intro w' hSw; clear hSw; go_simp; try (with_reducible rfl))
                simp only [sB, sC]
                refine Ut 3 63 5 1 0 (v := ?vr1_5) rfl hWr1 hH ?yr1_5 ?_
                case yr1_5 => (intro w' hSw; replace hSw := S3o1 hSw; (try dsimp only at hSw); have q0 := hSw.1; have q1 := hSw.2.1; have q2 := hSw.2.2.1; have q3 := hSw.2.2.2.1; have q4 := hSw.2.2.2.2.1; have q5 := hSw.2.2.2.2.2.1; have q6 := hSw.2.2.2.2.2.2.1; have q7 := hSw.2.2.2.2.2.2.2.1; have q8 := hSw.2.2.2.2.2.2.2.2.1; have q9 := hSw.2.2.2.2.2.2.2.2.2; go_simp; try (with_reducible rfl))
                simp only [sB, sC]
                refine Ut 4 64 4 1 0 (v := ?vr1_6) rfl hWr1 hH ?yr1_6 ?_
                case yr1_6 => (intro w' hSw; clear hSw; go_simp; try (with_reducible rfl))
                simp only [sB, sC]
                refine Ut 5 65 3 1 0 (v := ?vr1_7) rfl hWr1 hH ?yr1_7 ?_
                case yr1_7 => (intro w' hSw; replace hSw := S3o1 hSw; (try dsimp only at hSw); have q0 := hSw.1; have q1 := hSw.2.1; have q2 := hSw.2.2.1; have q3 := hSw.2.2.2.1; have q4 := hSw.2.2.2.2.1; have q5 := hSw.2.2.2.2.2.1; have q6 := hSw.2.2.2.2.2.2.1; have q7 := hSw.2.2.2.2.2.2.2.1; have q8 := hSw.2.2.2.2.2.2.2.2.1; have q9 := hSw.2.2.2.2.2.2.2.2.2; go_simp; try (with_reducible rfl))
                simp only [sB, sC]
                refine U1 7 1 rfl (fun K hK => ?_)
                have hG := hH
                replace hG := S3o0 hG; (try dsimp only at hG); have q0 := hG.1; have q1 := hG.2.1; have q2 := hG.2.2.1; have q3 := hG.2.2.2.1; have q4 := hG.2.2.2.2.1; have q5 := hG.2.2.2.2.2.1; have q6 := hG.2.2.2.2.2.2.1; have q7 := hG.2.2.2.2.2.2.2.1; have q8 := hG.2.2.2.2.2.2.2.2.1; have q9 := hG.2.2.2.2.2.2.2.2.2.1; have q10 := hG.2.2.2.2.2.2.2.2.2.2.1; have q11 := hG.2.2.2.2.2.2.2.2.2.2.2
                go_simp
                refine hK.out _ _ (S3i1 ⟨far1 n1 q0, far1 n1 q1, far1 n1 q2, far1 n1 q3, far1 n1 q4, far1 n2 q5, far1 n2 q6, far1 n2 q7, far1 n2 q8, frz_set q9 _ _⟩) (fun hH2 => ?_)
                clear hK K hH
                rename _ => hH
                try simp only [Act.put, sA, sB, sC]
                clear hG q0 q1 q2 q3 q4 q5 q6 q7 q8 q9 q10 q11
                refine Ut 8 67 1 1 1 (v := ?vr1_9) rfl hWr1 hH ?yr1_9 ?_
                case yr1_9 => (intro w' hSw; clear hSw; go_simp; try (with_reducible rfl))
                simp only [sB, sC]
                refine U1 9 2 rfl (fun K hK => ?_)
                have hG := hH
                replace hG := S3o1 hG; (try dsimp only at hG); have q0 := hG.1; have q1 := hG.2.1; have q2 := hG.2.2.1; have q3 := hG.2.2.2.1; have q4 := hG.2.2.2.2.1; have q5 := hG.2.2.2.2.2.1; have q6 := hG.2.2.2.2.2.2.1; have q7 := hG.2.2.2.2.2.2.2.1; have q8 := hG.2.2.2.2.2.2.2.2.1; have q9 := hG.2.2.2.2.2.2.2.2.2
                have y0 := X0.out
                have y1 := X1.out
                have y2 := X2.out
                have y3 := X3.out
                have yf := XF.out
                go_simp
                refine hK.out _ _ (S3i2) (fun hH2 => ?_)
                clear hK K hH
                rename _ => hH
                try simp only [Act.put, sA, sB, sC]
                clear hG y0 y1 y2 y3 yf q0 q1 q2 q3 q4 q5 q6 q7 q8 q9
                refine wpAnyU_done (by kernel_rfl) ?_ _ _
                refine NoPanic.normal ?_
                clear hWr1 hH
                have nx : gx ≠ ga := by have := HGA.out; omega
                generalize hwB : World.drew _ = wB
                replace HK : Hid (PlS w g gh gx (FofH H X) (setH H i true) (setX X i ((b1, b2), (b3, b4))) wB) := hid (by rw [← hwB]; exact ((HK.out.setHas hi true).setBx hi b1 b2 b3 b4).keep ((Below.refl _ _).drew))
                replace a0 : wB.cell? ⟨ga, 0, none⟩ = some (.int .i64 0) := (by rw [← hwB]; exact keepCell ((Below.refl _ _).drew) (far1 nx (far1 nx (far1 nx (far1 nx (far1 n1 a0))))))
                replace a1 : wB.cell? ⟨ga, 1, none⟩ = some (.int .i64 (i : Nat)) := (by rw [← hwB]; exact keepCell ((Below.refl _ _).drew) (far1 nx (far1 nx (far1 nx (far1 nx (far1 n1 a1))))))
                replace a2 : wB.cell? ⟨ga, 2, none⟩ = some (.int .i64 b1) := (by rw [← hwB]; exact keepCell ((Below.refl _ _).drew) (far1 nx (far1 nx (far1 nx (far1 nx (far1 n1 a2))))))
                replace a3 : wB.cell? ⟨ga, 3, none⟩ = some (.int .i64 b2) := (by rw [← hwB]; exact keepCell ((Below.refl _ _).drew) (far1 nx (far1 nx (far1 nx (far1 nx (far1 n1 a3))))))
                replace a4 : wB.cell? ⟨ga, 4, none⟩ = some (.int .i64 b3) := (by rw [← hwB]; exact keepCell ((Below.refl _ _).drew) (far1 nx (far1 nx (far1 nx (far1 nx (far1 n1 a4))))))
                replace a5 : wB.cell? ⟨ga, 5, none⟩ = some (.int .i64 b4) := (by rw [← hwB]; exact keepCell ((Below.refl _ _).drew) (far1 nx (far1 nx (far1 nx (far1 nx (far1 n1 a5))))))
                have laB := lt_of_cell a0
                have HPB := hid (HK.out.put hi b1 b2 b3 b4 HV.out)
                rw [fof_put hi] at HPB
                clear hwB HC HF XF X0 X1 X2 X3 A1 A2 A3 A4 A5 laa lch
                go_wp2_with fail
                refine HPB.out.mono ?_
                rintro e w8 ⟨rfl, hK⟩
                replace HK := hid hK
                clear hK HPB a0 a1 a2 a3 a4 a5 laB la
                have hL := HK.out.len
                rw [← HM.out] at hL
                have HL := hid hL
                clear hL
                go_wp2_with fail
                refine HL.out.mono ?_
                rintro e wa ⟨rfl, hb⟩
                replace HK := hid (HK.out.keep hb)
                clear hb HL
                have hL := HK.out.height
                rw [← HM.out] at hL
                have HL := hid hL
                clear hL
                go_wp2_with fail
                refine HL.out.mono ?_
                rintro e wb ⟨zh, rfl, hz, hb⟩
                replace HK := hid (HK.out.keep hb)
                have HLW := hid (low_calls zh _ hz (by rw [HM.out]; exact cnt_le _))
                clear hb HL hz
                go_wp2_with fail
                refine (HLW.out _).mono ?_
                rintro e wd ⟨rfl, hb⟩
                replace HK := hid (HK.out.keep hb)
                clear hb HLW
                go_wp2
                go_roundw
                case rel => exact ⟨k + 1, setH H i true, setX X i ((b1, b2), (b3, b4)), m1, hlt, by go_num, rfl, HM, HK⟩
                case measure => simp [intOf]; omega
              | true =>
                rw [hh] at hch
                replace HM : Hid (m = cntF (FofH (setH H i true) (setX X i ((b1, b2), (b3, b4))))) := by show _ = _; rw [cnt_again hi _ hh, HM.out]
                clear hh
                go_upto_region 20 with fail
                have hs20 := HK.out.bx.box (i := i) (by rw [bxL_len]; exact hi)
                rw [bxL_at hi, Nat.zero_add] at hs20
                obtain ⟨⟨⟨x1, x2⟩, x3, x4⟩, hxi⟩ : ∃ x, x = X i := ⟨_, rfl⟩
                rw [← hxi] at hs20
                obtain ⟨q0, q1, q2, q3⟩ := hs20
                dsimp only at q0 q1 q2 q3
                have X0 := hid q0
                have X1 := hid q1
                have X2 := hid q2
                have X3 := hid q3
                have XF := hid HK.out.xf
                have HF := hid HK.out.hf
                have HC := hid hch
                have A1 := hid a1
                have A2 := hid a2
                have A3 := hid a3
                have A4 := hid a4
                have A5 := hid a5
                have n1 : gh ≠ ga := by have := HGA.out; omega
                have n2 : gh ≠ gx := by have := HK.out.ord; omega
                clear q0 q1 q2 q3 hxi hch
                refine wp_region_noPanic ?_
                refine wp_region_U (S := (S3 (fun w' => w'.cell? ⟨ga, 1, none⟩ = some (.int .i64 (i : Nat)) ∧ w'.cell? ⟨ga, 2, none⟩ = some (.int .i64 b1) ∧ w'.cell? ⟨ga, 3, none⟩ = some (.int .i64 b2) ∧ w'.cell? ⟨ga, 4, none⟩ = some (.int .i64 b3) ∧ w'.cell? ⟨ga, 5, none⟩ = some (.int .i64 b4) ∧ w'.cell? ⟨gx, i * 4, none⟩ = some (.int .i64 x1) ∧ w'.cell? ⟨gx, i * 4 + 1, none⟩ = some (.int .i64 x2) ∧ w'.cell? ⟨gx, i * 4 + 2, none⟩ = some (.int .i64 x3) ∧ w'.cell? ⟨gx, i * 4 + 3, none⟩ = some (.int .i64 x4) ∧ (∀ j, w'.frozen? ⟨gx, j, none⟩ = false) ∧ w'.cell? ⟨gh, i, none⟩ = some (.bool true) ∧ (∀ j, w'.frozen? ⟨gh, j, none⟩ = false)) (fun w' => w'.cell? ⟨ga, 1, none⟩ = some (.int .i64 (i : Nat)) ∧ w'.cell? ⟨ga, 2, none⟩ = some (.int .i64 b1) ∧ w'.cell? ⟨ga, 3, none⟩ = some (.int .i64 b2) ∧ w'.cell? ⟨ga, 4, none⟩ = some (.int .i64 b3) ∧ w'.cell? ⟨ga, 5, none⟩ = some (.int .i64 b4) ∧ w'.cell? ⟨gx, i * 4, none⟩ = some (.int .i64 x1) ∧ w'.cell? ⟨gx, i * 4 + 1, none⟩ = some (.int .i64 x2) ∧ w'.cell? ⟨gx, i * 4 + 2, none⟩ = some (.int .i64 x3) ∧ w'.cell? ⟨gx, i * 4 + 3, none⟩ = some (.int .i64 x4) ∧ (∀ j, w'.frozen? ⟨gx, j, none⟩ = false)))) (T := (fun j => [0, 0, 0, 0, 0, 0, 0, 1, 0, 2].getD j 0)) (by kernel_rfl) (S3i0 ⟨A1.out, A2.out, A3.out, A4.out, A5.out, X0.out, X1.out, X2.out, X3.out, XF.out, HC.out, HF.out⟩) (fun hH => ?_)
                have hWr1 : Weaker (S3 (fun w' => w'.cell? ⟨ga, 1, none⟩ = some (.int .i64 (i : Nat)) ∧ w'.cell? ⟨ga, 2, none⟩ = some (.int .i64 b1) ∧ w'.cell? ⟨ga, 3, none⟩ = some (.int .i64 b2) ∧ w'.cell? ⟨ga, 4, none⟩ = some (.int .i64 b3) ∧ w'.cell? ⟨ga, 5, none⟩ = some (.int .i64 b4) ∧ w'.cell? ⟨gx, i * 4, none⟩ = some (.int .i64 x1) ∧ w'.cell? ⟨gx, i * 4 + 1, none⟩ = some (.int .i64 x2) ∧ w'.cell? ⟨gx, i * 4 + 2, none⟩ = some (.int .i64 x3) ∧ w'.cell? ⟨gx, i * 4 + 3, none⟩ = some (.int .i64 x4) ∧ (∀ j, w'.frozen? ⟨gx, j, none⟩ = false) ∧ w'.cell? ⟨gh, i, none⟩ = some (.bool true) ∧ (∀ j, w'.frozen? ⟨gh, j, none⟩ = false)) (fun w' => w'.cell? ⟨ga, 1, none⟩ = some (.int .i64 (i : Nat)) ∧ w'.cell? ⟨ga, 2, none⟩ = some (.int .i64 b1) ∧ w'.cell? ⟨ga, 3, none⟩ = some (.int .i64 b2) ∧ w'.cell? ⟨ga, 4, none⟩ = some (.int .i64 b3) ∧ w'.cell? ⟨ga, 5, none⟩ = some (.int .i64 b4) ∧ w'.cell? ⟨gx, i * 4, none⟩ = some (.int .i64 x1) ∧ w'.cell? ⟨gx, i * 4 + 1, none⟩ = some (.int .i64 x2) ∧ w'.cell? ⟨gx, i * 4 + 2, none⟩ = some (.int .i64 x3) ∧ w'.cell? ⟨gx, i * 4 + 3, none⟩ = some (.int .i64 x4) ∧ (∀ j, w'.frozen? ⟨gx, j, none⟩ = false))) := weaker3 (fun _ ⟨q0, q1, q2, q3, q4, q5, q6, q7, q8, q9, q10, q11⟩ => ⟨q0, q1, q2, q3, q4, q5, q6, q7, q8, q9⟩)
                refine Ut 0 60 9 0 0 (v := ?vr1_1) rfl hWr1 hH ?yr1_1 ?_
                case yr1_1 => (intro w' hSw; clear hSw; go_simp; try (with_reducible rfl))
                simp only [sB, sC]
                refine Ut 1 61 8 0 0 (v := ?vr1_2) rfl hWr1 hH ?yr1_2 ?_
                case yr1_2 => (intro w' hSw; replace hSw := S3o0 hSw; (try dsimp only at hSw); have q0 := hSw.1; have q1 := hSw.2.1; have q2 := hSw.2.2.1; have q3 := hSw.2.2.2.1; have q4 := hSw.2.2.2.2.1; have q5 := hSw.2.2.2.2.2.1; have q6 := hSw.2.2.2.2.2.2.1; have q7 := hSw.2.2.2.2.2.2.2.1; have q8 := hSw.2.2.2.2.2.2.2.2.1; have q9 := hSw.2.2.2.2.2.2.2.2.2.1; have q10 := hSw.2.2.2.2.2.2.2.2.2.2.1; have q11 := hSw.2.2.2.2.2.2.2.2.2.2.2; go_simp; try (with_reducible rfl))
                simp only [sB, sC]
                refine Ut 6 66 7 0 0 (v := ?vr1_3) rfl hWr1 hH ?yr1_3 ?_
                case yr1_3 => (intro w' hSw; clear hSw; go_simp; try (with_reducible rfl))
                simp only [sB, sC]
                refine Ut 2 62 6 1 0 (v := ?vr1_4) rfl hWr1 hH ?yr1_4 ?_
                case yr1_4 => (intro w' hSw; clear hSw; go_simp; try (with_reducible rfl))
                simp only [sB, sC]
                refine Ut 3 63 5 1 0 (v := ?vr1_5) rfl hWr1 hH ?yr1_5 ?_
                case yr1_5 => (intro w' hSw; replace hSw := S3o1 hSw; (try dsimp only at hSw); have q0 := hSw.1; have q1 := hSw.2.1; have q2 := hSw.2.2.1; have q3 := hSw.2.2.2.1; have q4 := hSw.2.2.2.2.1; have q5 := hSw.2.2.2.2.2.1; have q6 := hSw.2.2.2.2.2.2.1; have q7 := hSw.2.2.2.2.2.2.2.1; have q8 := hSw.2.2.2.2.2.2.2.2.1; have q9 := hSw.2.2.2.2.2.2.2.2.2; go_simp; try (with_reducible rfl))
                simp only [sB, sC]
                refine Ut 4 64 4 1 0 (v := ?vr1_6) rfl hWr1 hH ?yr1_6 ?_
                case yr1_6 => (intro w' hSw; clear hSw; go_simp; try (with_reducible rfl))
                simp only [sB, sC]
                refine Ut 5 65 3 1 0 (v := ?vr1_7) rfl hWr1 hH ?yr1_7 ?_
                case yr1_7 => (intro w' hSw; replace hSw := S3o1 hSw; (try dsimp only at hSw); have q0 := hSw.1; have q1 := hSw.2.1; have q2 := hSw.2.2.1; have q3 := hSw.2.2.2.1; have q4 := hSw.2.2.2.2.1; have q5 := hSw.2.2.2.2.2.1; have q6 := hSw.2.2.2.2.2.2.1; have q7 := hSw.2.2.2.2.2.2.2.1; have q8 := hSw.2.2.2.2.2.2.2.2.1; have q9 := hSw.2.2.2.2.2.2.2.2.2; go_simp; try (with_reducible rfl))
                simp only [sB, sC]
                refine U1 7 1 rfl (fun K hK => ?_)
                have hG := hH
                replace hG := S3o0 hG; (try dsimp only at hG); have q0 := hG.1; have q1 := hG.2.1; have q2 := hG.2.2.1; have q3 := hG.2.2.2.1; have q4 := hG.2.2.2.2.1; have q5 := hG.2.2.2.2.2.1; have q6 := hG.2.2.2.2.2.2.1; have q7 := hG.2.2.2.2.2.2.2.1; have q8 := hG.2.2.2.2.2.2.2.2.1; have q9 := hG.2.2.2.2.2.2.2.2.2.1; have q10 := hG.2.2.2.2.2.2.2.2.2.2.1; have q11 := hG.2.2.2.2.2.2.2.2.2.2.2
                go_simp
                refine hK.out _ _ (S3i1 ⟨far1 n1 q0, far1 n1 q1, far1 n1 q2, far1 n1 q3, far1 n1 q4, far1 n2 q5, far1 n2 q6, far1 n2 q7, far1 n2 q8, frz_set q9 _ _⟩) (fun hH2 => ?_)
                clear hK K hH
                rename _ => hH
                try simp only [Act.put, sA, sB, sC]
                clear hG q0 q1 q2 q3 q4 q5 q6 q7 q8 q9 q10 q11
                refine Ut 8 67 1 1 1 (v := ?vr1_9) rfl hWr1 hH ?yr1_9 ?_
                case yr1_9 => (intro w' hSw; clear hSw; go_simp; try (with_reducible rfl))
                simp only [sB, sC]
                refine U1 9 2 rfl (fun K hK => ?_)
                have hG := hH
                replace hG := S3o1 hG; (try dsimp only at hG); have q0 := hG.1; have q1 := hG.2.1; have q2 := hG.2.2.1; have q3 := hG.2.2.2.1; have q4 := hG.2.2.2.2.1; have q5 := hG.2.2.2.2.2.1; have q6 := hG.2.2.2.2.2.2.1; have q7 := hG.2.2.2.2.2.2.2.1; have q8 := hG.2.2.2.2.2.2.2.2.1; have q9 := hG.2.2.2.2.2.2.2.2.2
                have y0 := X0.out
                have y1 := X1.out
                have y2 := X2.out
                have y3 := X3.out
                have yf := XF.out
                go_simp
                refine hK.out _ _ (S3i2) (fun hH2 => ?_)
                clear hK K hH
                rename _ => hH
                try simp only [Act.put, sA, sB, sC]
                clear hG y0 y1 y2 y3 yf q0 q1 q2 q3 q4 q5 q6 q7 q8 q9
                refine wpAnyU_done (by kernel_rfl) ?_ _ _
                refine NoPanic.normal ?_
                clear hWr1 hH
                have nx : gx ≠ ga := by have := HGA.out; omega
                generalize hwB : World.drew _ = wB
                replace HK : Hid (PlS w g gh gx (FofH H X) (setH H i true) (setX X i ((b1, b2), (b3, b4))) wB) := hid (by rw [← hwB]; exact ((HK.out.setHas hi true).setBx hi b1 b2 b3 b4).keep ((Below.refl _ _).drew))
                replace a0 : wB.cell? ⟨ga, 0, none⟩ = some (.int .i64 0) := (by rw [← hwB]; exact keepCell ((Below.refl _ _).drew) (far1 nx (far1 nx (far1 nx (far1 nx (far1 n1 a0))))))
                replace a1 : wB.cell? ⟨ga, 1, none⟩ = some (.int .i64 (i : Nat)) := (by rw [← hwB]; exact keepCell ((Below.refl _ _).drew) (far1 nx (far1 nx (far1 nx (far1 nx (far1 n1 a1))))))
                replace a2 : wB.cell? ⟨ga, 2, none⟩ = some (.int .i64 b1) := (by rw [← hwB]; exact keepCell ((Below.refl _ _).drew) (far1 nx (far1 nx (far1 nx (far1 nx (far1 n1 a2))))))
                replace a3 : wB.cell? ⟨ga, 3, none⟩ = some (.int .i64 b2) := (by rw [← hwB]; exact keepCell ((Below.refl _ _).drew) (far1 nx (far1 nx (far1 nx (far1 nx (far1 n1 a3))))))
                replace a4 : wB.cell? ⟨ga, 4, none⟩ = some (.int .i64 b3) := (by rw [← hwB]; exact keepCell ((Below.refl _ _).drew) (far1 nx (far1 nx (far1 nx (far1 nx (far1 n1 a4))))))
                replace a5 : wB.cell? ⟨ga, 5, none⟩ = some (.int .i64 b4) := (by rw [← hwB]; exact keepCell ((Below.refl _ _).drew) (far1 nx (far1 nx (far1 nx (far1 nx (far1 n1 a5))))))
                have laB := lt_of_cell a0
                have HPB := hid (HK.out.put hi b1 b2 b3 b4 HV.out)
                rw [fof_put hi] at HPB
                clear hwB HC HF XF X0 X1 X2 X3 A1 A2 A3 A4 A5 laa lch
                go_wp2_with fail
                refine HPB.out.mono ?_
                rintro e w8 ⟨rfl, hK⟩
                replace HK := hid hK
                clear hK HPB a0 a1 a2 a3 a4 a5 laB la
                have hL := HK.out.len
                rw [← HM.out] at hL
                have HL := hid hL
                clear hL
                go_wp2_with fail
                refine HL.out.mono ?_
                rintro e wa ⟨rfl, hb⟩
                replace HK := hid (HK.out.keep hb)
                clear hb HL
                have hL := HK.out.height
                rw [← HM.out] at hL
                have HL := hid hL
                clear hL
                go_wp2_with fail
                refine HL.out.mono ?_
                rintro e wb ⟨zh, rfl, hz, hb⟩
                replace HK := hid (HK.out.keep hb)
                have HLW := hid (low_calls zh _ hz (by rw [HM.out]; exact cnt_le _))
                clear hb HL hz
                go_wp2_with fail
                refine (HLW.out _).mono ?_
                rintro e wd ⟨rfl, hb⟩
                replace HK := hid (HK.out.keep hb)
                clear hb HLW
                go_wp2
                go_roundw
                case rel => exact ⟨k + 1, setH H i true, setX X i ((b1, b2), (b3, b4)), m, hlt, by go_num, rfl, HM, HK⟩
                case measure => simp [intOf]; omega
          · by_cases c1 : what = 1
            · subst c1
              have hch := HK.out.has i hi
              have lch := lt_of_cell hch
              cases hh : H i with
              | false =>
                rw [hh] at hch
                have HD := hid (HK.out.dropn hi (fof_no hh))
                clear hh
                go_wp2_with fail
                refine HD.out.mono ?_
                rintro e w6a ⟨rfl, hb⟩
                replace HK := hid (HK.out.keep hb)
                clear hb HD hch lch a0 a1 a2 a3 a4 a5
                have hL := HK.out.len
                rw [← HM.out] at hL
                have HL := hid hL
                clear hL
                go_wp2_with fail
                refine HL.out.mono ?_
                rintro e wa ⟨rfl, hb⟩
                replace HK := hid (HK.out.keep hb)
                clear hb HL
                have hL := HK.out.height
                rw [← HM.out] at hL
                have HL := hid hL
                clear hL
                go_wp2_with fail
                refine HL.out.mono ?_
                rintro e wb ⟨zh, rfl, hz, hb⟩
                replace HK := hid (HK.out.keep hb)
                have HLW := hid (low_calls zh _ hz (by rw [HM.out]; exact cnt_le _))
                clear hb HL hz
                go_wp2_with fail
                refine (HLW.out _).mono ?_
                rintro e wd ⟨rfl, hb⟩
                replace HK := hid (HK.out.keep hb)
                clear hb HLW
                go_wp2
                go_roundw
                case rel => exact ⟨k + 1, H, X, m, hlt, by go_num, rfl, HM, HK⟩
                case measure => simp [intOf]; omega
              | true =>
                rw [hh] at hch
                have HD := hid (HDA.out i hi hh _ a1)
                obtain ⟨m1, hm1⟩ : ∃ m1 : Nat, m1 = cntF (FofH (setH H i false) X) := ⟨_, rfl⟩
                have hmm1 : m1 + 1 = m := by rw [hm1, cnt_gone hi hh, HM.out]
                have hwm : IntKind.i64.wrap ((m : Int) - 1) = (m1 : Int) := by rw [IntWalk.i64_in _ (by omega)]; omega
                replace HM : Hid (m1 = cntF (FofH (setH H i false) X)) := hid hm1
                clear hm1 hmm1
                go_wp2_with fail
                refine HD.out.mono ?_
                rintro e w7 ⟨rfl, hK, a1'⟩
                clear hch lch la a0 a1 a2 a3 a4 a5 HD
                replace HK := hid hK
                have hch := HK.out.has i hi
                rw [hh] at hch
                have hf := HK.out.hf
                have lch := lt_of_cell hch
                have la := lt_of_cell a1'
                clear hK hh
                go_upto_region 39 with fail
                generalize hwB : World.setCell _ _ _ = wB
                replace HK : Hid (PlS w g gh gx (FofH (setH H i false) X) (setH H i false) X wB) := hid (by rw [← hwB]; exact HK.out.setHas hi false)
                clear hwB hch hf lch la a1'
                have hL := HK.out.len
                rw [← HM.out] at hL
                have HL := hid hL
                clear hL
                go_wp2_with fail
                refine HL.out.mono ?_
                rintro e wa ⟨rfl, hb⟩
                replace HK := hid (HK.out.keep hb)
                clear hb HL
                have hL := HK.out.height
                rw [← HM.out] at hL
                have HL := hid hL
                clear hL
                go_wp2_with fail
                refine HL.out.mono ?_
                rintro e wb ⟨zh, rfl, hz, hb⟩
                replace HK := hid (HK.out.keep hb)
                have HLW := hid (low_calls zh _ hz (by rw [HM.out]; exact cnt_le _))
                clear hb HL hz
                go_wp2_with fail
                refine (HLW.out _).mono ?_
                rintro e wd ⟨rfl, hb⟩
                replace HK := hid (HK.out.keep hb)
                clear hb HLW
                go_wp2
                go_roundw
                case rel => exact ⟨k + 1, setH H i false, X, m1, hlt, by go_num, rfl, HM, HK⟩
                case measure => simp [intOf]; omega
            · by_cases c2 : what = 2
              · subst c2
                have hch := HK.out.has i hi
                have lch := lt_of_cell hch
                cases hh : H i with
                | false =>
                  rw [hh] at hch
                  have HG := hid (HK.out.get (i : Int) (b := ((0, 0), (0, 0))) (z := 4) (by rw [if_neg (show ¬ ((i : Int) < 0 ∨ 256 ≤ (i : Int)) by omega), Int.toNat_natCast, fof_no hh]; rfl) (by rw [if_neg (show ¬ ((i : Int) < 0 ∨ 256 ≤ (i : Int)) by omega), Int.toNat_natCast, fof_no hh]))
                  go_wp2_with fail
                  refine HG.out.mono ?_
                  rintro e w6 h6
                  obtain ⟨rfl, hb⟩ := ret_get h6
                  replace HK := hid (HK.out.keep hb)
                  replace a0 := keepCell hb a0
                  replace a1 := keepCell hb a1
                  replace a2 := keepCell hb a2
                  replace a3 := keepCell hb a3
                  replace a4 := keepCell hb a4
                  replace a5 := keepCell hb a5
                  have lab := lt_of_cell a0
                  clear hb h6 HG
                  obtain ⟨w7, hw7⟩ : ∃ x, x = w6.alloc (.cells #[.int .i64 0, .int .i64 0, .int .i64 0, .int .i64 0] 32) := ⟨_, rfl⟩
                  obtain ⟨gb, hgb⟩ : ∃ x, x = w6.heap.size := ⟨_, rfl⟩
                  have hb : Below w6.heap.size w6 w7 := by rw [hw7]; go_grown
                  have B0 : Hid (w7.cell? ⟨gb, 0, none⟩ = some (.int .i64 0)) := hid (by rw [hw7, hgb]; go_simp)
                  have B1 : Hid (w7.cell? ⟨gb, 1, none⟩ = some (.int .i64 0)) := hid (by rw [hw7, hgb]; go_simp)
                  have B2 : Hid (w7.cell? ⟨gb, 2, none⟩ = some (.int .i64 0)) := hid (by rw [hw7, hgb]; go_simp)
                  have B3 : Hid (w7.cell? ⟨gb, 3, none⟩ = some (.int .i64 0)) := hid (by rw [hw7, hgb]; go_simp)
                  have A1 := hid (keepCell hb a1)
                  replace HK := hid (HK.out.keep hb)
                  have HQ := run_eqBP 0 0 0 0
                  clear hb
                  go_upto_region 32 with fail
                  rw [← hw7, ← hgb]
                  clear hw7 hgb a0 a1 a2 a3 a4 a5
                  refine wp_region_noPanic ?_
                  refine wp_region_U (S := (S2 (fun w' => w'.cell? ⟨gb, 0, none⟩ = some (.int .i64 0) ∧ w'.cell? ⟨gb, 1, none⟩ = some (.int .i64 0) ∧ w'.cell? ⟨gb, 2, none⟩ = some (.int .i64 0) ∧ w'.cell? ⟨gb, 3, none⟩ = some (.int .i64 0)))) (T := (fun _ => 0)) (by kernel_rfl) (S2i0 ⟨B0.out, B1.out, B2.out, B3.out⟩) (fun hH => ?_)
                  have hWr2 : Weaker (S2 (fun w' => w'.cell? ⟨gb, 0, none⟩ = some (.int .i64 0) ∧ w'.cell? ⟨gb, 1, none⟩ = some (.int .i64 0) ∧ w'.cell? ⟨gb, 2, none⟩ = some (.int .i64 0) ∧ w'.cell? ⟨gb, 3, none⟩ = some (.int .i64 0))) := weaker2 _
                  refine Ut 0 98 23 0 0 (v := ?vr2_1) rfl hWr2 hH ?yr2_1 ?_
                  case yr2_1 => (intro w' hSw; clear hSw; go_simp; try (with_reducible rfl))
                  simp only [sB, sC]
                  refine Ut 1 99 22 0 0 (v := ?vr2_2) rfl hWr2 hH ?yr2_2 ?_
                  case yr2_2 => (intro w' hSw; clear hSw; go_simp; try (with_reducible rfl))
                  simp only [sB, sC]
                  refine Ut 2 100 21 0 0 (v := ?vr2_3) rfl hWr2 hH ?yr2_3 ?_
                  case yr2_3 => (intro w' hSw; clear hSw; go_simp; try (with_reducible rfl))
                  simp only [sB, sC]
                  refine Ut 3 101 20 0 0 (v := ?vr2_4) rfl hWr2 hH ?yr2_4 ?_
                  case yr2_4 => (intro w' hSw; clear hSw; go_simp; try (with_reducible rfl))
                  simp only [sB, sC]
                  refine Ut 4 102 19 0 0 (v := ?vr2_5) rfl hWr2 hH ?yr2_5 ?_
                  case yr2_5 => (intro w' hSw; clear hSw; go_simp; try (with_reducible rfl))
                  simp only [sB, sC]
                  refine Ut 5 103 18 0 0 (v := ?vr2_6) rfl hWr2 hH ?yr2_6 ?_
                  case yr2_6 => (intro w' hSw; clear hSw; go_simp; try (with_reducible rfl))
                  simp only [sB, sC]
                  refine Ut 6 104 17 0 0 (v := ?vr2_7) rfl hWr2 hH ?yr2_7 ?_
                  case yr2_7 => (intro w' hSw; clear hSw; go_simp; try (with_reducible rfl))
                  simp only [sB, sC]
                  refine U_skips (by kernel_rfl) (fun _ _ _ _ h => h) hWr2 0 0 (by omega) hH [(7, 105), (8, 106), (9, 107), (10, 108), (11, 109), (12, 110)] 11 _ _ _ (by kernel_rfl) (by kernel_rfl) ?_
                  simp only [tsetUndef, List.set_cons_zero, List.set_cons_succ]
                  refine Ut 13 111 10 0 0 (v := ?vr2_8) rfl hWr2 hH ?yr2_8 ?_
                  case yr2_8 => (intro w' hSw; clear hSw; go_simp; try (with_reducible rfl))
                  simp only [sB, sC]
                  refine Ut 14 112 9 0 0 (v := ?vr2_9) rfl hWr2 hH ?yr2_9 ?_
                  case yr2_9 => (intro w' hSw; clear hSw; go_simp; try (with_reducible rfl))
                  simp only [sB, sC]
                  refine Ut 15 113 8 0 0 (v := ?vr2_10) rfl hWr2 hH ?yr2_10 ?_
                  case yr2_10 => (intro w' hSw; clear hSw; go_simp; try (with_reducible rfl))
                  simp only [sB, sC]
                  refine Ut 16 114 7 0 0 (v := ?vr2_11) rfl hWr2 hH ?yr2_11 ?_
                  case yr2_11 => (intro w' hSw; clear hSw; go_simp; try (with_reducible rfl))
                  simp only [sB, sC]
                  refine Ut 17 115 6 0 0 (v := ?vr2_12) rfl hWr2 hH ?yr2_12 ?_
                  case yr2_12 => (intro w' hSw; clear hSw; go_simp; try (with_reducible rfl))
                  simp only [sB, sC]
                  refine Ut 18 116 5 0 0 (v := ?vr2_13) rfl hWr2 hH ?yr2_13 ?_
                  case yr2_13 => (intro w' hSw; clear hSw; go_simp; try (with_reducible rfl))
                  simp only [sB, sC]
                  refine Ut 19 117 4 0 0 (v := ?vr2_14) rfl hWr2 hH ?yr2_14 ?_
                  case yr2_14 => (intro w' hSw; replace hSw := S2o0 hSw; (try dsimp only at hSw); have q0 := hSw.1; have q1 := hSw.2.1; have q2 := hSw.2.2.1; have q3 := hSw.2.2.2; go_simp; try (with_reducible rfl))
                  simp only [sB, sC]
                  refine Ut 20 118 3 0 0 (v := ?vr2_15) rfl hWr2 hH ?yr2_15 ?_
                  case yr2_15 => (intro w' hSw; clear hSw; go_simp; try (with_reducible rfl))
                  simp only [sB, sC]
                  refine Ut 21 119 2 0 0 (v := ?vr2_16) rfl hWr2 hH ?yr2_16 ?_
                  case yr2_16 => (intro w' hSw; clear hSw; go_simp; try (with_reducible rfl))
                  simp only [sB, sC]
                  refine Ut 22 120 1 0 0 (v := ?vr2_17) rfl hWr2 hH ?yr2_17 ?_
                  case yr2_17 => (intro w' hSw; clear hSw; go_simp; try (with_reducible rfl))
                  simp only [sB, sC]
                  refine Ut 23 121 0 0 0 (v := ?vr2_18) rfl hWr2 hH ?yr2_18 ?_
                  case yr2_18 => (intro w' hSw; clear hSw; go_simp; try (with_reducible rfl))
                  simp only [sB, sC]
                  refine wpAnyU_done (by kernel_rfl) ?_ _ _
                  refine NoPanic.normal ?_
                  clear hWr2 hH
                  clear HQ A1 B0 B1 B2 B3
                  replace HK := hid (HK.out.keep ((Below.refl _ _).drew))
                  go_wp2
                  go_roundw
                  case rel => exact ⟨k + 1, H, X, m, hlt, by go_num, rfl, HM, HK⟩
                  case measure => simp [intOf]; omega
                | true =>
                  rw [hh] at hch
                  obtain ⟨⟨⟨x1, x2⟩, x3, x4⟩, hxi⟩ : ∃ x, x = X i := ⟨_, rfl⟩
                  have HG := hid (HK.out.get (i : Int) (b := ((x1, x2), (x3, x4))) (z := 0) (by rw [if_neg (show ¬ ((i : Int) < 0 ∨ 256 ≤ (i : Int)) by omega), Int.toNat_natCast, fof_at hi hh]; exact hxi) (by rw [if_neg (show ¬ ((i : Int) < 0 ∨ 256 ≤ (i : Int)) by omega), Int.toNat_natCast, fof_at hi hh]))
                  have hs32 := HK.out.bx.box (i := i) (by rw [bxL_len]; exact hi)
                  rw [bxL_at hi, Nat.zero_add, ← hxi] at hs32
                  obtain ⟨p0, p1, p2, p3⟩ := hs32
                  dsimp only at p0 p1 p2 p3
                  clear hxi
                  go_wp2_with fail
                  refine HG.out.mono ?_
                  rintro e w6 h6
                  obtain ⟨rfl, hb⟩ := ret_get h6
                  replace HK := hid (HK.out.keep hb)
                  replace a0 := keepCell hb a0
                  replace a1 := keepCell hb a1
                  replace a2 := keepCell hb a2
                  replace a3 := keepCell hb a3
                  replace a4 := keepCell hb a4
                  replace a5 := keepCell hb a5
                  replace p0 := keepCell hb p0
                  replace p1 := keepCell hb p1
                  replace p2 := keepCell hb p2
                  replace p3 := keepCell hb p3
                  have lab := lt_of_cell a0
                  clear hb h6 HG
                  obtain ⟨w7, hw7⟩ : ∃ x, x = w6.alloc (.cells #[.int .i64 x1, .int .i64 x2, .int .i64 x3, .int .i64 x4] 32) := ⟨_, rfl⟩
                  obtain ⟨gb, hgb⟩ : ∃ x, x = w6.heap.size := ⟨_, rfl⟩
                  have hb : Below w6.heap.size w6 w7 := by rw [hw7]; go_grown
                  have B0 : Hid (w7.cell? ⟨gb, 0, none⟩ = some (.int .i64 x1)) := hid (by rw [hw7, hgb]; go_simp)
                  have B1 : Hid (w7.cell? ⟨gb, 1, none⟩ = some (.int .i64 x2)) := hid (by rw [hw7, hgb]; go_simp)
                  have B2 : Hid (w7.cell? ⟨gb, 2, none⟩ = some (.int .i64 x3)) := hid (by rw [hw7, hgb]; go_simp)
                  have B3 : Hid (w7.cell? ⟨gb, 3, none⟩ = some (.int .i64 x4)) := hid (by rw [hw7, hgb]; go_simp)
                  have A1 := hid (keepCell hb a1)
                  have X0 := hid (keepCell hb p0)
                  have X1 := hid (keepCell hb p1)
                  have X2 := hid (keepCell hb p2)
                  have X3 := hid (keepCell hb p3)
                  replace HK := hid (HK.out.keep hb)
                  have HQ := run_eqBP x1 x2 x3 x4
                  clear hb
                  go_upto_region 32 with fail
                  rw [← hw7, ← hgb]
                  clear hw7 hgb a0 a1 a2 a3 a4 a5 p0 p1 p2 p3
                  refine wp_region_noPanic ?_
                  refine wp_region_U (S := (S2 (fun w' => w'.cell? ⟨gb, 0, none⟩ = some (.int .i64 x1) ∧ w'.cell? ⟨gb, 1, none⟩ = some (.int .i64 x2) ∧ w'.cell? ⟨gb, 2, none⟩ = some (.int .i64 x3) ∧ w'.cell? ⟨gb, 3, none⟩ = some (.int .i64 x4) ∧ w'.cell? ⟨ga, 1, none⟩ = some (.int .i64 (i : Nat)) ∧ w'.cell? ⟨gx, i * 4, none⟩ = some (.int .i64 x1) ∧ w'.cell? ⟨gx, i * 4 + 1, none⟩ = some (.int .i64 x2) ∧ w'.cell? ⟨gx, i * 4 + 2, none⟩ = some (.int .i64 x3) ∧ w'.cell? ⟨gx, i * 4 + 3, none⟩ = some (.int .i64 x4)))) (T := (fun _ => 0)) (by kernel_rfl) (S2i0 ⟨B0.out, B1.out, B2.out, B3.out, A1.out, X0.out, X1.out, X2.out, X3.out⟩) (fun hH => ?_)
                  have hWr3 : Weaker (S2 (fun w' => w'.cell? ⟨gb, 0, none⟩ = some (.int .i64 x1) ∧ w'.cell? ⟨gb, 1, none⟩ = some (.int .i64 x2) ∧ w'.cell? ⟨gb, 2, none⟩ = some (.int .i64 x3) ∧ w'.cell? ⟨gb, 3, none⟩ = some (.int .i64 x4) ∧ w'.cell? ⟨ga, 1, none⟩ = some (.int .i64 (i : Nat)) ∧ w'.cell? ⟨gx, i * 4, none⟩ = some (.int .i64 x1) ∧ w'.cell? ⟨gx, i * 4 + 1, none⟩ = some (.int .i64 x2) ∧ w'.cell? ⟨gx, i * 4 + 2, none⟩ = some (.int .i64 x3) ∧ w'.cell? ⟨gx, i * 4 + 3, none⟩ = some (.int .i64 x4))) := weaker2 _
                  refine Ut 0 98 23 0 0 (v := ?vr3_1) rfl hWr3 hH ?yr3_1 ?_
                  case yr3_1 => (intro w' hSw; clear hSw; go_simp; try (with_reducible rfl))
                  simp only [sB, sC]
                  refine Ut 1 99 22 0 0 (v := ?vr3_2) rfl hWr3 hH ?yr3_2 ?_
                  case yr3_2 => (intro w' hSw; clear hSw; go_simp; try (with_reducible rfl))
                  simp only [sB, sC]
                  refine Ut 2 100 21 0 0 (v := ?vr3_3) rfl hWr3 hH ?yr3_3 ?_
                  case yr3_3 => (intro w' hSw; clear hSw; go_simp; try (with_reducible rfl))
                  simp only [sB, sC]
                  refine Ut 3 101 20 0 0 (v := ?vr3_4) rfl hWr3 hH ?yr3_4 ?_
                  case yr3_4 => (intro w' hSw; clear hSw; go_simp; try (with_reducible rfl))
                  simp only [sB, sC]
                  refine Ut 4 102 19 0 0 (v := ?vr3_5) rfl hWr3 hH ?yr3_5 ?_
                  case yr3_5 => (intro w' hSw; clear hSw; go_simp; try (with_reducible rfl))
                  simp only [sB, sC]
                  refine Ut 5 103 18 0 0 (v := ?vr3_6) rfl hWr3 hH ?yr3_6 ?_
                  case yr3_6 => (intro w' hSw; clear hSw; go_simp; try (with_reducible rfl))
                  simp only [sB, sC]
                  refine Ut 6 104 17 0 0 (v := ?vr3_7) rfl hWr3 hH ?yr3_7 ?_
                  case yr3_7 => (intro w' hSw; clear hSw; go_simp; try (with_reducible rfl))
                  simp only [sB, sC]
                  refine Ut 7 105 16 0 0 (v := ?vr3_8) rfl hWr3 hH ?yr3_8 ?_
                  case yr3_8 => (intro w' hSw; replace hSw := S2o0 hSw; (try dsimp only at hSw); have q0 := hSw.1; have q1 := hSw.2.1; have q2 := hSw.2.2.1; have q3 := hSw.2.2.2.1; have q4 := hSw.2.2.2.2.1; have q5 := hSw.2.2.2.2.2.1; have q6 := hSw.2.2.2.2.2.2.1; have q7 := hSw.2.2.2.2.2.2.2.1; have q8 := hSw.2.2.2.2.2.2.2.2; go_simp; try (with_reducible rfl))
                  simp only [sB, sC]
                  refine Ut 8 106 15 0 0 (v := ?vr3_9) rfl hWr3 hH ?yr3_9 ?_
                  case yr3_9 => (intro w' hSw; clear hSw; go_simp; try (with_reducible rfl))
                  simp only [sB, sC]
                  refine Ut 9 107 14 0 0 (v := ?vr3_10) rfl hWr3 hH ?yr3_10 ?_
                  case yr3_10 => (intro w' hSw; replace hSw := S2o0 hSw; (try dsimp only at hSw); have q0 := hSw.1; have q1 := hSw.2.1; have q2 := hSw.2.2.1; have q3 := hSw.2.2.2.1; have q4 := hSw.2.2.2.2.1; have q5 := hSw.2.2.2.2.2.1; have q6 := hSw.2.2.2.2.2.2.1; have q7 := hSw.2.2.2.2.2.2.2.1; have q8 := hSw.2.2.2.2.2.2.2.2; go_simp; try (with_reducible rfl))
                  simp only [sB, sC]
                  refine Ut 10 108 13 0 0 (v := ?vr3_11) rfl hWr3 hH ?yr3_11 ?_
                  case yr3_11 => (intro w' hSw; clear hSw; go_simp; try (with_reducible rfl))
                  simp only [sB, sC]
                  refine Ut 11 109 12 0 0 (v := ?vr3_12) rfl hWr3 hH ?yr3_12 ?_
                  case yr3_12 => (intro w' hSw; replace hSw := S2o0 hSw; (try dsimp only at hSw); have q0 := hSw.1; have q1 := hSw.2.1; have q2 := hSw.2.2.1; have q3 := hSw.2.2.2.1; have q4 := hSw.2.2.2.2.1; have q5 := hSw.2.2.2.2.2.1; have q6 := hSw.2.2.2.2.2.2.1; have q7 := hSw.2.2.2.2.2.2.2.1; have q8 := hSw.2.2.2.2.2.2.2.2; go_simp; try (with_reducible rfl))
                  simp only [sB, sC]
                  refine Ut 12 110 11 0 0 (v := ?vr3_13) rfl hWr3 hH ?yr3_13 ?_
                  case yr3_13 => (intro w' hSw; clear hSw; go_simp; try (with_reducible rfl))
                  simp only [sB, sC]
                  refine Ut 13 111 10 0 0 (v := ?vr3_14) rfl hWr3 hH ?yr3_14 ?_
                  case yr3_14 => (intro w' hSw; clear hSw; go_simp; try (with_reducible rfl))
                  simp only [sB, sC]
                  refine Ut 14 112 9 0 0 (v := ?vr3_15) rfl hWr3 hH ?yr3_15 ?_
                  case yr3_15 => (intro w' hSw; clear hSw; go_simp; try (with_reducible rfl))
                  simp only [sB, sC]
                  refine Ut 15 113 8 0 0 (v := ?vr3_16) rfl hWr3 hH ?yr3_16 ?_
                  case yr3_16 => (intro w' hSw; clear hSw; go_simp; try (with_reducible rfl))
                  simp only [sB, sC]
                  refine Ut 16 114 7 0 0 (v := ?vr3_17) rfl hWr3 hH ?yr3_17 ?_
                  case yr3_17 => (intro w' hSw; clear hSw; go_simp; try (with_reducible rfl))
                  simp only [sB, sC]
                  refine Ut 17 115 6 0 0 (v := ?vr3_18) rfl hWr3 hH ?yr3_18 ?_
                  case yr3_18 => (intro w' hSw; clear hSw; go_simp; try (with_reducible rfl))
                  simp only [sB, sC]
                  refine Ut 18 116 5 0 0 (v := ?vr3_19) rfl hWr3 hH ?yr3_19 ?_
                  case yr3_19 => (intro w' hSw; clear hSw; go_simp; try (with_reducible rfl))
                  simp only [sB, sC]
                  refine U_skips (by kernel_rfl) (fun _ _ _ _ h => h) hWr3 0 0 (by omega) hH [(19, 117), (20, 118), (21, 119)] 2 _ _ _ (by kernel_rfl) (by kernel_rfl) ?_
                  simp only [tsetUndef, List.set_cons_zero, List.set_cons_succ]
                  refine Ut 22 120 1 0 0 (v := ?vr3_20) rfl hWr3 hH ?yr3_20 ?_
                  case yr3_20 => (intro w' hSw; clear hSw; go_simp; try (with_reducible rfl))
                  simp only [sB, sC]
                  refine Ut 23 121 0 0 0 (v := ?vr3_21) rfl hWr3 hH ?yr3_21 ?_
                  case yr3_21 => (intro w' hSw; clear hSw; go_simp; try (with_reducible rfl))
                  simp only [sB, sC]
                  refine wpAnyU_done (by kernel_rfl) ?_ _ _
                  refine NoPanic.normal ?_
                  clear hWr3 hH
                  clear HQ A1 B0 B1 B2 B3 X0 X1 X2 X3
                  replace HK := hid (HK.out.keep ((Below.refl _ _).drew))
                  go_wp2
                  go_roundw
                  case rel => exact ⟨k + 1, H, X, m, hlt, by go_num, rfl, HM, HK⟩
                  case measure => simp [intOf]; omega
              · skip
                have HFO := hid (HK.out.found what (i : Int) b1 b2 b3 b4)
                have hL1 := run_hasLoad HK.out.has
                have hL2 := run_bxsLoad HK.out.bx
                obtain ⟨hv, hhv⟩ : ∃ x, x = hasV H := ⟨_, rfl⟩
                obtain ⟨xv, hxv⟩ : ∃ x, x = bxsV X := ⟨_, rfl⟩
                rw [← hhv] at HFO hL1
                rw [← hxv] at HFO hL2
                clear hhv hxv
                go_wp2_with fail
                refine wp_loadOp rfl hL1 ?_
                go_wp2_with fail
                refine wp_loadOp rfl hL2 ?_
                clear hL1 hL2
                go_wp2_with fail
                refine HFO.out.mono ?_
                rintro e w6 ⟨rfl, hb⟩
                replace HK := hid (HK.out.keep hb)
                clear hb HFO a0 a1 a2 a3 a4 a5
                have hL := HK.out.len
                rw [← HM.out] at hL
                have HL := hid hL
                clear hL
                go_wp2_with fail
                refine HL.out.mono ?_
                rintro e wa ⟨rfl, hb⟩
                replace HK := hid (HK.out.keep hb)
                clear hb HL
                have hL := HK.out.height
                rw [← HM.out] at hL
                have HL := hid hL
                clear hL
                go_wp2_with fail
                refine HL.out.mono ?_
                rintro e wb ⟨zh, rfl, hz, hb⟩
                replace HK := hid (HK.out.keep hb)
                have HLW := hid (low_calls zh _ hz (by rw [HM.out]; exact cnt_le _))
                clear hb HL hz
                go_wp2_with fail
                refine (HLW.out _).mono ?_
                rintro e wd ⟨rfl, hb⟩
                replace HK := hid (HK.out.keep hb)
                clear hb HLW
                go_wp2
                go_roundw
                case rel => exact ⟨k + 1, H, X, m, hlt, by go_num, rfl, HM, HK⟩
                case measure => simp [intOf]; omega
        · rw [decide_eq_false hok]
          have hno : id < 0 ∨ 256 ≤ id := by omega
          by_cases c0 : what = 0
          · subst c0
            have HPB := hid (fun w => tputbad_calls g id b1 b2 b3 b4 (hno.imp_right .inl) w)
            skip
            go_wp2_with fail
            refine (HPB.out _).mono ?_
            rintro e w6b ⟨rfl, hb⟩
            replace HK := hid (HK.out.keep hb)
            clear hb HPB a0 a1 a2 a3 a4 a5
            have hL := HK.out.len
            rw [← HM.out] at hL
            have HL := hid hL
            clear hL
            go_wp2_with fail
            refine HL.out.mono ?_
            rintro e wa ⟨rfl, hb⟩
            replace HK := hid (HK.out.keep hb)
            clear hb HL
            have hL := HK.out.height
            rw [← HM.out] at hL
            have HL := hid hL
            clear hL
            go_wp2_with fail
            refine HL.out.mono ?_
            rintro e wb ⟨zh, rfl, hz, hb⟩
            replace HK := hid (HK.out.keep hb)
            have HLW := hid (low_calls zh _ hz (by rw [HM.out]; exact cnt_le _))
            clear hb HL hz
            go_wp2_with fail
            refine (HLW.out _).mono ?_
            rintro e wd ⟨rfl, hb⟩
            replace HK := hid (HK.out.keep hb)
            clear hb HLW
            go_wp2
            go_roundw
            case rel => exact ⟨k + 1, H, X, m, hlt, by go_num, rfl, HM, HK⟩
            case measure => simp [intOf]; omega
          · by_cases c1 : what = 1
            · subst c1
              have HD := hid (fun w => tdropbad_calls g id hno w)
              go_wp2_with fail
              refine (HD.out _).mono ?_
              rintro e w6a ⟨rfl, hb⟩
              replace HK := hid (HK.out.keep hb)
              clear hb HD a0 a1 a2 a3 a4 a5
              have hL := HK.out.len
              rw [← HM.out] at hL
              have HL := hid hL
              clear hL
              go_wp2_with fail
              refine HL.out.mono ?_
              rintro e wa ⟨rfl, hb⟩
              replace HK := hid (HK.out.keep hb)
              clear hb HL
              have hL := HK.out.height
              rw [← HM.out] at hL
              have HL := hid hL
              clear hL
              go_wp2_with fail
              refine HL.out.mono ?_
              rintro e wb ⟨zh, rfl, hz, hb⟩
              replace HK := hid (HK.out.keep hb)
              have HLW := hid (low_calls zh _ hz (by rw [HM.out]; exact cnt_le _))
              clear hb HL hz
              go_wp2_with fail
              refine (HLW.out _).mono ?_
              rintro e wd ⟨rfl, hb⟩
              replace HK := hid (HK.out.keep hb)
              clear hb HLW
              go_wp2
              go_roundw
              case rel => exact ⟨k + 1, H, X, m, hlt, by go_num, rfl, HM, HK⟩
              case measure => simp [intOf]; omega
            · by_cases c2 : what = 2
              · subst c2
                have HG := hid (HK.out.get id (b := ((0, 0), (0, 0))) (z := 1) (by rw [if_pos hno]) (by rw [if_pos hno]))
                go_wp2_with fail
                refine HG.out.mono ?_
                rintro e w6 h6
                obtain ⟨rfl, hb⟩ := ret_get h6
                replace HK := hid (HK.out.keep hb)
                replace a0 := keepCell hb a0
                replace a1 := keepCell hb a1
                replace a2 := keepCell hb a2
                replace a3 := keepCell hb a3
                replace a4 := keepCell hb a4
                replace a5 := keepCell hb a5
                have lab := lt_of_cell a0
                clear hb h6 HG
                obtain ⟨w7, hw7⟩ : ∃ x, x = w6.alloc (.cells #[.int .i64 0, .int .i64 0, .int .i64 0, .int .i64 0] 32) := ⟨_, rfl⟩
                obtain ⟨gb, hgb⟩ : ∃ x, x = w6.heap.size := ⟨_, rfl⟩
                have hb : Below w6.heap.size w6 w7 := by rw [hw7]; go_grown
                have B0 : Hid (w7.cell? ⟨gb, 0, none⟩ = some (.int .i64 0)) := hid (by rw [hw7, hgb]; go_simp)
                have B1 : Hid (w7.cell? ⟨gb, 1, none⟩ = some (.int .i64 0)) := hid (by rw [hw7, hgb]; go_simp)
                have B2 : Hid (w7.cell? ⟨gb, 2, none⟩ = some (.int .i64 0)) := hid (by rw [hw7, hgb]; go_simp)
                have B3 : Hid (w7.cell? ⟨gb, 3, none⟩ = some (.int .i64 0)) := hid (by rw [hw7, hgb]; go_simp)
                have A1 := hid (keepCell hb a1)
                replace HK := hid (HK.out.keep hb)
                have HQ := run_eqBP 0 0 0 0
                clear hb
                go_upto_region 32 with fail
                rw [← hw7, ← hgb]
                clear hw7 hgb a0 a1 a2 a3 a4 a5
                refine wp_region_noPanic ?_
                refine wp_region_U (S := (S2 (fun w' => w'.cell? ⟨gb, 0, none⟩ = some (.int .i64 0) ∧ w'.cell? ⟨gb, 1, none⟩ = some (.int .i64 0) ∧ w'.cell? ⟨gb, 2, none⟩ = some (.int .i64 0) ∧ w'.cell? ⟨gb, 3, none⟩ = some (.int .i64 0)))) (T := (fun _ => 0)) (by kernel_rfl) (S2i0 ⟨B0.out, B1.out, B2.out, B3.out⟩) (fun hH => ?_)
                have hWr4 : Weaker (S2 (fun w' => w'.cell? ⟨gb, 0, none⟩ = some (.int .i64 0) ∧ w'.cell? ⟨gb, 1, none⟩ = some (.int .i64 0) ∧ w'.cell? ⟨gb, 2, none⟩ = some (.int .i64 0) ∧ w'.cell? ⟨gb, 3, none⟩ = some (.int .i64 0))) := weaker2 _
                refine Ut 0 98 23 0 0 (v := ?vr4_1) rfl hWr4 hH ?yr4_1 ?_
                case yr4_1 => (intro w' hSw; clear hSw; go_simp; try (with_reducible rfl))
                simp only [sB, sC]
                refine Ut 1 99 22 0 0 (v := ?vr4_2) rfl hWr4 hH ?yr4_2 ?_
                case yr4_2 => (intro w' hSw; clear hSw; go_simp; try (with_reducible rfl))
                simp only [sB, sC]
                refine Ut 2 100 21 0 0 (v := ?vr4_3) rfl hWr4 hH ?yr4_3 ?_
                case yr4_3 => (intro w' hSw; clear hSw; go_simp; try (with_reducible rfl))
                simp only [sB, sC]
                refine Ut 3 101 20 0 0 (v := ?vr4_4) rfl hWr4 hH ?yr4_4 ?_
                case yr4_4 => (intro w' hSw; clear hSw; go_simp; try (with_reducible rfl))
                simp only [sB, sC]
                refine Ut 4 102 19 0 0 (v := ?vr4_5) rfl hWr4 hH ?yr4_5 ?_
                case yr4_5 => (intro w' hSw; clear hSw; go_simp; try (with_reducible rfl))
                simp only [sB, sC]
                refine Ut 5 103 18 0 0 (v := ?vr4_6) rfl hWr4 hH ?yr4_6 ?_
                case yr4_6 => (intro w' hSw; clear hSw; go_simp; try (with_reducible rfl))
                simp only [sB, sC]
                refine Ut 6 104 17 0 0 (v := ?vr4_7) rfl hWr4 hH ?yr4_7 ?_
                case yr4_7 => (intro w' hSw; clear hSw; go_simp; try (with_reducible rfl))
                simp only [sB, sC]
                refine U_skips (by kernel_rfl) (fun _ _ _ _ h => h) hWr4 0 0 (by omega) hH [(7, 105), (8, 106), (9, 107), (10, 108), (11, 109), (12, 110)] 11 _ _ _ (by kernel_rfl) (by kernel_rfl) ?_
                simp only [tsetUndef, List.set_cons_zero, List.set_cons_succ]
                refine Ut 13 111 10 0 0 (v := ?vr4_8) rfl hWr4 hH ?yr4_8 ?_
                case yr4_8 => (intro w' hSw; clear hSw; go_simp; try (with_reducible rfl))
                simp only [sB, sC]
                refine Ut 14 112 9 0 0 (v := ?vr4_9) rfl hWr4 hH ?yr4_9 ?_
                case yr4_9 => (intro w' hSw; clear hSw; go_simp; try (with_reducible rfl))
                simp only [sB, sC]
                refine Ut 15 113 8 0 0 (v := ?vr4_10) rfl hWr4 hH ?yr4_10 ?_
                case yr4_10 => (intro w' hSw; clear hSw; go_simp; try (with_reducible rfl))
                simp only [sB, sC]
                refine Ut 16 114 7 0 0 (v := ?vr4_11) rfl hWr4 hH ?yr4_11 ?_
                case yr4_11 => (intro w' hSw; clear hSw; go_simp; try (with_reducible rfl))
                simp only [sB, sC]
                refine Ut 17 115 6 0 0 (v := ?vr4_12) rfl hWr4 hH ?yr4_12 ?_
                case yr4_12 => (intro w' hSw; clear hSw; go_simp; try (with_reducible rfl))
                simp only [sB, sC]
                refine Ut 18 116 5 0 0 (v := ?vr4_13) rfl hWr4 hH ?yr4_13 ?_
                case yr4_13 => (intro w' hSw; clear hSw; go_simp; try (with_reducible rfl))
                simp only [sB, sC]
                refine Ut 19 117 4 0 0 (v := ?vr4_14) rfl hWr4 hH ?yr4_14 ?_
                case yr4_14 => (intro w' hSw; replace hSw := S2o0 hSw; (try dsimp only at hSw); have q0 := hSw.1; have q1 := hSw.2.1; have q2 := hSw.2.2.1; have q3 := hSw.2.2.2; go_simp; try (with_reducible rfl))
                simp only [sB, sC]
                refine Ut 20 118 3 0 0 (v := ?vr4_15) rfl hWr4 hH ?yr4_15 ?_
                case yr4_15 => (intro w' hSw; clear hSw; go_simp; try (with_reducible rfl))
                simp only [sB, sC]
                refine Ut 21 119 2 0 0 (v := ?vr4_16) rfl hWr4 hH ?yr4_16 ?_
                case yr4_16 => (intro w' hSw; clear hSw; go_simp; try (with_reducible rfl))
                simp only [sB, sC]
                refine Ut 22 120 1 0 0 (v := ?vr4_17) rfl hWr4 hH ?yr4_17 ?_
                case yr4_17 => (intro w' hSw; clear hSw; go_simp; try (with_reducible rfl))
                simp only [sB, sC]
                refine Ut 23 121 0 0 0 (v := ?vr4_18) rfl hWr4 hH ?yr4_18 ?_
                case yr4_18 => (intro w' hSw; clear hSw; go_simp; try (with_reducible rfl))
                simp only [sB, sC]
                refine wpAnyU_done (by kernel_rfl) ?_ _ _
                refine NoPanic.normal ?_
                clear hWr4 hH
                clear HQ A1 B0 B1 B2 B3
                replace HK := hid (HK.out.keep ((Below.refl _ _).drew))
                go_wp2
                go_roundw
                case rel => exact ⟨k + 1, H, X, m, hlt, by go_num, rfl, HM, HK⟩
                case measure => simp [intOf]; omega
              · skip
                have HFO := hid (HK.out.found what id b1 b2 b3 b4)
                have hL1 := run_hasLoad HK.out.has
                have hL2 := run_bxsLoad HK.out.bx
                obtain ⟨hv, hhv⟩ : ∃ x, x = hasV H := ⟨_, rfl⟩
                obtain ⟨xv, hxv⟩ : ∃ x, x = bxsV X := ⟨_, rfl⟩
                rw [← hhv] at HFO hL1
                rw [← hxv] at HFO hL2
                clear hhv hxv
                go_wp2_with fail
                refine wp_loadOp rfl hL1 ?_
                go_wp2_with fail
                refine wp_loadOp rfl hL2 ?_
                clear hL1 hL2
                go_wp2_with fail
                refine HFO.out.mono ?_
                rintro e w6 ⟨rfl, hb⟩
                replace HK := hid (HK.out.keep hb)
                clear hb HFO a0 a1 a2 a3 a4 a5
                have hL := HK.out.len
                rw [← HM.out] at hL
                have HL := hid hL
                clear hL
                go_wp2_with fail
                refine HL.out.mono ?_
                rintro e wa ⟨rfl, hb⟩
                replace HK := hid (HK.out.keep hb)
                clear hb HL
                have hL := HK.out.height
                rw [← HM.out] at hL
                have HL := hid hL
                clear hL
                go_wp2_with fail
                refine HL.out.mono ?_
                rintro e wb ⟨zh, rfl, hz, hb⟩
                replace HK := hid (HK.out.keep hb)
                have HLW := hid (low_calls zh _ hz (by rw [HM.out]; exact cnt_le _))
                clear hb HL hz
                go_wp2_with fail
                refine (HLW.out _).mono ?_
                rintro e wd ⟨rfl, hb⟩
                replace HK := hid (HK.out.keep hb)
                clear hb HLW
                go_wp2
                go_roundw
                case rel => exact ⟨k + 1, H, X, m, hlt, by go_num, rfl, HM, HK⟩
                case measure => simp [intOf]; omega
    · have hke : k = mm := by omega
      subst hke
      have hB := HK.out.bel
      clear HK HM
      go_wp2
      go_returns
      exact ret_bool (by simp) hB
end
end Go.Proofs.Ytiaoandbdgdecaa
