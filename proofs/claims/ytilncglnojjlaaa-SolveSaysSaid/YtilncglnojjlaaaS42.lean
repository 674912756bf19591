/- Parts of a proof: contracts and laws. -/
import Derived.Test.YtilncglnojjlaaaS24
import Derived.Test.YtilncglnojjlaaaS41
import Derived.Test.YtilncglnojjlaaaS35
namespace Go.Proofs.Ytilncglnojjlaaa
section
set_option linter.unusedVariables false
set_option linter.unusedSimpArgs false
open Go.RowKit
set_option maxRecDepth 100000 in
set_option maxHeartbeats 1000000 in
theorem cloneCt_calls (A : Option Addr) (n c : Nat) (l : List Ct) (w : World) (hS : SlE layC w A n c l) (hl : l.length ≤ 100000) : Calls Try.prog 31 #[.slice A n c] w fun e w' => ∃ s, e = .returned s ∧ OwnE layC 36 w' w.heap.size s l ∧ Below w.heap.size w w' := by
  have hcmp : ∀ w' : World, (binOp .eql 23 (.slice A n c) (.slice none 0 0)).run Try.prog w' = .ok (.bool A.isNone) w' := fun w' => Lib.run_eql_slice_nil w' 23 _ A n c 0 0 Try.underlying23
  cases A with
  | none =>
    have hl0 : l = [] := by
      rcases l with _ | ⟨a, r⟩
      · rfl
      · obtain ⟨b, off, h, _⟩ := hS.at_ (by simp); cases h
    subst hl0
    clear hS
    go_enter Try.func31, Try.ntmps31
    go_wp2
    refine bodyPost_ret (v := .slice none 0 0) (by simp [results, Try.results31, go_sem]) rfl ⟨_, rfl, OwnE.nil _ _ _ _, Below.refl _ _⟩
  | some ad =>
    have hn := hS.len
    have HS := hid hS
    clear hS
    subst hn
    have HO : Hid (OwnE layC 36 (w.alloc (.cells #[] 36)) w.heap.size (.slice (some ⟨w.heap.size, 0, none⟩) 0 0) []) := ⟨by simp [flatE], .inr ⟨w.heap.size, 0, #[], rfl, Nat.le_refl _, heap_alloc_new w _, Nat.le_refl _, Nat.zero_le _, by simp, by simp [flatE]⟩⟩
    have hb0 : Below w.heap.size w (w.alloc (.cells #[] 36)) := by go_grown
    go_enter Try.func31, Try.ntmps31
    go_wp2_with (at_builtin; refine wpList_append_S tyContact rfl _ _ rfl w.heap.size _ [] rfl HO.out _ _ _ l rfl (HS.out.below hb0) (by first | omega | (simp; omega)) (by first | omega | (simp; omega)) (by simp) ?_; intro v' w1 ho1 hg1 hat; have HO1 := hid ho1; have hb1 := hid (hb0.grown hg1 (by simp) (fun k hk => (HO.out.lt hk).1)); clear ho1 hg1 hat)
    obtain ⟨A', n', c', rfl, -, -⟩ := HO1.out.sl
    refine bodyPost_ret (v := .slice A' n' c') (by simp [results, Try.results31, go_sem]) rfl ⟨_, rfl, by simpa using HO1.out, hb1.out⟩
set_option maxRecDepth 100000 in
theorem run_eqCt (x : Ct) (w : World) : (Op.equalIn 10000 36 (ctV x) (ctV x)).run Try.prog w = .ok true w := by
  have hS : Try.prog.underlying 36 = some (.struct (Try.prog.fieldsOf 36)) := by kernel_rfl
  have hp : Try.prog.stoodInHeld 36 = false := by kernel_rfl
  have hS2 : Try.prog.underlying 34 = some (.struct (Try.prog.fieldsOf 34)) := by kernel_rfl
  have hp2 : Try.prog.stoodInHeld 34 = false := by kernel_rfl
  have inner : ∀ a b : Int, ∀ w, (Op.equalIn 9999 34 (.agg #[.int .i64 a, .int .i64 b]) (.agg #[.int .i64 a, .int .i64 b])).run Try.prog w = .ok true w := fun a b w => by
    rw [show (9999 : Nat) = 9998 + 1 from rfl, run_equalIn_agg w 9998 34 _ _ hS2 hp2]
    simp only [Program.fieldsOf, Try.underlying34]
    go_simp
  obtain ⟨a, b, id, px, py, nx, ny, dep, push, sli⟩ := x
  show (Op.equalIn 10000 36 (.agg #[.int .i64 a, .int .i64 b, .int .i64 id, .int .i64 px, .int .i64 py, .int .i64 nx, .int .i64 ny, .int .i64 dep, .int .i64 push, .int .i64 sli]) (.agg #[.int .i64 a, .int .i64 b, .int .i64 id, .int .i64 px, .int .i64 py, .int .i64 nx, .int .i64 ny, .int .i64 dep, .int .i64 push, .int .i64 sli])).run Try.prog w = .ok true w
  rw [show (10000 : Nat) = 9999 + 1 from rfl, run_equalIn_agg w 9999 36 _ _ hS hp]
  simp only [Program.fieldsOf, Try.underlying36]
  go_simp
set_option maxRecDepth 100000 in
set_option maxHeartbeats 4000000 in
theorem equalCt_calls (A B : Option Addr) (n c m c' : Nat) (l : List Ct) (w : World) (hS : SlE layC w A n c l) (hR : SlE layC w B m c' l) :
    Calls Try.prog 13 #[.slice A n c, .slice B m c'] w (Ret (.bool true) w) := by
  have hn := hS.len
  have hcap := hS.cap
  have hbig := hS.big
  have hn' := hR.len
  have hcap' := hR.cap
  have hbig' := hR.big
  subst hn hn'
  have HS := hid hS
  have HR := hid hR
  clear hS hR
  go_enter Try.func13, Try.ntmps13
  go_wp2
  go_loopw [13] (fun i wr => ∃ k : Nat, k ≤ l.length ∧ i = .int .i64 k ∧ Below w.heap.size w wr) (fun i _ => l.length - (intOf i).toNat)
  case atStart => exact ⟨0, Nat.zero_le _, rfl, Below.refl _ _⟩
  case round =>
    obtain ⟨k, hk, rfl, hB⟩ := hrel
    obtain ⟨wo, rfl⟩ : ∃ wo : World, wo = wr := ⟨_, rfl⟩
    by_cases hlt : k < l.length
    · obtain ⟨ba, oa, hA, hC⟩ := (HS.out.below hB).at_ (by intro h; subst h; simp at hlt)
      obtain ⟨bb, ob, hA2, hC2⟩ := (HR.out.below hB).at_ (by intro h; subst h; simp at hlt)
      subst hA hA2
      obtain ⟨x, hx⟩ : ∃ x, x = l[k] := ⟨_, rfl⟩
      have HX := hid hx
      have HEQ := run_eqCt x
      have hlt' : (k : Int) < (l.length : Int) := by omega
      have hkw : IntKind.i64.wrap ((k : Int) + 1) = (k : Int) + 1 := IntWalk.i64_in _ (by omega)
      clear hx
      go_upto_region 6 with fail
      refine wp_region_noPanic ?_
      refine wp_region_U (S := (S2 (fun w' => CellsE layC w' ba oa l ∧ CellsE layC w' bb ob l ∧ Below w.heap.size w w'))) (T := (fun _ => 0)) (by kernel_rfl) (S2i0 ⟨CellsE.below (Below.refl _ _).drew hC, CellsE.below (Below.refl _ _).drew hC2, hB.drew⟩) (fun hH => ?_)
      have hWr1 : Weaker (S2 (fun w' => CellsE layC w' ba oa l ∧ CellsE layC w' bb ob l ∧ Below w.heap.size w w')) := weaker2 _
      refine U_take 0 16 8 0 0 (v := ?vr1_1) rfl (by kernel_rfl) (by kernel_rfl) hWr1 (by kernel_rfl) (by kernel_rfl) (by kernel_rfl) (by kernel_rfl) (by kernel_rfl) (by kernel_rfl) (fun _ _ _ _ h => h) (by kernel_rfl) ?hyr1_1 (by omega) hH ?_
      case hyr1_1 => (intro w' hSw; clear hSw; go_simp; try (with_reducible rfl))
      simp only [List.set_cons_zero, List.set_cons_succ]
      refine U_take 1 17 7 0 0 (v := ?vr1_2) rfl (by kernel_rfl) (by kernel_rfl) hWr1 (by kernel_rfl) (by kernel_rfl) (by kernel_rfl) (by kernel_rfl) (by kernel_rfl) (by kernel_rfl) (fun _ _ _ _ h => h) (by kernel_rfl) ?hyr1_2 (by omega) hH ?_
      case hyr1_2 => (intro w' hSw; clear hSw; go_simp; try (with_reducible rfl))
      simp only [List.set_cons_zero, List.set_cons_succ]
      refine U_take 2 18 6 0 0 (v := ?vr1_3) rfl (by kernel_rfl) (by kernel_rfl) hWr1 (by kernel_rfl) (by kernel_rfl) (by kernel_rfl) (by kernel_rfl) (by kernel_rfl) (by kernel_rfl) (fun _ _ _ _ h => h) (by kernel_rfl) ?hyr1_3 (by omega) hH ?_
      case hyr1_3 => (intro w' hSw; clear hSw; go_simp; try (with_reducible rfl))
      simp only [List.set_cons_zero, List.set_cons_succ]
      refine U_take 3 19 5 0 0 (v := ?vr1_4) rfl (by kernel_rfl) (by kernel_rfl) hWr1 (by kernel_rfl) (by kernel_rfl) (by kernel_rfl) (by kernel_rfl) (by kernel_rfl) (by kernel_rfl) (fun _ _ _ _ h => h) (by kernel_rfl) ?hyr1_4 (by omega) hH ?_
      case hyr1_4 => (intro w' hSw; replace hSw := S2o0 hSw; (try dsimp only at hSw); have q0 := hSw.1; have q1 := hSw.2.1; have q2 := hSw.2.2; obtain ⟨qa0_0, qa0_1, qa0_2, qa0_3, qa0_4, qa0_5, qa0_6, qa0_7, qa0_8, qa0_9⟩ := cells_ct (q0) hlt HX.out; obtain ⟨c1_0, c1_1, c1_2, c1_3, c1_4, c1_5, c1_6, c1_7, c1_8, c1_9⟩ := cells_ct (q1) hlt HX.out; go_simp; try (with_reducible rfl))
      simp only [List.set_cons_zero, List.set_cons_succ]
      refine U_take 4 20 4 0 0 (v := ?vr1_5) rfl (by kernel_rfl) (by kernel_rfl) hWr1 (by kernel_rfl) (by kernel_rfl) (by kernel_rfl) (by kernel_rfl) (by kernel_rfl) (by kernel_rfl) (fun _ _ _ _ h => h) (by kernel_rfl) ?hyr1_5 (by omega) hH ?_
      case hyr1_5 => (intro w' hSw; clear hSw; go_simp; try (with_reducible rfl))
      simp only [List.set_cons_zero, List.set_cons_succ]
      refine U_take 5 21 3 0 0 (v := ?vr1_6) rfl (by kernel_rfl) (by kernel_rfl) hWr1 (by kernel_rfl) (by kernel_rfl) (by kernel_rfl) (by kernel_rfl) (by kernel_rfl) (by kernel_rfl) (fun _ _ _ _ h => h) (by kernel_rfl) ?hyr1_6 (by omega) hH ?_
      case hyr1_6 => (intro w' hSw; clear hSw; go_simp; try (with_reducible rfl))
      simp only [List.set_cons_zero, List.set_cons_succ]
      refine U_take 6 22 2 0 0 (v := ?vr1_7) rfl (by kernel_rfl) (by kernel_rfl) hWr1 (by kernel_rfl) (by kernel_rfl) (by kernel_rfl) (by kernel_rfl) (by kernel_rfl) (by kernel_rfl) (fun _ _ _ _ h => h) (by kernel_rfl) ?hyr1_7 (by omega) hH ?_
      case hyr1_7 => (intro w' hSw; clear hSw; go_simp; try (with_reducible rfl))
      simp only [List.set_cons_zero, List.set_cons_succ]
      refine U_take 7 23 1 0 0 (v := ?vr1_8) rfl (by kernel_rfl) (by kernel_rfl) hWr1 (by kernel_rfl) (by kernel_rfl) (by kernel_rfl) (by kernel_rfl) (by kernel_rfl) (by kernel_rfl) (fun _ _ _ _ h => h) (by kernel_rfl) ?hyr1_8 (by omega) hH ?_
      case hyr1_8 => (intro w' hSw; replace hSw := S2o0 hSw; (try dsimp only at hSw); have q0 := hSw.1; have q1 := hSw.2.1; have q2 := hSw.2.2; obtain ⟨qa0_0, qa0_1, qa0_2, qa0_3, qa0_4, qa0_5, qa0_6, qa0_7, qa0_8, qa0_9⟩ := cells_ct (q0) hlt HX.out; obtain ⟨c1_0, c1_1, c1_2, c1_3, c1_4, c1_5, c1_6, c1_7, c1_8, c1_9⟩ := cells_ct (q1) hlt HX.out; go_simp; try (with_reducible rfl))
      simp only [List.set_cons_zero, List.set_cons_succ]
      refine U_take 8 24 0 0 0 (v := ?vr1_9) rfl (by kernel_rfl) (by kernel_rfl) hWr1 (by kernel_rfl) (by kernel_rfl) (by kernel_rfl) (by kernel_rfl) (by kernel_rfl) (by kernel_rfl) (fun _ _ _ _ h => h) (by kernel_rfl) ?hyr1_9 (by omega) hH ?_
      case hyr1_9 => (intro w' hSw; clear hSw; go_simp; try (with_reducible rfl))
      simp only [List.set_cons_zero, List.set_cons_succ]
      refine wpAnyU_done (by kernel_rfl) ?_ _ _
      refine NoPanic.normal ?_
      clear hWr1
      replace hH := S2o0 hH
      (try dsimp only at hH)
      have t0 := hH.1
      have t1 := hH.2.1
      have t2 := hH.2.2
      have hB2 := t2
      clear t0 t1 t2 hH
      go_wp2
      go_roundw
      case rel => exact ⟨k + 1, by omega, by go_num, hB2⟩
      case measure => simp [intOf] <;> omega
    · have hkn : k = l.length := by omega
      subst hkn
      go_wp2
      go_returns
      exact ret_bool (by simp) hB
end
end Go.Proofs.Ytilncglnojjlaaa
