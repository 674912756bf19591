/- Parts of a proof: contracts and laws. -/
import Derived.Test.YtiaoandbdgdecaaGreatPN11
import Derived.Test.YtiaoandbdgdecaaGreatPN21
import Derived.Test.YtiaoandbdgdecaaGreatPN22
import Derived.Test.YtiaoandbdgdecaaGreatPN03
namespace Go.Proofs.YtiaoandbdgdecaaGreat
section
set_option linter.unusedVariables false
set_option linter.unusedSimpArgs false
open Go.RowKit
section
variable {α : Type} {L : Lay α} {e : TypeId}

theorem run_append_S {t : TypeId} {bytes : Nat} (hT : TyE L t e bytes) (ty : TypeId) (w : World) (B : Nat) (v : Value) (l : List α) (hown : OwnE L e w B v l) (A : Option Addr) (n c : Nat) (m : List α) (hS : SlE L w A n c m)
  (hl : l.length + m.length ≤ 8796093022208) (hby : (l.length + m.length) * bytes ≤ 140737488355328) (hB : B ≤ w.heap.size) :
  ∃ v' w', (Builtin.append_ #[t, t] ty #[v, .slice A n c]).run Tryz.prog w = .ok v' w' ∧ OwnE L e w' B v' (l ++ m) ∧ w.grownBy w' v.ownBlock ∧ (v'.ownBlock = v.ownBlock ∨ v'.ownBlock = some w.heap.size) := by
 by_cases h0 : m = []
 ·subst h0
  have hn := hS.len
  simp at hn
  subst hn
  obtain ⟨i0, z, hi, hz0, hz1, hz2, hz3⟩ := hT.hi
  cases A with
  | none =>
   refine ⟨v, w, ?_, by simpa using hown, ⟨rfl, rfl, rfl, Nat.le_refl _, fun _ _ _ => rfl⟩, .inl rfl⟩
   rcases hown.2 with ⟨rfl, hx⟩ | ⟨g, cap, cur, rfl, _, _, hnc, _⟩
   ·simp [Builtin.append_, run_underlying hT.ht, sizeOf, typeInfo, hi, Builtin.lenOf, Builtin.firstCells]
   ·simp [Builtin.append_, run_underlying hT.ht, sizeOf, typeInfo, hi, Builtin.lenOf, Builtin.firstCells, hnc, storeCells]
  | some ad =>
   obtain ⟨v', w', hr, h2, h3, h4, h5⟩ := run_append_own_at (P := Tryz.prog) w B t ty e i0 z L.k bytes hT.ht hi hz0 hz1 hz2 hz3 L.pos v l.length (flatE L l) hown ad 0 c [] (by simp) (fun j u hj => by simp at hj) (by simp) (by unfold maxLen; simp at hl; omega) (by simpa using hby) hB
   refine ⟨v', w', hr, ?_, h3, h5⟩
   unfold OwnE
   simpa using h2
 ·obtain ⟨b, off, rfl, hC⟩ := hS.at_ h0
  exact run_append_E hT ty w B v l hown b off n c m hS.len hC hl hby hB
theorem wpList_append_S {t : TypeId} {bytes : Nat} (hT : TyE L t e bytes) {w : World} {ops : Array Oper} {rest : List Oper} {o : Oper} {a : Act} {Q : Exit → Act → World → Prop} (hgd : o.guard = none) (s x : Operand)
  (ho : o.op = .call { callee := .builtin .append, args := #[s, x], argTypes := #[t, t] })
  (B : Nat) (v : Value) (l : List α) (hs : a.eval s = v) (hown : OwnE L e w B v l) (A : Option Addr) (n c : Nat) (m : List α) (hx : a.eval x = .slice A n c) (hS : SlE L w A n c m)
  (hl : l.length + m.length ≤ 8796093022208) (hby : (l.length + m.length) * bytes ≤ 140737488355328) (hB : B ≤ w.heap.size)
  (h : ∀ v' w', OwnE L e w' B v' (l ++ m) → w.grownBy w' v.ownBlock → (v'.ownBlock = v.ownBlock ∨ v'.ownBlock = some w.heap.size) → wpList Tryz.prog ops Q rest (a.put o.dst v') w') : wpList Tryz.prog ops Q (o :: rest) a w := by
 obtain ⟨v', w', hr, h2, h3, h5⟩ := run_append_S hT o.type w B v l hown A n c m hS hl hby hB
 refine wpList_plain hgd fun K hK => ?_
 unfold Oper.wp execOp
 simp only [ho, resolve, invoke, builtin, Sem.run_bind, Sem.run_pure, Result.andThen_ok, List.map_toArray, List.map_cons, List.map_nil, hs, hx, hr]
 exact hK _ _ (h v' w' h2 h3 h5)
end
end
end Go.Proofs.YtiaoandbdgdecaaGreat
namespace Go.Proofs.YtiaoandbdgdecaaGreat
section
set_option linter.unusedVariables false
set_option linter.unusedSimpArgs false
open Go.RowKit
set_option maxRecDepth 100000 in
set_option maxHeartbeats 1000000 in
theorem cloneCt_calls (A : Option Addr) (n c : Nat) (l : List Ct) (w : World) (hS : SlE layC w A n c l) (hl : l.length ≤ 100000) : Calls Tryz.prog 11 #[.slice A n c] w fun e w' => ∃ s, e = .returned s ∧ OwnE layC 40 w' w.heap.size s l ∧ Below w.heap.size w w' := by
 have hcmp : ∀ w' : World, (binOp .eql 25 (.slice A n c) (.slice none 0 0)).run Tryz.prog w' = .ok (.bool A.isNone) w' := fun w' => Lib.run_eql_slice_nil w' 25 _ A n c 0 0 Tryz.underlying25
 cases A with
 | none =>
  have hl0 : l = [] := by
   rcases l with _ | ⟨a, r⟩
   ·rfl
   ·obtain ⟨b, off, h, _⟩ := hS.at_ (by simp); cases h
  subst hl0
  clear hS
  go_enter Tryz.func11, Tryz.ntmps11
  go_wp2
  refine bodyPost_ret (v := .slice none 0 0) (by simp [results, Tryz.results11, go_sem]) rfl ⟨_, rfl, OwnE.nil _ _ _ _, Below.refl _ _⟩
 | some ad =>
  have hn := hS.len
  have HS := hid hS
  clear hS
  subst hn
  have HO : Hid (OwnE layC 40 (w.alloc (.cells #[] 40)) w.heap.size (.slice (some ⟨w.heap.size, 0, none⟩) 0 0) []) := ⟨by simp [flatE], .inr ⟨w.heap.size, 0, #[], rfl, Nat.le_refl _, heap_alloc_new w _, Nat.le_refl _, Nat.zero_le _, by simp, by simp [flatE]⟩⟩
  have hb0 : Below w.heap.size w (w.alloc (.cells #[] 40)) := by go_grown
  go_enter Tryz.func11, Tryz.ntmps11
  go_wp2_with (at_builtin; refine wpList_append_S tyContact rfl _ _ rfl w.heap.size _ [] rfl HO.out _ _ _ l rfl (HS.out.below hb0) (by first | omega | (simp; omega)) (by first | omega | (simp; omega)) (by simp) ?_; intro v' w1 ho1 hg1 hat; have HO1 := hid ho1; have hb1 := hid (hb0.grown hg1 (by simp) (fun k hk => (HO.out.lt hk).1)); clear ho1 hg1 hat)
  obtain ⟨A', n', c', rfl, -, -⟩ := HO1.out.sl
  refine bodyPost_ret (v := .slice A' n' c') (by simp [results, Tryz.results11, go_sem]) rfl ⟨_, rfl, by simpa using HO1.out, hb1.out⟩
set_option maxRecDepth 100000 in
theorem run_eqCt (x : Ct) (w : World) : (Op.equalIn 10000 40 (ctV x) (ctV x)).run Tryz.prog w = .ok true w := by
 have hS : Tryz.prog.underlying 40 = some (.struct (Tryz.prog.fieldsOf 40)) := by kernel_rfl
 have hp : Tryz.prog.stoodInHeld 40 = false := by kernel_rfl
 have hS2 : Tryz.prog.underlying 27 = some (.struct (Tryz.prog.fieldsOf 27)) := by kernel_rfl
 have hp2 : Tryz.prog.stoodInHeld 27 = false := by kernel_rfl
 have inner : ∀ a b : Int, ∀ w, (Op.equalIn 9999 27 (.agg #[.int .i64 a, .int .i64 b]) (.agg #[.int .i64 a, .int .i64 b])).run Tryz.prog w = .ok true w := fun a b w => by
  rw [show (9999 : Nat) = 9998 + 1 from rfl, run_equalIn_agg w 9998 27 _ _ hS2 hp2]
  simp only [Program.fieldsOf, Tryz.underlying27]
  go_simp
 obtain ⟨a, b, id, px, py, nx, ny, dep, push, sli⟩ := x
 show (Op.equalIn 10000 40 (.agg #[.int .i64 a, .int .i64 b, .int .i64 id, .int .i64 px, .int .i64 py, .int .i64 nx, .int .i64 ny, .int .i64 dep, .int .i64 push, .int .i64 sli]) (.agg #[.int .i64 a, .int .i64 b, .int .i64 id, .int .i64 px, .int .i64 py, .int .i64 nx, .int .i64 ny, .int .i64 dep, .int .i64 push, .int .i64 sli])).run Tryz.prog w = .ok true w
 rw [show (10000 : Nat) = 9999 + 1 from rfl, run_equalIn_agg w 9999 40 _ _ hS hp]
 simp only [Program.fieldsOf, Tryz.underlying40]
 go_simp
set_option maxRecDepth 100000 in
set_option maxHeartbeats 4000000 in
theorem equalCt_calls (A B : Option Addr) (n c m c' : Nat) (l : List Ct) (w : World) (hS : SlE layC w A n c l) (hR : SlE layC w B m c' l) :
  Calls Tryz.prog 15 #[.slice A n c, .slice B m c'] w (Ret (.bool true) w) := by
 have hn := hS.len
 have hcap := hS.cap
 have hbig := hS.big
 have hn' := hR.len
 have hcap' := hR.cap
 have hbig' := hR.big
 subst hn hn'
 have HS := hid hS
 have HR := hid hR
 clear hS hR
 go_enter Tryz.func15, Tryz.ntmps15
 go_wp2
 go_loopw [13] (fun i wr => ∃ k : Nat, k ≤ l.length ∧ i = .int .i64 k ∧ Below w.heap.size w wr) (fun i _ => l.length - (intOf i).toNat)
 case atStart => exact ⟨0, Nat.zero_le _, rfl, Below.refl _ _⟩
 case round =>
  obtain ⟨k, hk, rfl, hB⟩ := hrel
  obtain ⟨wo, rfl⟩ : ∃ wo : World, wo = wr := ⟨_, rfl⟩
  by_cases hlt : k < l.length
  ·obtain ⟨ba, oa, hA, hC⟩ := (HS.out.below hB).at_ (by intro h; subst h; simp at hlt)
   obtain ⟨bb, ob, hA2, hC2⟩ := (HR.out.below hB).at_ (by intro h; subst h; simp at hlt)
   subst hA hA2
   obtain ⟨x, hx⟩ : ∃ x, x = l[k] := ⟨_, rfl⟩
   have HX := hid hx
   have HEQ := run_eqCt x
   have hlt' : (k : Int) < (l.length : Int) := by omega
   have hkw : IntKind.i64.wrap ((k : Int) + 1) = (k : Int) + 1 := IntWalk.i64_in _ (by omega)
   clear hx
   go_upto_region 6 with fail
   refine wp_region_noPanic ?_
   refine wp_region_U (S := (S2 (fun w' => CellsE layC w' ba oa l ∧ CellsE layC w' bb ob l ∧ Below w.heap.size w w'))) (T := (fun _ => 0)) (by kernel_rfl) (S2i0 ⟨CellsE.below (Below.refl _ _).drew hC, CellsE.below (Below.refl _ _).drew hC2, hB.drew⟩) (fun hH => ?_)
   have hWr1 : Weaker (S2 (fun w' => CellsE layC w' ba oa l ∧ CellsE layC w' bb ob l ∧ Below w.heap.size w w')) := weaker2 _
   refine Utn [(0, 16), (1, 17), (2, 18), (3, 19), (4, 20), (5, 21), (6, 22), (7, 23), (8, 24)] 0 0 0 (L' := ?Lr1_1) hWr1 hH ?hyr1_1 ?_
   case hyr1_1 => ((iterate 9 apply tkC; rfl; kernel_rfl; intro w' hSw; replace hSw := S2o0 hSw; (try dsimp only at hSw); have q0 := hSw.1; have q1 := hSw.2.1; have q2 := hSw.2.2; obtain ⟨qa0_0, qa0_1, qa0_2, qa0_3, qa0_4, qa0_5, qa0_6, qa0_7, qa0_8, qa0_9⟩ := cells_ct (q0) hlt HX.out; obtain ⟨c1_0, c1_1, c1_2, c1_3, c1_4, c1_5, c1_6, c1_7, c1_8, c1_9⟩ := cells_ct (q1) hlt HX.out; (try simp only [sB, sC]); go_simp; (try with_reducible rfl)); exact tkN)
   simp only [sB, sC]
   refine wpAnyU_done (by kernel_rfl) ?_ _ _
   refine NoPanic.normal ?_
   clear hWr1
   replace hH := S2o0 hH
   (try dsimp only at hH)
   have t0 := hH.1
   have t1 := hH.2.1
   have t2 := hH.2.2
   have hB2 := t2
   clear t0 t1 t2 hH
   go_wp2
   go_roundw
   case rel => exact ⟨k + 1, by omega, by go_num, hB2⟩
   case measure => simp [intOf] <;> omega
  ·have hkn : k = l.length := by omega
   subst hkn
   go_wp2
   go_returns
   exact ret_bool (by simp) hB
end
end Go.Proofs.YtiaoandbdgdecaaGreat
