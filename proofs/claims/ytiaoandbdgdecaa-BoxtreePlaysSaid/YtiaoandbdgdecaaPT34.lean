/- Parts of a proof: contracts and laws. -/
import Derived.Test.YtiaoandbdgdecaaPT33
import Derived.Deep.WholeRow
namespace Go.Proofs.Ytiaoandbdgdecaa
section
set_option linter.unusedVariables false
set_option linter.unusedSimpArgs false
open Go.RowKit Go.Sort Go.Lib
set_option maxRecDepth 100000 in
set_option maxHeartbeats 2000000 in
theorem bpairs1_calls (p q : Nat × Nat) (W : World) : Calls Try.prog 31 #[.agg #[.int .i64 p.1, .int .i64 p.2], .agg #[.int .i64 q.1, .int .i64 q.2]] W fun e w' => e = .returned (.int .i64 (cmpPair p q)) ∧ ∃ k os, w' = grow (W.drewN k) os := by
  have HZ : Hid (cmpPair p q = if Lib.compareInt p.1 q.1 = 0 then Lib.compareInt p.2 q.2 else Lib.compareInt p.1 q.1) := rfl
  have HC1 := hid (cmpInt_calls (p.1 : Int) (q.1 : Int))
  have HC2 := hid (cmpInt_calls (p.2 : Int) (q.2 : Int))
  generalize cmpPair p q = Z at *
  generalize Lib.compareInt (p.1 : Int) (q.1 : Int) = r at *
  generalize Lib.compareInt (p.2 : Int) (q.2 : Int) = s at *
  obtain ⟨x1, hx1⟩ : ∃ z : Int, z = p.1 := ⟨_, rfl⟩
  obtain ⟨x2, hx2⟩ : ∃ z : Int, z = p.2 := ⟨_, rfl⟩
  obtain ⟨y1, hy1⟩ : ∃ z : Int, z = q.1 := ⟨_, rfl⟩
  obtain ⟨y2, hy2⟩ : ∃ z : Int, z = q.2 := ⟨_, rfl⟩
  rw [← hx1, ← hx2, ← hy1, ← hy2]
  rw [← hx1, ← hy1] at HC1
  rw [← hx2, ← hy2] at HC2
  clear hx1 hx2 hy1 hy2
  obtain ⟨wd, hwd⟩ : ∃ wd, wd = ((W.alloc (.cells #[.int .i64 x1, .int .i64 x2] 52)).alloc (.cells #[.int .i64 y1, .int .i64 y2] 52)).drew := ⟨_, rfl⟩
  have a0 : wd.cell? ⟨W.heap.size, 0, none⟩ = some (.int .i64 x1) := by rw [hwd]; go_simp
  have a1 : wd.cell? ⟨W.heap.size, 1, none⟩ = some (.int .i64 x2) := by rw [hwd]; go_simp
  have a2 : wd.cell? ⟨W.heap.size + 1, 0, none⟩ = some (.int .i64 y1) := by rw [hwd]; go_simp
  have a3 : wd.cell? ⟨W.heap.size + 1, 1, none⟩ = some (.int .i64 y2) := by rw [hwd]; go_simp
  have HWD := hid hwd
  clear hwd
  go_enter Try.func31, Try.ntmps31
  go_upto_region 1 with fail
  refine wp_region_noPanic ?_
  refine wp_region_U (S := (S2 (fun w' => w' = wd))) (T := (fun j => [0, 0, 0, 0, 0, 0, 0, 0, 0, 0, 1].getD j 0)) (by kernel_rfl) (S2i0 HWD.out.symm) (fun hH => ?_)
  have hWr3 : Weaker (S2 (fun w' => w' = wd)) := weaker2 _
  refine U_take 0 5 12 0 0 (v := ?vr3_1) rfl (by kernel_rfl) (by kernel_rfl) hWr3 (by kernel_rfl) (by kernel_rfl) (by kernel_rfl) (by kernel_rfl) (by kernel_rfl) (by kernel_rfl) (fun _ _ _ _ h => h) (by kernel_rfl) ?hyr3_1 (by omega) hH ?_
  case hyr3_1 => (intro w' hSw; clear hSw; go_simp; try (with_reducible rfl))
  simp only [List.set_cons_zero, List.set_cons_succ]
  refine U_take 1 6 11 0 0 (v := ?vr3_2) rfl (by kernel_rfl) (by kernel_rfl) hWr3 (by kernel_rfl) (by kernel_rfl) (by kernel_rfl) (by kernel_rfl) (by kernel_rfl) (by kernel_rfl) (fun _ _ _ _ h => h) (by kernel_rfl) ?hyr3_2 (by omega) hH ?_
  case hyr3_2 => (intro w' hSw; replace hSw := S2o0 hSw; (try dsimp only at hSw); have q0 := hSw; subst q0; go_simp; try (with_reducible rfl))
  simp only [List.set_cons_zero, List.set_cons_succ]
  refine U_take 2 7 10 0 0 (v := ?vr3_3) rfl (by kernel_rfl) (by kernel_rfl) hWr3 (by kernel_rfl) (by kernel_rfl) (by kernel_rfl) (by kernel_rfl) (by kernel_rfl) (by kernel_rfl) (fun _ _ _ _ h => h) (by kernel_rfl) ?hyr3_3 (by omega) hH ?_
  case hyr3_3 => (intro w' hSw; clear hSw; go_simp; try (with_reducible rfl))
  simp only [List.set_cons_zero, List.set_cons_succ]
  refine U_take 3 8 9 0 0 (v := ?vr3_4) rfl (by kernel_rfl) (by kernel_rfl) hWr3 (by kernel_rfl) (by kernel_rfl) (by kernel_rfl) (by kernel_rfl) (by kernel_rfl) (by kernel_rfl) (fun _ _ _ _ h => h) (by kernel_rfl) ?hyr3_4 (by omega) hH ?_
  case hyr3_4 => (intro w' hSw; replace hSw := S2o0 hSw; (try dsimp only at hSw); have q0 := hSw; subst q0; go_simp; try (with_reducible rfl))
  simp only [List.set_cons_zero, List.set_cons_succ]
  refine U_take 5 10 8 0 0 (v := ?vr3_5) rfl (by kernel_rfl) (by kernel_rfl) hWr3 (by kernel_rfl) (by kernel_rfl) (by kernel_rfl) (by kernel_rfl) (by kernel_rfl) (by kernel_rfl) (fun _ _ _ _ h => h) (by kernel_rfl) ?hyr3_5 (by omega) hH ?_
  case hyr3_5 => (intro w' hSw; clear hSw; go_simp; try (with_reducible rfl))
  simp only [List.set_cons_zero, List.set_cons_succ]
  refine U_take 6 11 7 0 0 (v := ?vr3_6) rfl (by kernel_rfl) (by kernel_rfl) hWr3 (by kernel_rfl) (by kernel_rfl) (by kernel_rfl) (by kernel_rfl) (by kernel_rfl) (by kernel_rfl) (fun _ _ _ _ h => h) (by kernel_rfl) ?hyr3_6 (by omega) hH ?_
  case hyr3_6 => (intro w' hSw; replace hSw := S2o0 hSw; (try dsimp only at hSw); have q0 := hSw; subst q0; go_simp; try (with_reducible rfl))
  simp only [List.set_cons_zero, List.set_cons_succ]
  refine U_take 7 12 6 0 0 (v := ?vr3_7) rfl (by kernel_rfl) (by kernel_rfl) hWr3 (by kernel_rfl) (by kernel_rfl) (by kernel_rfl) (by kernel_rfl) (by kernel_rfl) (by kernel_rfl) (fun _ _ _ _ h => h) (by kernel_rfl) ?hyr3_7 (by omega) hH ?_
  case hyr3_7 => (intro w' hSw; clear hSw; go_simp; try (with_reducible rfl))
  simp only [List.set_cons_zero, List.set_cons_succ]
  refine U_take 8 13 5 0 0 (v := ?vr3_8) rfl (by kernel_rfl) (by kernel_rfl) hWr3 (by kernel_rfl) (by kernel_rfl) (by kernel_rfl) (by kernel_rfl) (by kernel_rfl) (by kernel_rfl) (fun _ _ _ _ h => h) (by kernel_rfl) ?hyr3_8 (by omega) hH ?_
  case hyr3_8 => (intro w' hSw; replace hSw := S2o0 hSw; (try dsimp only at hSw); have q0 := hSw; subst q0; go_simp; try (with_reducible rfl))
  simp only [List.set_cons_zero, List.set_cons_succ]
  refine wpAnyU_ready (rs := [4]) (by kernel_rfl) (by simp) ?_
  refine AllReadyU.cons 0 (by kernel_rfl) (o := _) rfl (fun K hK => ?_) AllReadyU.nil
  go_simp
  (go_at_call 33; refine (HC1.out _).mono ?_; rintro e wn ⟨rfl, rfl⟩)
  refine hK.out _ _ ?hsr3_9 (fun hH2 => ?hrr3_9)
  case hsr3_9 => exact S2i0 (by have hG := hH; replace hG := S2o0 hG; (try dsimp only at hG); have q0 := hG; exact q0)
  clear hK K hH
  have hH := hH2
  clear hH2
  try simp only [Act.put, List.setIfInBounds_toArray, List.set_cons_zero, List.set_cons_succ]
  refine wpAnyU_ready (rs := [9]) (by kernel_rfl) (by simp) ?_
  refine AllReadyU.cons 0 (by kernel_rfl) (o := _) rfl (fun K hK => ?_) AllReadyU.nil
  go_simp
  (go_at_call 33; refine (HC2.out _).mono ?_; rintro e wn ⟨rfl, rfl⟩)
  refine hK.out _ _ ?hsr3_10 (fun hH2 => ?hrr3_10)
  case hsr3_10 => exact S2i0 (by have hG := hH; replace hG := S2o0 hG; (try dsimp only at hG); have q0 := hG; exact q0)
  clear hK K hH
  have hH := hH2
  clear hH2
  try simp only [Act.put, List.setIfInBounds_toArray, List.set_cons_zero, List.set_cons_succ]
  refine wpAnyU_ready (rs := [10]) (by kernel_rfl) (by simp) ?_
  refine AllReadyU.cons 1 (by kernel_rfl) (o := _) rfl (fun K hK => ?_) AllReadyU.nil
  have hG := hH
  replace hG := S2o0 hG; (try dsimp only at hG); have q0 := hG
  subst q0
  go_simp
  refine hK.out _ _ ?hsr3_11 (fun hH2 => ?hrr3_11)
  case hsr3_11 => exact S2i1
  clear hK K hH
  have hH := hH2
  clear hH2
  try simp only [Act.put, List.setIfInBounds_toArray, List.set_cons_zero, List.set_cons_succ]
  refine wpAnyU_ready (rs := [11]) (by kernel_rfl) (by simp) ?_
  refine AllReadyU.cons 1 (by kernel_rfl) (o := _) rfl (fun K hK => ?_) AllReadyU.nil
  go_simp
  (go_at_call 32; refine (orInt_calls _ _ r s _ (by go_simp) (by go_simp)).mono ?_; rw [← HZ.out]; rintro e wn ⟨rfl, rfl⟩)
  refine hK.out _ _ ?hsr3_12 (fun hH2 => ?hrr3_12)
  case hsr3_12 => exact S2i1
  clear hK K hH
  have hH := hH2
  clear hH2
  try simp only [Act.put, List.setIfInBounds_toArray, List.set_cons_zero, List.set_cons_succ]
  refine U_take 12 4 0 1 1 (v := ?vr3_13) rfl (by kernel_rfl) (by kernel_rfl) hWr3 (by kernel_rfl) (by kernel_rfl) (by kernel_rfl) (by kernel_rfl) (by kernel_rfl) (by kernel_rfl) (fun _ _ _ _ h => h) (by kernel_rfl) ?hyr3_13 (by omega) hH ?_
  case hyr3_13 => (intro w' hSw; clear hSw; go_simp; try (with_reducible rfl))
  simp only [List.set_cons_zero, List.set_cons_succ]
  refine wpAnyU_done (by kernel_rfl) ?_ _ _
  refine NoPanic.normal ?_
  clear hH
  go_wp2
  go_returns
  refine ⟨rfl, ?_⟩
  exact ⟨1, _, by rw [alloc_eq_grow, alloc_eq_grow, alloc_eq_grow]; show grow (grow (grow W.drew _) _) _ = _; rw [grow_grow, grow_grow]; rfl⟩
theorem cf_bp1 (args : Array Value) (w : World) : (callFunc 31 args).run Try.prog w = .ok (.enter 31 args) w := by kernel_rfl
set_option maxHeartbeats 1000000 in
theorem bsortPairs_calls (o : List (Nat × Nat)) (B : Nat) (s : Value) (w : World) (hs : OwnE layPair 52 w B s o) (hl : o.length ≤ 1000000) :
    Calls Try.prog 30 #[s, .func (.func 31) #[] #[]] w fun e w' => e = .returned (.tuple #[]) ∧ (∃ o' : List (Nat × Nat), o'.Perm o ∧ o'.Pairwise (fun p q => ¬ cmpPair q p < 0) ∧ OwnE layPair 52 w' B s o') ∧ w.grownBy w' s.ownBlock := by
  rcases hs.form with ⟨rfl, h0⟩ | ⟨g, cap, rfl, hB, hg, hn, hm, hf, hcl⟩
  · refine (AnyF.slices_SortFunc_none laySortPair none 0 _ w).mono ?_
    rintro e w' ⟨rfl, rfl⟩
    rw [h0] at hs ⊢
    exact ⟨rfl, ⟨[], List.Perm.refl _, List.Pairwise.nil, hs⟩, ⟨rfl, rfl, rfl, Nat.le_refl _, fun _ _ _ => rfl⟩⟩
  · have hH := hs.holds
    have hcmp : CmpLays Try.prog 31 #[] layPair.enc 2 cmpPair g 0 o.toArray.size w := fun m os dk hdk x y => bpairs1_calls x y _
    have hO : SWO (ltOf cmpPair) := by
      have e : ∀ x y, ltOf cmpPair x y = decide (ltP x y) := fun x y => by
        unfold ltOf
        rw [decide_eq_decide, cmpPair_lt]
      refine ⟨fun x => ?_, fun x y z h1 h2 => ?_, fun x y z h1 h2 => ?_⟩
      · rw [e]; exact decide_eq_false ltP_irrefl
      · rw [e] at *; exact decide_eq_true (ltP_trans (of_decide_eq_true h1) (of_decide_eq_true h2))
      · rw [e] at *
        have a := of_decide_eq_false h1
        have b := of_decide_eq_false h2
        refine decide_eq_false ?_
        unfold ltP at *
        omega
    have hlen : o.length = o.toArray.size := by simp
    have hsz2 : o.toArray.size ≤ 1000000 := by rw [← hlen]; exact hl
    have hcon := AnyQ.slices_SortFunc laySortPair 2 Try.isAgg52 Try.sizeOf52 layPair.enc layPair.hk layPair.one cmpPair hO 31 #[] g 0 cap o.toArray w cf_bp1 hcmp hH hg (by omega)
    rw [hlen]
    refine Calls.mono hcon ?_
    rintro e w' ⟨rfl, d', m, os, hp, hsd, rfl⟩
    obtain ⟨p1, p2⟩ := permIn_list hp
    have hso : SortedIn (ltOf cmpPair) 0 d'.size d' := by rw [p2]; exact hsd
    have hpw := sortedIn_list hso
    rw [hlen] at hs
    refine ⟨rfl, ⟨d'.toList, p1, ?_, hs.sorted d' (by rw [p2]; simp)⟩, grownBy_sortedK (L := layPair) d'⟩
    refine hpw.imp fun {x y} h => ?_
    unfold ltOf at h
    rwa [decide_eq_false_iff_not] at h

def lvL (s : TS) : List Value := (List.range 256).map fun i => Value.pointer (s.lv i)
def lvA (s : TS) : Array Value := (lvL s).toArray
theorem lvL_at {s : TS} {k : Nat} (hk : k < 256) : (lvL s)[k]? = some (.pointer (s.lv k)) := by
  unfold lvL
  rw [List.getElem?_map, List.getElem?_range hk]
  rfl
theorem run_lvs {w : World} {g : Nat} {s : TS} (h : Mem w g s) : (loadCellsFrom ⟨g, 1, none⟩ 0 256 #[]).run Try.prog w = .ok (lvA s) w := by
  have := run_loadCells_list (P := Try.prog) w ⟨g, 1, none⟩ (lvL s) (fun j v hv => by
    have hj : j < 256 := by
      rcases Nat.lt_or_ge j 256 with q | q
      · exact q
      · rw [List.getElem?_eq_none (by simp [lvL]; omega)] at hv; cases hv
    have hadd : (⟨g, 1, none⟩ : Addr).add j = ⟨g, 1 + j, none⟩ := by unfold Addr.add; split <;> simp_all
    rw [lvL_at hj] at hv
    rw [hadd]
    cases hv
    exact h.lv j hj)
  have hl : (lvL s).length = 256 := by simp [lvL]
  rw [hl] at this
  exact this
theorem info_arr : (Try.prog.info? 56).map (fun i => (i.size)) = some 1 := by kernel_rfl
theorem run_lvIx (s : TS) {k : Nat} (hk : k < 256) (w : World) : (Instr.index 57 (.agg (lvA s)) (.int .i64 (k : Nat))).run Try.prog w = .ok (.pointer (s.lv k)) w := by
  obtain ⟨i0, hi, hz1⟩ := Option.map_eq_some_iff.1 info_arr
  have h0 := lvL_at (s := s) hk
  have h1 : (lvA s)[k]? = some (.pointer (s.lv k)) := by unfold lvA; rw [List.getElem?_toArray]; exact h0
  simp [Instr.index, run_underlying Try.underlying57, asAgg, asInt, asIntOf, go_sem, sizeOf, typeInfo, Try.isAgg56, hi, hz1, h1]
  exact fun q => absurd hk (by omega)
set_option maxRecDepth 100000 in
theorem run_lvLoad {w : World} {g : Nat} {s : TS} (h : Mem w g s) : (Instr.loadAt 57 (.pointer (some ⟨g, 1, none⟩))).run Try.prog w = .ok (.agg (lvA s)) w := by
  obtain ⟨i0, hi, hz1⟩ := Option.map_eq_some_iff.1 (show (Try.prog.info? 57).map (fun i => i.size) = some 256 by kernel_rfl)
  have hl := run_lvs h
  have ha : (isAgg 57).run Try.prog w = .ok true w := by go_simp
  have hs : (sizeOf 57).run Try.prog w = .ok 256 w := by simp [sizeOf, typeInfo, hi, hz1]
  simp only [Instr.loadAt, Instr.sureAddr, Sem.run_bind, Sem.run_pure, Result.andThen]
  simp only [loadVar, Sem.run_bind, ha, Result.andThen_ok, if_true, hs, loadCells, hl, Sem.run_pure]

def rowF (F : Nat → Option Bx) (tch : Bx → Bx → Bool) (n : Nat) : List (Nat × Nat) := match F n with
  | some b => ((hitF F (fun x => tch x b)).filter fun k => decide (n < k)).map fun k => (n, k)
  | none => []
theorem prs_succ (F : Nat → Option Bx) (tch : Bx → Bx → Bool) (n : Nat) : prsF F tch (n + 1) = prsF F tch n ++ rowF F tch n := by
  unfold prsF
  rw [List.range_succ, List.flatMap_append, List.flatMap_cons, List.flatMap_nil, List.append_nil]
  rfl
theorem row_len (F : Nat → Option Bx) (tch : Bx → Bx → Bool) (n : Nat) : (rowF F tch n).length ≤ 256 := by
  unfold rowF
  cases F n with
  | none => exact Nat.zero_le _
  | some b =>
    show (((hitF F (fun x => tch x b)).filter fun k => decide (n < k)).map fun k => (n, k)).length ≤ 256
    rw [List.length_map]
    refine Nat.le_trans (List.length_filter_le _ _) ?_
    unfold hitF
    exact Nat.le_trans (List.length_filter_le _ _) (by simp)
theorem prs_len (F : Nat → Option Bx) (tch : Bx → Bx → Bool) : ∀ n, (prsF F tch n).length ≤ n * 256
  | 0 => Nat.le_refl _
  | n + 1 => by
    have ih := prs_len F tch n
    have h2 := row_len F tch n
    rw [prs_succ, List.length_append]
    omega
theorem wp_loadOp {o : Oper} {a : Act} {w : World} {K : Act → World → Prop} {Q : Exit → Act → World → Prop} {t : TypeId} {x : Operand} (ho : o.op = Op.load t x) {v : Value} (hl : (Instr.loadAt t (a.eval x)).run Try.prog w = .ok v w) (h : K (a.put o.dst v) w) : o.wp Try.prog a w K Q := by
  unfold Oper.wp execOp
  simp only [ho, Sem.run_bind, hl, Result.andThen_ok, Sem.run_pure, Oper.upon_value]
  exact h
def RetPrF (P : List (Nat × Nat)) (w : World) (e : Ending) (w' : World) : Prop := ∃ A n c, e = .returned (.slice A n c) ∧ SlE layPair w' A n c P ∧ Below w.heap.size w w'

structure PT (w0 : World) (s : Value) (o : List (Nat × Nat)) (w : World) : Prop where
  own : OwnE layPair 52 w w0.heap.size s o
  bel : Below w0.heap.size w0 w
theorem PT.keep {w0 : World} {s : Value} {o : List (Nat × Nat)} {w w' : World} (hb : Below w.heap.size w w') (h : PT w0 s o w) : PT w0 s o w' := ⟨h.own.below hb, keepBelow hb h.bel⟩
theorem PT.app {w0 : World} {s s' : Value} {o o' : List (Nat × Nat)} {w w' : World} (h : PT w0 s o w) (ho : OwnE layPair 52 w' w0.heap.size s' o') (hg : w.grownBy w' s.ownBlock) : PT w0 s' o' w' :=
  ⟨ho, h.bel.grown hg h.bel.size (fun k hk => (h.own.lt hk).1)⟩
theorem CellsE.natB {w : World} {b off : Nat} {l : List Nat} (h : CellsE layNat w b off l) {k x : Nat} (hk : k < l.length) (hx : x = l[k]) : w.cell? ⟨b, off + k, none⟩ = some (.int .i64 (x : Nat)) := by
  subst hx
  have := h.at_ k hk 0 _ rfl
  simpa [layNat] using this
theorem SlE.grownB {α : Type} {L : Lay α} {w w' : World} {A : Option Addr} {n c : Nat} {l : List α} {row : Option Nat} (h : SlE L w A n c l) (hg : w.grownBy w' row) (hne : ∀ b off, A = some ⟨b, off, none⟩ → some b ≠ row) : SlE L w' A n c l :=
  ⟨h.len, h.cap, h.big, fun q => by
    obtain ⟨b, off, e, hC⟩ := h.at_ q
    exact ⟨b, off, e, Nat.lt_of_lt_of_le hC.lt hg.size, fun j hj i u hu => hg.cell (hC.at_ j hj i u hu) (hne b off e)⟩⟩

structure PI (w0 w : World) (s : Value) (o : List (Nat × Nat)) (A : Option Addr) (n c : Nat) (R : List Nat) : Prop where
  own : OwnE layPair 52 w w0.heap.size s o
  bel : Below w0.heap.size w0 w
  sl : SlE layNat w A n c R
  ne : ∀ kk b off, s.ownBlock = some kk → A = some ⟨b, off, none⟩ → kk ≠ b
theorem PI.app {w0 w w' : World} {s s' : Value} {o o' : List (Nat × Nat)} {A : Option Addr} {n c : Nat} {R : List Nat} (h : PI w0 w s o A n c R) (ob : Obj) (ho : OwnE layPair 52 w' w0.heap.size s' o') (hg : (w.alloc ob).grownBy w' s.ownBlock) (hat : s'.ownBlock = s.ownBlock ∨ s'.ownBlock = some (w.alloc ob).heap.size) (hn : R ≠ []) : PI w0 w' s' o' A n c R := by
  have hb : Below w.heap.size w (w.alloc ob) := by go_grown
  refine ⟨ho, (keepBelow hb h.bel).grown hg (keepBelow hb h.bel).size (fun k hk => (h.own.lt hk).1), (h.sl.below hb).grownB hg (fun b off e q => h.ne b b off q.symm (by exact e) rfl), fun kk b off h1 h2 => ?_⟩
  rcases hat with e | e
  · exact h.ne kk b off (by rw [← e]; exact h1) h2
  · rw [e] at h1
    cases h1
    obtain ⟨b', off', e', hC⟩ := h.sl.at_ hn
    rw [h2] at e'
    cases e'
    have h3 := hC.lt
    have h4 := hb.size
    omega
set_option maxRecDepth 100000 in
set_option maxHeartbeats 8000000 in
theorem bpairs_calls {w : World} {g : Nat} {s : TS} {T : Option TB} (h : Mem w g s) (hW : WF s T) : Calls Try.prog 14 #[.pointer (pA g)] w (RetPrF (prsF (bxO T) tchB 256) w) := by
  have hL1 := run_lvLoad h
  have hL2 := run_lvs h
  have HMM := hid h
  have HWF := hid hW
  have lg := h.lt
  obtain ⟨arr, harr⟩ : ∃ x, x = lvA s := ⟨_, rfl⟩
  rw [← harr] at hL1 hL2
  have HIX : Hid (∀ k, k < 256 → ∀ w, (Instr.index 57 (.agg arr) (.int .i64 (k : Nat))).run Try.prog w = .ok (.pointer (s.lv k)) w) := fun k hk w => by rw [harr]; exact run_lvIx s hk w
  obtain ⟨F, hF⟩ : ∃ F, F = bxO T := ⟨_, rfl⟩
  rw [← hF]
  have HF := hid hF
  have HP0 : Hid (PT w (.slice none 0 0) (prsF F tchB 0) w) := ⟨OwnE.nil _ _ _ _, Below.refl _ _⟩
  clear h hW harr hF
  go_enter Try.func14, Try.ntmps14
  go_wp2_with fail
  refine wp_loadOp rfl hL1 ?_
  go_wp2
  go_loopw [3, 12] (fun o j wr => ∃ k : Nat, k ≤ 256 ∧ j = .int .i64 k ∧ Hid (PT w o (prsF F tchB k) wr)) (fun _ j _ => 256 - (intOf j).toNat)
  case atStart => exact ⟨0, Nat.zero_le _, rfl, HP0⟩
  case round =>
    clear HP0 hL1 hL2
    obtain ⟨k, hk, rfl, HK⟩ := hrel
    obtain ⟨wo, rfl⟩ : ∃ wo : World, wo = wr := ⟨_, rfl⟩
    have HM1 := hid (HMM.out.below HK.out.bel)
    have lg1 := HM1.out.lt
    by_cases hlt : k < 256
    · have hIX := HIX.out k hlt wo
      have hlt' : (k : Int) < 256 := by omega
      have hwk : IntKind.i64.wrap ((k : Int) + 1) = (k : Int) + 1 := IntWalk.i64_in _ (by omega)
      obtain ⟨a, ha⟩ : ∃ a, a = s.lv k := ⟨_, rfl⟩
      rw [← ha] at hIX
      have HA := hid ha
      clear ha
      cases a with
      | none =>
        have hF0 : F k = none := by rw [HF.out]; exact (bxO_not HWF.out hlt).2 HA.out.symm
        have HN : Hid (PT w u3 (prsF F tchB (k + 1)) wo) := by
          show PT _ _ _ _
          rw [prs_succ, show rowF F tchB k = [] by unfold rowF; rw [hF0], List.append_nil]
          exact HK.out
        clear HK HM1 HA hF0 lg lg1
        go_wp2
        go_roundw
        case rel => exact ⟨k + 1, hlt, by go_num, HN⟩
        case measure => simp [intOf]; omega
      | some p =>
        have hsm : bxO T k ≠ none := fun q => by
          have h1 := (bxO_not HWF.out hlt).1 q
          have := HA.out
          rw [h1] at this
          cases this
        rcases hbx : bxO T k with _ | b
        · exact absurd hbx hsm
        · obtain ⟨g1, t, hT, hlv, hmem⟩ := bxO_at HWF.out hbx
          have hp : p = ⟨g1, 0, none⟩ := by
            have := HA.out
            rw [hlv] at this
            exact Option.some.inj this
          subst hp
          obtain ⟨up, hnd⟩ : ∃ up, s.nd g1 = some ⟨b, ((k : Nat) : Int), 0, up, none, none⟩ := by
            have hW2 := HWF.out
            rw [hT] at hW2
            obtain ⟨h1, h2, -, -⟩ := hW2.root
            obtain ⟨D, -, d2, -⟩ := find_leaf t [] hmem h2 ⟨rfl, h1⟩
            exact ⟨_, d2⟩
          have hn := HM1.out.nd _ _ hnd
          obtain ⟨⟨b1, b2⟩, b3, b4⟩ := b
          obtain ⟨c0, c1, c2, c3, -⟩ := hn.cells
          have lg2 := lt_of_cell c0
          have hFk : F k = some ((b1, b2), (b3, b4)) := by rw [HF.out]; exact hbx
          have HRW : Hid (rowF F tchB k = ((hitF F (fun x => tchB x ((b1, b2), (b3, b4)))).filter fun j => decide (k < j)).map fun j => (k, j)) := by
            show _ = _
            unfold rowF
            rw [hFk]
          have HMT := hid (bmeet_calls HM1.out HWF.out b1 b2 b3 b4)
          rw [← HF.out] at HMT
          have HRL : Hid ((hitF F (fun x => tchB x ((b1, b2), (b3, b4)))).length ≤ 256 ∧ ∀ x ∈ hitF F (fun x => tchB x ((b1, b2), (b3, b4))), x < 256) := ⟨by unfold hitF; exact Nat.le_trans (List.length_filter_le _ _) (by simp), fun x hx => (mem_hit.1 hx).1⟩
          have HPL := hid (prs_len F tchB k)
          have HMT : Hid (Calls Try.prog 23 #[.pointer (pA g), bxV ((b1, b2), (b3, b4))] wo (fun e w' => ∃ A n c, e = .returned (.slice A n c) ∧ SlE layNat w' A n c (hitF F (fun x => tchB x ((b1, b2), (b3, b4)))) ∧ (∀ b off, A = some ⟨b, off, none⟩ → wo.heap.size ≤ b) ∧ Below wo.heap.size wo w')) := HMT.out
          generalize hitF F (fun x => tchB x ((b1, b2), (b3, b4))) = R at *
          clear hsm hbx hT hlv hmem hnd hn hFk HA HM1 lg1
          go_wp2_with fail
          refine HMT.out.mono ?_
          rintro e w2 ⟨A, n, c, rfl, hs, hfr, hb⟩
          obtain rfl : n = R.length := hs.len
          have HI0 : Hid (PI w w2 u3 (prsF F tchB k ++ ((R.take 0).filter fun j => decide (k < j)).map fun j => (k, j)) A R.length c R) := ⟨by simpa using HK.out.own.below hb, (HK.out.keep hb).bel, hs, fun kk b off h1 h2 => by have := (HK.out.own.lt h1).2; have := hfr b off h2; omega⟩
          clear HMT hs hfr hb HK c0 c1 c2 c3 lg2 lg
          go_wp2
          go_loopw [3, 25] (fun o j wr => ∃ m : Nat, m ≤ R.length ∧ j = .int .i64 m ∧ Hid (PI w wr o (prsF F tchB k ++ ((R.take m).filter fun j => decide (k < j)).map fun j => (k, j)) A R.length c R)) (fun _ j _ => R.length - (intOf j).toNat)
          case atStart => exact ⟨0, Nat.zero_le _, rfl, HI0⟩
          case round =>
            clear HI0
            obtain ⟨m, hm, rfl, HI⟩ := hrel
            obtain ⟨wi, rfl⟩ : ∃ wi : World, wi = wr := ⟨_, rfl⟩
            by_cases hml : m < R.length
            · obtain ⟨x, hx⟩ : ∃ x, x = R[m] := ⟨_, rfl⟩
              have hx256 : x < 256 := by rw [hx]; exact HRL.out.2 _ (List.getElem_mem hml)
              obtain ⟨bb, off, hA, hC⟩ := HI.out.sl.at_ (by intro h; rw [h] at hml; simp at hml)
              subst hA
              have d0 := hC.natB hml hx
              have ld := lt_of_cell d0
              have hml' : (m : Int) < (R.length : Int) := by omega
              have hwm : IntKind.i64.wrap ((m : Int) + 1) = (m : Int) + 1 := IntWalk.i64_in _ (by have := HRL.out.1; omega)
              have HTK : Hid (R.take (m + 1) = R.take m ++ [x]) := by show _ = _; rw [List.take_succ_eq_append_getElem hml, hx]
              have HLN : Hid ((prsF F tchB k ++ ((R.take m).filter fun j => decide (k < j)).map fun j => (k, j)).length ≤ 100000) := by
                show _ ≤ _
                rw [List.length_append, List.length_map]
                have h1 := List.length_filter_le (fun j => decide (k < j)) (R.take m)
                rw [List.length_take] at h1
                have h2 := HPL.out
                have h3 := HRL.out.1
                omega
              clear hC hx
              by_cases hgt : k < x
              · have hgt' : (x : Int) > (k : Int) := by omega
                have HNX : Hid ((prsF F tchB k ++ ((R.take (m + 1)).filter fun j => decide (k < j)).map fun j => (k, j)) = (prsF F tchB k ++ ((R.take m).filter fun j => decide (k < j)).map fun j => (k, j)) ++ [(k, x)]) := by
                  show _ = _
                  rw [HTK.out, List.filter_append, List.map_append, ← List.append_assoc]
                  simp [hgt]
                generalize (prsF F tchB k ++ ((R.take m).filter fun j => decide (k < j)).map fun j => (k, j)) = O at *
                have hwlt : w.heap.size ≤ wi.heap.size := HI.out.bel.size
                go_wp2_with (at_builtin; refine wpList_append_E tyPair rfl _ _ rfl w.heap.size _ _ rfl (HI.out.own.alloc _) wi.heap.size 0 1 1 [(k, x)] rfl rfl (cells_pair (by go_simp) (by go_simp)) (by have := HLN.out; simp; omega) (by have := HLN.out; simp; omega) (by simp; omega) ?_; intro v' w7 ho1 hg1 hat; have HI7 := hid (HI.out.app _ ho1 hg1 hat (by intro h; rw [h] at hml; simp at hml)); clear ho1 hg1 hat)
                clear HI
                go_roundw
                case rel => exact ⟨m + 1, hml, by go_num, by rw [HNX.out]; exact HI7⟩
                case measure => simp [intOf]; omega
              · have hgt' : ¬ (x : Int) > (k : Int) := by omega
                have HNX : Hid ((prsF F tchB k ++ ((R.take (m + 1)).filter fun j => decide (k < j)).map fun j => (k, j)) = (prsF F tchB k ++ ((R.take m).filter fun j => decide (k < j)).map fun j => (k, j))) := by
                  show _ = _
                  rw [HTK.out, List.filter_append]
                  simp [hgt]
                clear HLN
                go_wp2
                go_roundw
                case rel => exact ⟨m + 1, hml, by go_num, by rw [HNX.out]; exact HI⟩
                case measure => simp [intOf]; omega
            · have hme : m = R.length := by omega
              subst hme
              have HN : Hid (PT w u3 (prsF F tchB (k + 1)) wi) := by
                have h1 := HI.out
                rw [List.take_length] at h1
                show PT _ _ _ _
                rw [prs_succ, HRW.out]
                exact ⟨h1.own, h1.bel⟩
              clear HI HRW HRL HPL
              go_wp2
              go_roundw
              case rel => exact ⟨k + 1, hlt, by go_num, HN⟩
              case measure => simp [intOf]; omega
    · have hke : k = 256 := by omega
      subst hke
      have HPL := hid (prs_len F tchB 256)
      have HLW : Hid (∀ r : List (Nat × Nat), r.Perm (prsF F tchB 256) → (r.Pairwise fun p q => ¬ cmpPair q p < 0) → r = prsF F tchB 256) := fun r h1 h2 => prs_law h1 h2
      have HSO := hid (bsortPairs_calls (prsF F tchB 256) w.heap.size u3 wo HK.out.own (by have := HPL.out; omega))
      generalize prsF F tchB 256 = P at *
      clear HIX HPL HM1 lg lg1
      go_wp2_with fail
      refine HSO.out.mono ?_
      rintro e w3 ⟨rfl, ⟨o', hp, hpw, ho'⟩, hg⟩
      have hR := HLW.out o' hp hpw
      subst hR
      have hB3 := HK.out.bel.grown hg HK.out.bel.size (fun kk hk => (HK.out.own.lt hk).1)
      obtain ⟨A9, n9, c9, rfl, hsl, -⟩ := ho'.sl
      have HFIN : Hid (SlE layPair w3 A9 n9 c9 o' ∧ Below w.heap.size w w3) := ⟨hsl, hB3⟩
      clear HSO HLW hp hpw ho' hsl hg hB3 HK
      go_wp2
      go_returns
      exact ⟨A9, n9, c9, rfl, HFIN.out.1, HFIN.out.2⟩
end
end Go.Proofs.Ytiaoandbdgdecaa
