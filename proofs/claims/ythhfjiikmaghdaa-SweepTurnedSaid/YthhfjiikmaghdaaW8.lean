/- Contracts of the reference's boxes: Box, Touch, Pairs. Append of any slice; append of zeros. -/
import Derived.Test.YthhfjiikmaghdaaW4
import Derived.Test.YthhfjiikmaghdaaM26
import Derived.Lib.AppendZerosOnto
namespace Go.Proofs.Ythhfjiikmaghdaa
set_option linter.unusedVariables false
set_option linter.unusedSimpArgs false
open Go.RowKit

section
variable {α : Type} {L : Lay α} {e : TypeId}
/-- append of any slice that reads as m -/
theorem run_append_S {t : TypeId} {bytes : Nat} (hT : TyE L t e bytes) (ty : TypeId) (w : World) (B : Nat) (v : Value) (l : List α) (hown : OwnE L e w B v l) (A : Option Addr) (n c : Nat) (m : List α) (hS : SlE L w A n c m)
    (hl : l.length + m.length ≤ 8796093022208) (hby : (l.length + m.length) * bytes ≤ 140737488355328) (hB : B ≤ w.heap.size) :
    ∃ v' w', (Builtin.append_ #[t, t] ty #[v, .slice A n c]).run Try.prog w = .ok v' w' ∧ OwnE L e w' B v' (l ++ m) ∧ w.grownBy w' v.ownBlock ∧ (v'.ownBlock = v.ownBlock ∨ v'.ownBlock = some w.heap.size) := by
  by_cases h0 : m = []
  · subst h0
    have hn := hS.len
    simp at hn
    subst hn
    obtain ⟨i0, z, hi, hz0, hz1, hz2, hz3⟩ := hT.hi
    cases A with
    | none =>
      refine ⟨v, w, ?_, by simpa using hown, ⟨rfl, rfl, rfl, Nat.le_refl _, fun _ _ _ => rfl⟩, .inl rfl⟩
      rcases hown.2 with ⟨rfl, hx⟩ | ⟨g, cap, cur, rfl, _, _, hnc, _⟩
      · simp [Builtin.append_, run_underlying hT.ht, sizeOf, typeInfo, hi, Builtin.lenOf, Builtin.firstCells]
      · simp [Builtin.append_, run_underlying hT.ht, sizeOf, typeInfo, hi, Builtin.lenOf, Builtin.firstCells, hnc, storeCells]
    | some ad =>
      obtain ⟨v', w', hr, h2, h3, h4, h5⟩ := run_append_own_at (P := Try.prog) w B t ty e i0 z L.k bytes hT.ht hi hz0 hz1 hz2 hz3 L.pos v l.length (flatE L l) hown ad 0 c [] (by simp) (fun j u hj => by simp at hj) (by simp) (by unfold maxLen; simp at hl; omega) (by simpa using hby) hB
      refine ⟨v', w', hr, ?_, h3, h5⟩
      unfold OwnE
      simpa using h2
  · obtain ⟨b, off, rfl, hC⟩ := hS.at_ h0
    exact run_append_E hT ty w B v l hown b off n c m hS.len hC hl hby hB
theorem wpList_append_S {t : TypeId} {bytes : Nat} (hT : TyE L t e bytes) {w : World} {ops : Array Oper} {rest : List Oper} {o : Oper} {a : Act} {Q : Exit → Act → World → Prop} (hgd : o.guard = none) (s x : Operand)
    (ho : o.op = .call { callee := .builtin .append, args := #[s, x], argTypes := #[t, t] })
    (B : Nat) (v : Value) (l : List α) (hs : a.eval s = v) (hown : OwnE L e w B v l) (A : Option Addr) (n c : Nat) (m : List α) (hx : a.eval x = .slice A n c) (hS : SlE L w A n c m)
    (hl : l.length + m.length ≤ 8796093022208) (hby : (l.length + m.length) * bytes ≤ 140737488355328) (hB : B ≤ w.heap.size)
    (h : ∀ v' w', OwnE L e w' B v' (l ++ m) → w.grownBy w' v.ownBlock → (v'.ownBlock = v.ownBlock ∨ v'.ownBlock = some w.heap.size) → wpList Try.prog ops Q rest (a.put o.dst v') w') : wpList Try.prog ops Q (o :: rest) a w := by
  obtain ⟨v', w', hr, h2, h3, h5⟩ := run_append_S hT o.type w B v l hown A n c m hS hl hby hB
  refine wpList_plain hgd fun K hK => ?_
  unfold Oper.wp execOp
  simp only [ho, resolve, invoke, builtin, Sem.run_bind, Sem.run_pure, Result.andThen_ok, List.map_toArray, List.map_cons, List.map_nil, hs, hx, hr]
  exact hK _ _ (h v' w' h2 h3 h5)
/-- room for k elements -/
theorem wpList_append_room {t tn : TypeId} {bytes : Nat} (hT : TyE L t e bytes) (htn : Try.prog.underlying tn = some (.int .i64)) {w : World} {ops : Array Oper} {rest : List Oper} {o : Oper} {a : Act} {Q : Exit → Act → World → Prop} (hgd : o.guard = none) (s x : Operand)
    (ho : o.op = .call { callee := .builtin .append, args := #[s, x], argTypes := #[t, tn] })
    (B k : Nat) (hs : a.eval s = .slice none 0 0) (hx : a.eval x = .int .i64 k) (h0 : 0 < k) (hk : k ≤ 100000) (hbt : bytes ≤ 1000) (hB : B ≤ w.heap.size)
    (h : ∀ g cap w', OwnE L e w' B (.slice (some ⟨g, 0, none⟩) 0 cap) [] → w.grownBy w' none → g = w.heap.size → k ≤ cap → cap ≤ maxLen → wpList Try.prog ops Q rest (a.put o.dst (.slice (some ⟨g, 0, none⟩) k cap)) w') : wpList Try.prog ops Q (o :: rest) a w := by
  obtain ⟨i0, z, hi, hz0, hz1, hz2, hz3⟩ := hT.hi
  have hkb : k * i0.bytes ≤ 100000 * 1000 := Nat.mul_le_mul hk (by rw [hz2]; exact hbt)
  have hr := Lib.run_append_grow_zeros (P := Try.prog) w t tn o.type e i0 z .i64 .i64 hT.ht htn hi hz0 none 0 0 [] (run_firstCells_none w.drew i0.size 0 0 0) k h0 (by rw [hz1]; exact L.pos) (by omega) (by omega) (by omega) (by
    have e1 : Builtin.nextslicecap (0 + k) 0 = k := by simp [Builtin.nextslicecap]; omega
    rw [e1]; omega)
  rw [Nat.zero_add] at hr
  have hge := grownCap_ge w k 0 e
  have hcm : grownCap w k 0 e ≤ maxLen := grownCap_le_maxLen w k 0 e (by unfold maxLen; omega)
  refine wpList_plain hgd fun K hK => ?_
  unfold Oper.wp execOp
  simp only [ho, resolve, invoke, builtin, Sem.run_bind, Sem.run_pure, Result.andThen_ok, List.map_toArray, List.map_cons, List.map_nil, hs, hx, hr]
  refine hK _ _ (h _ _ _ ⟨by simp [flatE], .inr ⟨w.heap.size, _, _, rfl, hB, heap_alloc_new w.drew _, Nat.zero_le _, hcm, ?_, by simp [flatE]⟩⟩ ⟨rfl, rfl, rfl, by simp, fun k hk _ => heap_alloc_old w.drew _ hk⟩ rfl hge hcm)
  have e0 : ([] : List Value).toArray.size = 0 := rfl
  rw [Array.size_append, Array.size_append, size_zeroCells, size_zeroCells, hz3, e0, Nat.zero_add, ← Nat.add_mul]
  exact congrArg (· * L.k) (by omega)
end

/-- own pairs, made since world w0 -/
structure PO (w0 : World) (s : Value) (o : List (Nat × Nat)) (w : World) : Prop where
  own : OwnE layPair 96 w w0.heap.size s o
  bel : Below w0.heap.size w0 w
theorem PO.nil (w : World) : PO w (.slice none 0 0) [] w := ⟨OwnE.nil _ _ _ _, Below.refl _ _⟩
theorem PO.keep {w0 : World} {s : Value} {o : List (Nat × Nat)} {w w' : World} (hb : Below w.heap.size w w') (h : PO w0 s o w) : PO w0 s o w' := ⟨h.own.below hb, keepBelow hb h.bel⟩
theorem PO.app {w0 : World} {s s' : Value} {o o' : List (Nat × Nat)} {w w' : World} (h : PO w0 s o w) (ho : OwnE layPair 96 w' w0.heap.size s' o') (hg : w.grownBy w' s.ownBlock) : PO w0 s' o' w' :=
  ⟨ho, h.bel.grown hg h.bel.size (fun k hk => (h.own.lt hk).1)⟩
theorem PO.ret {w0 : World} {s : Value} {o : List (Nat × Nat)} {w : World} (h : PO w0 s o w) : ∃ A n c, s = .slice A n c ∧ RetPrs o w0 (.returned (.slice A n c)) w := by
  obtain ⟨A, n, c, rfl, hs, hf⟩ := h.own.sl
  exact ⟨A, n, c, rfl, A, n, c, rfl, hs, hf, h.bel⟩

set_option maxRecDepth 100000 in
theorem rbox_calls (x y u v : Int) (w : World) : Calls Try.prog 74 #[.agg #[.int .i64 x, .int .i64 y, .int .i64 u, .int .i64 v]] w (Ret (.bool (vldB ((x, y), (u, v)))) w) := by
  have HZ : Hid (vldB ((x, y), (u, v)) = decide (x ≤ u ∧ y ≤ v)) := rfl
  obtain ⟨z, hz⟩ : ∃ z, z = vldB ((x, y), (u, v)) := ⟨_, rfl⟩
  rw [← hz] at HZ ⊢
  clear hz
  by_cases h1 : x ≤ u
  · by_cases h2 : y ≤ v
    · have HR : Hid (z = true) := by show _ = _; rw [HZ.out]; exact decide_eq_true ⟨h1, h2⟩
      clear HZ
      go_enter Try.func74, Try.ntmps74
      go_wp2
      go_returns
      exact ret_bool (by rw [HR.out]; try simp [*]) (by go_grown)
    · have HR : Hid (z = false) := by show _ = _; rw [HZ.out]; exact decide_eq_false (fun h => h2 h.2)
      clear HZ
      go_enter Try.func74, Try.ntmps74
      go_wp2
      go_returns
      exact ret_bool (by rw [HR.out]; try simp [*]) (by go_grown)
  · have HR : Hid (z = false) := by show _ = _; rw [HZ.out]; exact decide_eq_false (fun h => h1 h.1)
    clear HZ
    go_enter Try.func74, Try.ntmps74
    go_wp2
    go_returns
    exact ret_bool (by rw [HR.out]; try simp [*]) (by go_grown)

theorem tch_max (a1 a2 a3 a4 b1 b2 b3 b4 : Int) : tchB ((a1, a2), (a3, a4)) ((b1, b2), (b3, b4)) = (vldB ((a1, a2), (a3, a4)) && (vldB ((b1, b2), (b3, b4)) && (decide (max a1 b1 ≤ min a3 b3) && decide (max a2 b2 ≤ min a4 b4)))) := by
  rw [Bool.eq_iff_iff, tchB_iff]
  unfold vldB
  simp only [Bool.and_eq_true, decide_eq_true_iff]
  omega
set_option maxRecDepth 100000 in
set_option maxHeartbeats 4000000 in
theorem rtouch_calls (a1 a2 a3 a4 b1 b2 b3 b4 : Int) (w : World) : Calls Try.prog 71 #[bxV ((a1, a2), (a3, a4)), bxV ((b1, b2), (b3, b4))] w (Ret (.bool (tchB ((a1, a2), (a3, a4)) ((b1, b2), (b3, b4)))) w) := by
  have HT := hid (tch_max a1 a2 a3 a4 b1 b2 b3 b4)
  have HVA := hid (rbox_calls a1 a2 a3 a4)
  have HVB := hid (rbox_calls b1 b2 b3 b4)
  generalize tchB ((a1, a2), (a3, a4)) ((b1, b2), (b3, b4)) = T at *
  generalize vldB ((a1, a2), (a3, a4)) = va at *
  generalize vldB ((b1, b2), (b3, b4)) = vb at *
  obtain ⟨W, hW⟩ : ∃ W, W = (w.alloc (.cells #[.int .i64 a1, .int .i64 a2, .int .i64 a3, .int .i64 a4] 55)).alloc (.cells #[.int .i64 b1, .int .i64 b2, .int .i64 b3, .int .i64 b4] 55) := ⟨_, rfl⟩
  have ca0 : W.cell? ⟨w.heap.size, 0, none⟩ = some (.int .i64 a1) := by rw [hW]; go_simp
  have ca1 : W.cell? ⟨w.heap.size, 1, none⟩ = some (.int .i64 a2) := by rw [hW]; go_simp
  have ca2 : W.cell? ⟨w.heap.size, 2, none⟩ = some (.int .i64 a3) := by rw [hW]; go_simp
  have ca3 : W.cell? ⟨w.heap.size, 3, none⟩ = some (.int .i64 a4) := by rw [hW]; go_simp
  have cb0 : W.cell? ⟨w.heap.size + 1, 0, none⟩ = some (.int .i64 b1) := by rw [hW]; go_simp
  have cb1 : W.cell? ⟨w.heap.size + 1, 1, none⟩ = some (.int .i64 b2) := by rw [hW]; go_simp
  have cb2 : W.cell? ⟨w.heap.size + 1, 2, none⟩ = some (.int .i64 b3) := by rw [hW]; go_simp
  have cb3 : W.cell? ⟨w.heap.size + 1, 3, none⟩ = some (.int .i64 b4) := by rw [hW]; go_simp
  have hB : Below w.heap.size w W := by rw [hW]; go_grown
  go_enter Try.func71, Try.ntmps71
  go_wp2_with fail
  rw [← hW]
  clear hW
  refine (HVA.out _).mono ?_
  rintro e w1 ⟨rfl, hb1⟩
  replace ca0 := keepCell hb1 ca0
  replace ca1 := keepCell hb1 ca1
  replace ca2 := keepCell hb1 ca2
  replace ca3 := keepCell hb1 ca3
  replace cb0 := keepCell hb1 cb0
  replace cb1 := keepCell hb1 cb1
  replace cb2 := keepCell hb1 cb2
  replace cb3 := keepCell hb1 cb3
  replace hB := keepBelow hb1 hB
  clear hb1 HVA
  cases va with
  | false =>
    have HR : Hid (T = false) := HT.out
    clear HT HVB
    go_wp2
    go_returns
    exact ret_bool (by rw [HR.out]) hB
  | true =>
    go_wp2_with fail
    refine (HVB.out _).mono ?_
    rintro e w2 ⟨rfl, hb2⟩
    replace ca0 := keepCell hb2 ca0
    replace ca1 := keepCell hb2 ca1
    replace ca2 := keepCell hb2 ca2
    replace ca3 := keepCell hb2 ca3
    replace cb0 := keepCell hb2 cb0
    replace cb1 := keepCell hb2 cb1
    replace cb2 := keepCell hb2 cb2
    replace cb3 := keepCell hb2 cb3
    replace hB := keepBelow hb2 hB
    clear hb2 HVB
    cases vb with
    | false =>
      have HR : Hid (T = false) := HT.out
      clear HT
      go_wp2
      go_returns
      exact ret_bool (by rw [HR.out]) hB
    | true =>
      by_cases k0 : max a1 b1 ≤ min a3 b3
      · by_cases k1 : max a2 b2 ≤ min a4 b4
        · have HR : Hid (T = true) := by show _ = _; rw [HT.out, decide_eq_true k0, decide_eq_true k1]; rfl
          clear HT
          go_wp2
          go_returns
          exact ret_bool (by rw [HR.out]; try simp [*]) hB
        · have HR : Hid (T = false) := by show _ = _; rw [HT.out, decide_eq_true k0, decide_eq_false k1]; simp
          clear HT
          go_wp2
          go_returns
          exact ret_bool (by rw [HR.out]; try simp [*]) hB
      · have HR : Hid (T = false) := by show _ = _; rw [HT.out, decide_eq_false k0]; simp
        clear HT
        go_wp2
        go_returns
        exact ret_bool (by rw [HR.out]; try simp [*]) hB

theorem rowP_len (l : List Bx) (i m : Nat) : (rowP l i m).length ≤ m := by unfold rowP; rw [List.length_map]; exact Nat.le_trans (List.length_filter_le _ _) (by simp)
theorem prsTo_len (l : List Bx) : ∀ m, (prsTo l m).length ≤ m * l.length
  | 0 => by simp [prsTo]
  | m + 1 => by
    rw [prsTo_succ, List.length_append]
    have := prsTo_len l m
    have := rowP_len l m l.length
    rw [Nat.add_mul, Nat.one_mul]
    omega
set_option maxRecDepth 100000 in
set_option maxHeartbeats 4000000 in
theorem rpairs_calls (A : Option Addr) (n c : Nat) (l : List Bx) (w : World) (hS : SlE layBox w A n c l) (hlen : l.length ≤ 1000) : Calls Try.prog 75 #[.slice A n c] w (RetPrs (pairsL l) w) := by
  have hn := hS.len
  subst hn
  have HS := hid hS
  have HTC0 := hid rtouch_calls
  clear hS
  go_enter Try.func75, Try.ntmps75
  go_wp2
  go_loopw [3, 8] (fun s i wr => ∃ k : Nat, k ≤ l.length ∧ i = .int .i64 k ∧ PO w s (prsTo l k) wr) (fun _ i _ => l.length - (intOf i).toNat)
  case atStart => exact ⟨0, Nat.zero_le _, rfl, PO.nil _⟩
  case round =>
    obtain ⟨k, hk, rfl, hpo⟩ := hrel
    obtain ⟨wo, rfl⟩ : ∃ wo : World, wo = wr := ⟨_, rfl⟩
    have HPO := hid hpo
    by_cases hlt : k < l.length
    · have hlt' : (k : Int) < (l.length : Int) := by omega
      have hwk : IntKind.i64.wrap ((k : Int) + 1) = ((k + 1 : Nat) : Int) := by rw [IntWalk.i64_in _ (by omega)]; omega
      obtain ⟨b, off, hA, hC0⟩ := HS.out.at_ (by intro h; subst h; simp at hlt)
      subst hA
      have HC := hid hC0
      have hpl : Hid ((prsTo l k).length ≤ 1000000) := by
        have := prsTo_len l k
        have : k * l.length ≤ 1000 * 1000 := Nat.mul_le_mul (by omega) (by omega)
        show _ ≤ _
        omega
      have HNX := hid (prsTo_succ l k)
      obtain ⟨P, hP⟩ : ∃ P, P = prsTo l k := ⟨_, rfl⟩
      rw [← hP] at HPO hpl HNX
      clear hC0 hpo hP
      go_wp2
      go_loopw [3, 5] (fun s j wr => ∃ m : Nat, k + 1 ≤ m ∧ m ≤ l.length ∧ j = .int .i64 m ∧ PO w s (P ++ rowP l k m) wr) (fun _ j _ => l.length - (intOf j).toNat)
      case atStart => exact ⟨k + 1, Nat.le_refl _, hlt, rfl, by rw [rowP_low l (Nat.le_refl _), List.append_nil]; exact HPO.out⟩
      case round =>
        clear HPO
        obtain ⟨m, hkm, hm, rfl, hpo⟩ := hrel
        obtain ⟨wv, rfl⟩ : ∃ wo : World, wo = wr := ⟨_, rfl⟩
        have HPO := hid hpo
        by_cases hlm : m < l.length
        · have hlm' : (m : Int) < (l.length : Int) := by omega
          have hwm : IntKind.i64.wrap ((m : Int) + 1) = ((m + 1 : Nat) : Int) := by rw [IntWalk.i64_in _ (by omega)]; omega
          have hCv := HC.out.below hpo.bel
          obtain ⟨x_0, x_1, x_2, x_3⟩ := hCv.box hlt
          obtain ⟨y_0, y_1, y_2, y_3⟩ := hCv.box hlm
          have hbl := hCv.lt
          have HRW := hid (rowP_succ l k m)
          have HRL := hid (rowP_len l k m)
          have HTC := hid (HTC0.out (bxAt l k).1.1 (bxAt l k).1.2 (bxAt l k).2.1 (bxAt l k).2.2 (bxAt l m).1.1 (bxAt l m).1.2 (bxAt l m).2.1 (bxAt l m).2.2)
          change Hid (∀ w, Calls _ _ _ w (Ret (.bool (tchB (bxAt l k) (bxAt l m))) w)) at HTC
          generalize tchB (bxAt l k) (bxAt l m) = tc at *
          generalize (bxAt l k).1.1 = x0 at *
          generalize (bxAt l k).1.2 = x1 at *
          generalize (bxAt l k).2.1 = x2 at *
          generalize (bxAt l k).2.2 = x3 at *
          generalize (bxAt l m).1.1 = y0 at *
          generalize (bxAt l m).1.2 = y1 at *
          generalize (bxAt l m).2.1 = y2 at *
          generalize (bxAt l m).2.2 = y3 at *
          have HKM := hid hkm
          clear hpo hCv hkm
          go_upto_region 8 with fail
          refine wp_region_noPanic ?_
          refine wp_region_U (S := (S2 (fun w' => w'.cell? ⟨b, off + k * 4, none⟩ = some (.int .i64 x0) ∧ w'.cell? ⟨b, off + k * 4 + 1, none⟩ = some (.int .i64 x1) ∧ w'.cell? ⟨b, off + k * 4 + 2, none⟩ = some (.int .i64 x2) ∧ w'.cell? ⟨b, off + k * 4 + 3, none⟩ = some (.int .i64 x3) ∧ w'.cell? ⟨b, off + m * 4, none⟩ = some (.int .i64 y0) ∧ w'.cell? ⟨b, off + m * 4 + 1, none⟩ = some (.int .i64 y1) ∧ w'.cell? ⟨b, off + m * 4 + 2, none⟩ = some (.int .i64 y2) ∧ w'.cell? ⟨b, off + m * 4 + 3, none⟩ = some (.int .i64 y3) ∧ Below wv.heap.size wv w'))) (T := (fun _ => 0)) (by kernel_rfl) (S2i0 ⟨x_0, x_1, x_2, x_3, y_0, y_1, y_2, y_3, (Below.refl _ _).drew⟩) (fun hH => ?_)
          have hWr1 : Weaker (S2 (fun w' => w'.cell? ⟨b, off + k * 4, none⟩ = some (.int .i64 x0) ∧ w'.cell? ⟨b, off + k * 4 + 1, none⟩ = some (.int .i64 x1) ∧ w'.cell? ⟨b, off + k * 4 + 2, none⟩ = some (.int .i64 x2) ∧ w'.cell? ⟨b, off + k * 4 + 3, none⟩ = some (.int .i64 x3) ∧ w'.cell? ⟨b, off + m * 4, none⟩ = some (.int .i64 y0) ∧ w'.cell? ⟨b, off + m * 4 + 1, none⟩ = some (.int .i64 y1) ∧ w'.cell? ⟨b, off + m * 4 + 2, none⟩ = some (.int .i64 y2) ∧ w'.cell? ⟨b, off + m * 4 + 3, none⟩ = some (.int .i64 y3) ∧ Below wv.heap.size wv w')) := weaker2 _
          refine U_take 0 19 8 0 0 (v := ?vr1_1) rfl (by kernel_rfl) (by kernel_rfl) hWr1 (by kernel_rfl) (by kernel_rfl) (by kernel_rfl) (by kernel_rfl) (by kernel_rfl) (by kernel_rfl) (fun _ _ _ _ h => h) (by kernel_rfl) ?hyr1_1 (by omega) hH ?_
          case hyr1_1 => (intro w' hSw; clear hSw; go_simp; try (with_reducible rfl))
          simp only [List.set_cons_zero, List.set_cons_succ]
          refine U_take 1 20 7 0 0 (v := ?vr1_2) rfl (by kernel_rfl) (by kernel_rfl) hWr1 (by kernel_rfl) (by kernel_rfl) (by kernel_rfl) (by kernel_rfl) (by kernel_rfl) (by kernel_rfl) (fun _ _ _ _ h => h) (by kernel_rfl) ?hyr1_2 (by omega) hH ?_
          case hyr1_2 => (intro w' hSw; clear hSw; go_simp; try (with_reducible rfl))
          simp only [List.set_cons_zero, List.set_cons_succ]
          refine U_take 2 21 6 0 0 (v := ?vr1_3) rfl (by kernel_rfl) (by kernel_rfl) hWr1 (by kernel_rfl) (by kernel_rfl) (by kernel_rfl) (by kernel_rfl) (by kernel_rfl) (by kernel_rfl) (fun _ _ _ _ h => h) (by kernel_rfl) ?hyr1_3 (by omega) hH ?_
          case hyr1_3 => (intro w' hSw; clear hSw; go_simp; try (with_reducible rfl))
          simp only [List.set_cons_zero, List.set_cons_succ]
          refine U_take 3 22 5 0 0 (v := ?vr1_4) rfl (by kernel_rfl) (by kernel_rfl) hWr1 (by kernel_rfl) (by kernel_rfl) (by kernel_rfl) (by kernel_rfl) (by kernel_rfl) (by kernel_rfl) (fun _ _ _ _ h => h) (by kernel_rfl) ?hyr1_4 (by omega) hH ?_
          case hyr1_4 => (intro w' hSw; replace hSw := S2o0 hSw; (try dsimp only at hSw); have q0 := hSw.1; have q1 := hSw.2.1; have q2 := hSw.2.2.1; have q3 := hSw.2.2.2.1; have q4 := hSw.2.2.2.2.1; have q5 := hSw.2.2.2.2.2.1; have q6 := hSw.2.2.2.2.2.2.1; have q7 := hSw.2.2.2.2.2.2.2.1; have q8 := hSw.2.2.2.2.2.2.2.2; go_simp; try (with_reducible rfl))
          simp only [List.set_cons_zero, List.set_cons_succ]
          refine U_take 4 23 4 0 0 (v := ?vr1_5) rfl (by kernel_rfl) (by kernel_rfl) hWr1 (by kernel_rfl) (by kernel_rfl) (by kernel_rfl) (by kernel_rfl) (by kernel_rfl) (by kernel_rfl) (fun _ _ _ _ h => h) (by kernel_rfl) ?hyr1_5 (by omega) hH ?_
          case hyr1_5 => (intro w' hSw; clear hSw; go_simp; try (with_reducible rfl))
          simp only [List.set_cons_zero, List.set_cons_succ]
          refine U_take 5 24 3 0 0 (v := ?vr1_6) rfl (by kernel_rfl) (by kernel_rfl) hWr1 (by kernel_rfl) (by kernel_rfl) (by kernel_rfl) (by kernel_rfl) (by kernel_rfl) (by kernel_rfl) (fun _ _ _ _ h => h) (by kernel_rfl) ?hyr1_6 (by omega) hH ?_
          case hyr1_6 => (intro w' hSw; clear hSw; go_simp; try (with_reducible rfl))
          simp only [List.set_cons_zero, List.set_cons_succ]
          refine U_take 6 25 2 0 0 (v := ?vr1_7) rfl (by kernel_rfl) (by kernel_rfl) hWr1 (by kernel_rfl) (by kernel_rfl) (by kernel_rfl) (by kernel_rfl) (by kernel_rfl) (by kernel_rfl) (fun _ _ _ _ h => h) (by kernel_rfl) ?hyr1_7 (by omega) hH ?_
          case hyr1_7 => (intro w' hSw; clear hSw; go_simp; try (with_reducible rfl))
          simp only [List.set_cons_zero, List.set_cons_succ]
          refine U_take 7 26 1 0 0 (v := ?vr1_8) rfl (by kernel_rfl) (by kernel_rfl) hWr1 (by kernel_rfl) (by kernel_rfl) (by kernel_rfl) (by kernel_rfl) (by kernel_rfl) (by kernel_rfl) (fun _ _ _ _ h => h) (by kernel_rfl) ?hyr1_8 (by omega) hH ?_
          case hyr1_8 => (intro w' hSw; replace hSw := S2o0 hSw; (try dsimp only at hSw); have q0 := hSw.1; have q1 := hSw.2.1; have q2 := hSw.2.2.1; have q3 := hSw.2.2.2.1; have q4 := hSw.2.2.2.2.1; have q5 := hSw.2.2.2.2.2.1; have q6 := hSw.2.2.2.2.2.2.1; have q7 := hSw.2.2.2.2.2.2.2.1; have q8 := hSw.2.2.2.2.2.2.2.2; go_simp; try (with_reducible rfl))
          simp only [List.set_cons_zero, List.set_cons_succ]
          refine wpAnyU_ready (rs := [8]) (by kernel_rfl) (by simp) ?_
          refine AllReadyU.cons 0 (by kernel_rfl) (o := _) rfl (fun K hK => ?_) AllReadyU.nil
          go_simp
          (go_at_call 71; refine (HTC.out _).mono ?_; rintro e wn ⟨rfl, hb⟩)
          refine hK.out _ _ ?hsr1_9 (fun hH2 => ?hrr1_9)
          case hsr1_9 => exact S2i0 (by have hG := hH; replace hG := S2o0 hG; (try dsimp only at hG); have q0 := hG.1; have q1 := hG.2.1; have q2 := hG.2.2.1; have q3 := hG.2.2.2.1; have q4 := hG.2.2.2.2.1; have q5 := hG.2.2.2.2.2.1; have q6 := hG.2.2.2.2.2.2.1; have q7 := hG.2.2.2.2.2.2.2.1; have q8 := hG.2.2.2.2.2.2.2.2; exact ⟨keepCell hb q0, keepCell hb q1, keepCell hb q2, keepCell hb q3, keepCell hb q4, keepCell hb q5, keepCell hb q6, keepCell hb q7, keepBelow hb q8⟩)
          clear hK K hH
          have hH := hH2
          clear hH2
          try simp only [Act.put, List.setIfInBounds_toArray, List.set_cons_zero, List.set_cons_succ]
          refine wpAnyU_done (by kernel_rfl) ?_ _ _
          refine NoPanic.normal ?_
          clear hWr1
          replace hH := S2o0 hH
          (try dsimp only at hH)
          have q0 := hH.1
          have q1 := hH.2.1
          have q2 := hH.2.2.1
          have q3 := hH.2.2.2.1
          have q4 := hH.2.2.2.2.1
          have q5 := hH.2.2.2.2.2.1
          have q6 := hH.2.2.2.2.2.2.1
          have q7 := hH.2.2.2.2.2.2.2.1
          have q8 := hH.2.2.2.2.2.2.2.2
          clear hH
          have HPQ := hid (HPO.out.keep q8)
          clear HPO HTC x_0 x_1 x_2 x_3 y_0 y_1 y_2 y_3 q0 q1 q2 q3 q4 q5 q6 q7 q8
          try clear hb
          cases tc with
          | true =>
            have HO2 : Hid (rowP l k (m + 1) = rowP l k m ++ [(k, m)]) := by show _ = _; rw [HRW.out, if_pos ⟨by have := HKM.out; omega, rfl⟩]
            clear HRW
            go_wp2_with (at_builtin; refine wpList_append_E tyPair rfl _ _ rfl w.heap.size _ _ rfl (HPQ.out.own.alloc _) wn.heap.size 0 1 1 [(k, m)] rfl rfl (cells_pair (by go_simp) (by go_simp)) (by have := hpl.out; have := HRL.out; simp; omega) (by have := hpl.out; have := HRL.out; simp; omega) (by have := HPQ.out.bel.size; simp; omega) ?_; intro v' w7 ho1 hg1 hat; have HP7 := hid ((HPQ.out.keep ((Below.refl _ _).alloc (Nat.le_refl _) _)).app ho1 hg1); clear ho1 hg1 hat)
            clear HPQ
            go_roundw
            case rel => exact ⟨m + 1, by have := HKM.out; omega, hlm, by go_num, by rw [HO2.out, ← List.append_assoc]; exact HP7.out⟩
            case measure => simp [intOf]; omega
          | false =>
            have HO2 : Hid (rowP l k (m + 1) = rowP l k m) := by show _ = _; rw [HRW.out, if_neg (fun h => absurd h.2 (by simp)), List.append_nil]
            clear HRW
            go_wp2
            go_roundw
            case rel => exact ⟨m + 1, by have := HKM.out; omega, hlm, by go_num, by rw [HO2.out]; exact HPQ.out⟩
            case measure => simp [intOf]; omega
        · have hme : m = l.length := by omega
          subst hme
          clear hpo
          go_wp2
          go_roundw
          case rel => exact ⟨k + 1, hlt, by go_num, by rw [HNX.out]; exact HPO.out⟩
          case measure => simp [intOf]; omega
    · have hke : k = l.length := by omega
      subst hke
      obtain ⟨Ar, nr, cr, rfl, hrt⟩ := HPO.out.ret
      have HRT := hid hrt
      clear hpo hrt HPO
      go_wp2
      refine bodyPost_ret (v := .slice Ar nr cr) (by simp [results, Try.results75, go_sem]) rfl HRT.out

end Go.Proofs.Ythhfjiikmaghdaa
