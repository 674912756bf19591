/- The contract of the reference's Both. -/
import Derived.Test.YthhfjiikmaghdaaW8
import Derived.Test.YthhfjiikmaghdaaN4
namespace Go.Proofs.Ythhfjiikmaghdaa
set_option linter.unusedVariables false
set_option linter.unusedSimpArgs false
open Go.RowKit

theorem Cells.two (w : World) (x y u v : Int) (t : TypeId) : Cells (w.alloc (.cells #[.int .i64 x, .int .i64 y, .int .i64 u, .int .i64 v] t)) w.heap.size 0 [(x, y), (u, v)] := by
  refine ⟨by simp, fun i hi => ?_, fun i hi => ?_⟩
  · have : i = 0 ∨ i = 1 := by simp at hi; omega
    rcases this with rfl | rfl <;> simp [px]
  · have : i = 0 ∨ i = 1 := by simp at hi; omega
    rcases this with rfl | rfl <;> simp [py]
theorem own_ge {w : World} {B : Nat} {v : Value} {l : List V} (h : Own w B v l) {k : Nat} (hk : v.ownBlock = some k) : B ≤ k := (World.ownsRow.lt h k hk).1
/-- a block below the own ones stays as it is -/
theorem vb_grown {w w' : World} {g : Nat} {row : Option Nat} (h : Vb w g) (hg : w.grownBy w' row) (hr : row ≠ some g) : Vb w' g := by
  obtain ⟨⟨⟨v0, h0⟩, ⟨v1, h1⟩, ⟨v2, h2⟩, ⟨v3, h3⟩⟩, hf⟩ := h
  have hr' : some g ≠ row := fun e => hr e.symm
  refine ⟨⟨⟨v0, hg.cell h0 hr'⟩, ⟨v1, hg.cell h1 hr'⟩, ⟨v2, hg.cell h2 hr'⟩, ⟨v3, hg.cell h3 hr'⟩⟩, fun j => ?_⟩
  have := hg.block g (lt_of_cell h0) hr'
  have hj := hf j
  unfold World.frozen? at hj ⊢
  rw [this]
  exact hj
/-- the corners of the valid ones of two boxes -/
def boxL (v : Bool) (a : Bx) : List V := if v = true then [a.1, a.2] else []
theorem min_two {x y : Int} (h : x ≤ y) : minL [x, y] = x := by show mnI x y = x; unfold mnI; split <;> omega
theorem max_two {x y : Int} (h : x ≤ y) : maxL [x, y] = y := by show mxI x y = y; unfold mxI; split <;> omega
theorem min_four {x y u v : Int} (h : x ≤ y) (k : u ≤ v) : minL [x, y, u, v] = min x u := by show mnI (mnI (mnI x y) u) v = _; unfold mnI; (repeat' split) <;> omega
theorem max_four {x y u v : Int} (h : x ≤ y) (k : u ≤ v) : maxL [x, y, u, v] = max y v := by show mxI (mxI (mxI x y) u) v = _; unfold mxI; (repeat' split) <;> omega
theorem both_law (a b : Bx) : (boxL (vldB a) a ++ boxL (vldB b) b = [] → joinB a b = ((0, 0), (0, 0))) ∧ (boxL (vldB a) a ++ boxL (vldB b) b ≠ [] →
    boxV (minL (xsL (boxL (vldB a) a ++ boxL (vldB b) b))) (minL (ysL (boxL (vldB a) a ++ boxL (vldB b) b))) (maxL (xsL (boxL (vldB a) a ++ boxL (vldB b) b))) (maxL (ysL (boxL (vldB a) a ++ boxL (vldB b) b))) = bxV (joinB a b)) := by
  have va : vldB a = true → a.1.1 ≤ a.2.1 ∧ a.1.2 ≤ a.2.2 := fun h => by unfold vldB at h; exact of_decide_eq_true h
  have vb : vldB b = true → b.1.1 ≤ b.2.1 ∧ b.1.2 ≤ b.2.2 := fun h => by unfold vldB at h; exact of_decide_eq_true h
  unfold joinB boxL xsL ysL
  cases h1 : vldB a <;> cases h2 : vldB b
  · simp
  · obtain ⟨p, q⟩ := vb h2
    simp [min_two p, min_two q, max_two p, max_two q]
  · obtain ⟨p, q⟩ := va h1
    simp [min_two p, min_two q, max_two p, max_two q]
  · obtain ⟨p, q⟩ := va h1
    obtain ⟨r, s⟩ := vb h2
    simp [min_four p r, min_four q s, max_four p r, max_four q s]

theorem wpList_append_vecs_at' {w : World} {ops : Array Oper} {rest : List Oper} {o : Oper} {a : Act} {Q : Exit → Act → World → Prop} (hgd : o.guard = none) (s x : Operand)
    (ho : o.op = .call { callee := .builtin .append, args := #[s, x], argTypes := #[23, 23] })
    (B : Nat) (v : Value) (l : List V) (hs : a.eval s = v) (hown : Own w B v l) (b off n c : Nat) (m : List V) (hx : a.eval x = .slice (some ⟨b, off, none⟩) n c) (hn : n = m.length) (hc : Cells w b off m)
    (hl : l.length + m.length ≤ 8796093022208) (hB : B ≤ w.heap.size)
    (h : ∀ v' w', Own w' B v' (l ++ m) → w.grownBy w' v.ownBlock → (v'.ownBlock = v.ownBlock ∨ v'.ownBlock = some w.heap.size) → wpList Try.prog ops Q rest (a.put o.dst v') w') : wpList Try.prog ops Q (o :: rest) a w := by
  obtain ⟨i0, hi, hz0, hz1, hz2⟩ := info_parts info_vec
  obtain ⟨v', w', hr, h2, h3, h4, h5⟩ := run_append_own_at (P := Try.prog) w B 23 o.type 25 i0 (.agg #[.int .i64 0, .int .i64 0]) 2 16 Try.underlying23 hi hz0 hz1 hz2 rfl (by decide) v l.length (flat l) hown ⟨b, off, none⟩ n c (flat m) (by rw [flat_len, hn]) (flat_cells hc) (flat_one m) (by unfold maxLen; omega) (by omega) hB
  refine wpList_plain hgd fun K hK => ?_
  unfold Oper.wp execOp
  simp only [ho, resolve, invoke, builtin, Sem.run_bind, Sem.run_pure, Result.andThen_ok, List.map_toArray, List.map_cons, List.map_nil, hs, hx, hr]
  refine hK _ _ (h v' w' ?_ h3 h5)
  unfold Own
  rw [flat_append, List.length_append, ← hn]
  exact h2

/-- the loop over two boxes -/
structure BW (w : World) (gE g : Nat) (a b : Bx) (s : Value) (l : List V) (wr : World) : Prop where
  own : Own wr w.heap.size s l
  ne : some gE ≠ s.ownBlock
  ng : some g ≠ s.ownBlock
  a0 : wr.cell? ⟨gE, 0, none⟩ = some (.int .i64 a.1.1)
  a1 : wr.cell? ⟨gE, 1, none⟩ = some (.int .i64 a.1.2)
  a2 : wr.cell? ⟨gE, 2, none⟩ = some (.int .i64 a.2.1)
  a3 : wr.cell? ⟨gE, 3, none⟩ = some (.int .i64 a.2.2)
  b0 : wr.cell? ⟨gE, 4, none⟩ = some (.int .i64 b.1.1)
  b1 : wr.cell? ⟨gE, 5, none⟩ = some (.int .i64 b.1.2)
  b2 : wr.cell? ⟨gE, 6, none⟩ = some (.int .i64 b.2.1)
  b3 : wr.cell? ⟨gE, 7, none⟩ = some (.int .i64 b.2.2)
  z : Vb wr g
  bel : Below w.heap.size w wr
theorem BW.keep {w : World} {gE g : Nat} {a b : Bx} {s : Value} {l : List V} {wr wr' : World} (hb : Below wr.heap.size wr wr') (h : BW w gE g a b s l wr) : BW w gE g a b s l wr' :=
  ⟨h.own.below hb, h.ne, h.ng, keepCell hb h.a0, keepCell hb h.a1, keepCell hb h.a2, keepCell hb h.a3, keepCell hb h.b0, keepCell hb h.b1, keepCell hb h.b2, keepCell hb h.b3, keepVb hb h.z, keepBelow hb h.bel⟩
theorem BW.app {w : World} {gE g : Nat} {a b : Bx} {s s' : Value} {l l' : List V} {wr wr' : World} (h : BW w gE g a b s l wr) (ho : Own wr' w.heap.size s' l') (hg : wr.grownBy wr' s.ownBlock) (hat : s'.ownBlock = s.ownBlock ∨ s'.ownBlock = some wr.heap.size) : BW w gE g a b s' l' wr' := by
  refine ⟨ho, ?_, ?_, hg.cell h.a0 h.ne, hg.cell h.a1 h.ne, hg.cell h.a2 h.ne, hg.cell h.a3 h.ne, hg.cell h.b0 h.ne, hg.cell h.b1 h.ne, hg.cell h.b2 h.ne, hg.cell h.b3 h.ne, vb_grown h.z hg (fun e => h.ng e.symm), h.bel.grown hg h.bel.size (fun k hk => own_ge h.own hk)⟩
  · rcases hat with q | q
    · rw [q]; exact h.ne
    · rw [q]; intro e; have := lt_of_cell h.a0; cases e; omega
  · rcases hat with q | q
    · rw [q]; exact h.ng
    · rw [q]; intro e; obtain ⟨⟨⟨_, h0⟩, _⟩, _⟩ := h.z; have := lt_of_cell h0; cases e; omega
set_option maxRecDepth 100000 in
set_option maxHeartbeats 8000000 in
theorem rboth_calls (a1 a2 a3 a4 b1 b2 b3 b4 : Int) (w : World) : Calls Try.prog 72 #[bxV ((a1, a2), (a3, a4)), bxV ((b1, b2), (b3, b4))] w (Ret (bxV (joinB ((a1, a2), (a3, a4)) ((b1, b2), (b3, b4)))) w) := by
  have HLAW := hid (both_law ((a1, a2), (a3, a4)) ((b1, b2), (b3, b4)))
  have HVA := hid (rbox_calls a1 a2 a3 a4)
  have HVB := hid (rbox_calls b1 b2 b3 b4)
  generalize vldB ((a1, a2), (a3, a4)) = va at *
  generalize vldB ((b1, b2), (b3, b4)) = vb at *
  generalize joinB ((a1, a2), (a3, a4)) ((b1, b2), (b3, b4)) = J at *
  obtain ⟨W, hW⟩ : ∃ W, W = ((((w.alloc (.cells #[.int .i64 a1, .int .i64 a2, .int .i64 a3, .int .i64 a4] 55)).alloc (.cells #[.int .i64 b1, .int .i64 b2, .int .i64 b3, .int .i64 b4] 55)).alloc (.cells #[.int .i64 0, .int .i64 0, .int .i64 0, .int .i64 0] 55)).alloc (.cells #[] 25)).alloc (.cells #[.int .i64 a1, .int .i64 a2, .int .i64 a3, .int .i64 a4, .int .i64 b1, .int .i64 b2, .int .i64 b3, .int .i64 b4] 55) := ⟨_, rfl⟩
  have HBW : Hid (BW w (w.heap.size + 1 + 1 + 1 + 1) (w.heap.size + 1 + 1) ((a1, a2), (a3, a4)) ((b1, b2), (b3, b4)) (.slice (some ⟨w.heap.size + 1 + 1 + 1, 0, none⟩) 0 0) [] W) := by
    show BW _ _ _ _ _ _ _ _
    rw [hW]
    refine ⟨?_, by simp [Value.ownBlock], by simp [Value.ownBlock], by go_simp, by go_simp, by go_simp, by go_simp, by go_simp, by go_simp, by go_simp, by go_simp, ?_, by go_grown⟩
    · refine Own.alloc ?_ _
      have := Own.lit (((w.alloc (.cells #[.int .i64 a1, .int .i64 a2, .int .i64 a3, .int .i64 a4] 55)).alloc (.cells #[.int .i64 b1, .int .i64 b2, .int .i64 b3, .int .i64 b4] 55)).alloc (.cells #[.int .i64 0, .int .i64 0, .int .i64 0, .int .i64 0] 55)) w.heap.size [] (by simp; omega) (by simp)
      simpa [flat] using this
    · exact ⟨⟨⟨.int .i64 0, by go_simp⟩, ⟨.int .i64 0, by go_simp⟩, ⟨.int .i64 0, by go_simp⟩, ⟨.int .i64 0, by go_simp⟩⟩, fun j => by go_simp⟩
  go_enter Try.func72, Try.ntmps72
  go_wp2
  rw [← hW]
  clear hW
  obtain ⟨gE, hgE⟩ : ∃ g, g = w.heap.size + 1 + 1 + 1 + 1 := ⟨_, rfl⟩
  obtain ⟨gO, hgO⟩ : ∃ g, g = w.heap.size + 1 + 1 + 1 := ⟨_, rfl⟩
  obtain ⟨g, hg⟩ : ∃ g, g = w.heap.size + 1 + 1 := ⟨_, rfl⟩
  rw [← hgE, ← hgO, ← hg] at HBW ⊢
  have hgw : w.heap.size ≤ g := by omega
  clear hgE hgO hg
  go_loopw [5, 13] (fun s i wr => (i = .int .i64 0 ∧ BW w gE g ((a1, a2), (a3, a4)) ((b1, b2), (b3, b4)) s [] wr) ∨ (i = .int .i64 1 ∧ BW w gE g ((a1, a2), (a3, a4)) ((b1, b2), (b3, b4)) s (boxL va ((a1, a2), (a3, a4))) wr) ∨ (i = .int .i64 2 ∧ BW w gE g ((a1, a2), (a3, a4)) ((b1, b2), (b3, b4)) s (boxL va ((a1, a2), (a3, a4)) ++ boxL vb ((b1, b2), (b3, b4))) wr)) (fun _ i _ => 2 - (intOf i).toNat)
  case atStart => exact .inl ⟨rfl, HBW.out⟩
  case round =>
    clear HBW
    obtain ⟨wo, rfl⟩ : ∃ wo : World, wo = wr := ⟨_, rfl⟩
    rcases hrel with ⟨rfl, hbw⟩ | ⟨rfl, hbw⟩ | ⟨rfl, hbw⟩
    · have e0 := hbw.a0
      have e1 := hbw.a1
      have e2 := hbw.a2
      have e3 := hbw.a3
      dsimp only at e0 e1 e2 e3
      have hgE := lt_of_cell e0
      have HBW := hid hbw
      have hB0 := hbw.bel.size
      obtain ⟨wp, hwp⟩ : ∃ w', w' = wo.alloc (.cells #[.int .i64 a1, .int .i64 a2, .int .i64 a3, .int .i64 a4] 55) := ⟨_, rfl⟩
      obtain ⟨gp, hgp⟩ : ∃ g, g = wo.heap.size := ⟨_, rfl⟩
      have p0 : wp.cell? ⟨gp, 0, none⟩ = some (.int .i64 a1) := by rw [hwp, hgp]; go_simp
      have p1 : wp.cell? ⟨gp, 1, none⟩ = some (.int .i64 a2) := by rw [hwp, hgp]; go_simp
      have p2 : wp.cell? ⟨gp, 2, none⟩ = some (.int .i64 a3) := by rw [hwp, hgp]; go_simp
      have p3 : wp.cell? ⟨gp, 3, none⟩ = some (.int .i64 a4) := by rw [hwp, hgp]; go_simp
      replace HBW := hid (HBW.out.keep (show Below wo.heap.size wo wp by rw [hwp]; go_grown))
      clear hbw
      go_upto_region 5 with fail
      rw [← hwp, ← hgp]
      clear hwp hgp e0 e1 e2 e3 hgE hB0
      go_wp2_with fail
      refine (HVA.out _).mono ?_
      rintro e w1 ⟨rfl, hb1⟩
      replace p0 := keepCell hb1 p0
      replace p1 := keepCell hb1 p1
      replace p2 := keepCell hb1 p2
      replace p3 := keepCell hb1 p3
      replace HBW := hid (HBW.out.keep hb1)
      clear hb1
      have hB1 := HBW.out.bel.size
      cases va with
      | false =>
        clear p0 p1 p2 p3
        go_wp2
        go_roundw
        case rel => exact .inr (.inl ⟨rfl, by simpa [boxL] using HBW.out⟩)
        case measure => simp [intOf]
      | true =>
        go_wp2_with (at_builtin; refine wpList_append_vecs_at' rfl _ _ rfl w.heap.size _ _ rfl (HBW.out.own.alloc _) w1.heap.size 0 2 2 [(a1, a2), (a3, a4)] rfl rfl (Cells.two _ _ _ _ _ _) (by first | (simp; done) | (unfold boxL; cases va <;> simp)) (by simp; omega) ?_; intro v' w7 ho1 hg1 hat; have HB7 := hid ((HBW.out.keep ((Below.refl _ _).alloc (Nat.le_refl _) _)).app ho1 hg1 hat); clear ho1 hg1 hat)
        go_roundw
        case rel => exact .inr (.inl ⟨rfl, by simpa [boxL] using HB7.out⟩)
        case measure => simp [intOf]
    · have e0 := hbw.b0
      have e1 := hbw.b1
      have e2 := hbw.b2
      have e3 := hbw.b3
      dsimp only at e0 e1 e2 e3
      have hgE := lt_of_cell e0
      have HBW := hid hbw
      have hB0 := hbw.bel.size
      obtain ⟨wp, hwp⟩ : ∃ w', w' = wo.alloc (.cells #[.int .i64 b1, .int .i64 b2, .int .i64 b3, .int .i64 b4] 55) := ⟨_, rfl⟩
      obtain ⟨gp, hgp⟩ : ∃ g, g = wo.heap.size := ⟨_, rfl⟩
      have p0 : wp.cell? ⟨gp, 0, none⟩ = some (.int .i64 b1) := by rw [hwp, hgp]; go_simp
      have p1 : wp.cell? ⟨gp, 1, none⟩ = some (.int .i64 b2) := by rw [hwp, hgp]; go_simp
      have p2 : wp.cell? ⟨gp, 2, none⟩ = some (.int .i64 b3) := by rw [hwp, hgp]; go_simp
      have p3 : wp.cell? ⟨gp, 3, none⟩ = some (.int .i64 b4) := by rw [hwp, hgp]; go_simp
      replace HBW := hid (HBW.out.keep (show Below wo.heap.size wo wp by rw [hwp]; go_grown))
      clear hbw
      go_upto_region 5 with fail
      rw [← hwp, ← hgp]
      clear hwp hgp e0 e1 e2 e3 hgE hB0
      go_wp2_with fail
      refine (HVB.out _).mono ?_
      rintro e w1 ⟨rfl, hb1⟩
      replace p0 := keepCell hb1 p0
      replace p1 := keepCell hb1 p1
      replace p2 := keepCell hb1 p2
      replace p3 := keepCell hb1 p3
      replace HBW := hid (HBW.out.keep hb1)
      clear hb1
      have hB1 := HBW.out.bel.size
      cases vb with
      | false =>
        clear p0 p1 p2 p3
        go_wp2
        go_roundw
        case rel => exact .inr (.inr ⟨rfl, by simpa [boxL] using HBW.out⟩)
        case measure => simp [intOf]
      | true =>
        go_wp2_with (at_builtin; refine wpList_append_vecs_at' rfl _ _ rfl w.heap.size _ _ rfl (HBW.out.own.alloc _) w1.heap.size 0 2 2 [(b1, b2), (b3, b4)] rfl rfl (Cells.two _ _ _ _ _ _) (by first | (simp; done) | (unfold boxL; cases va <;> simp)) (by simp; omega) ?_; intro v' w7 ho1 hg1 hat; have HB7 := hid ((HBW.out.keep ((Below.refl _ _).alloc (Nat.le_refl _) _)).app ho1 hg1 hat); clear ho1 hg1 hat)
        go_roundw
        case rel => exact .inr (.inr ⟨rfl, by simpa [boxL] using HB7.out⟩)
        case measure => simp [intOf]
    · have HBW := hid hbw
      obtain ⟨Ar, nr, cr, rfl, hs, -⟩ := hbw.own.sl
      have hz := hbw.z
      have hB := hbw.bel
      obtain ⟨L, hL⟩ : ∃ L, L = boxL va ((a1, a2), (a3, a4)) ++ boxL vb ((b1, b2), (b3, b4)) := ⟨_, rfl⟩
      have hL4 : L.length ≤ 4 := by rw [hL]; unfold boxL; cases va <;> cases vb <;> simp
      rw [← hL] at hs HLAW
      have hnr := hs.len
      subst hnr
      by_cases h0 : L = []
      · have HJ := hid (HLAW.out.1 h0)
        subst h0
        obtain ⟨⟨⟨y0, z0⟩, ⟨y1, z1⟩, ⟨y2, z2⟩, ⟨y3, z3⟩⟩, zf⟩ := hz
        have hgl := lt_of_cell z0
        clear hbw HBW HLAW hs hL hL4
        go_wp2
        refine bodyPost_ret (v := bxV ((0, 0), (0, 0))) (by simp [results, Try.results72, go_sem, z0, z1, z2, z3]) rfl ⟨by rw [HJ.out], by go_grown⟩
      · have HJ := hid (HLAW.out.2 h0)
        have HAR := hid (raround_calls Ar L.length cr L wo hs (List.length_pos_iff.2 h0) (by omega))
        have hne : ¬ (L.length : Int) = 0 := by
          intro e
          exact h0 (List.length_eq_zero_iff.1 (by omega))
        have hneB : ((L.length : Int) == 0) = false := by simp [h0]
        have HZ := hid hz
        clear hbw HBW HLAW hs hL hz h0
        go_wp2_with fail
        refine HAR.out.mono ?_
        rintro e w5 ⟨rfl, hb5⟩
        have hB5 := keepBelow hb5 hB
        rw [HJ.out]
        obtain ⟨⟨x1, x2⟩, x3, x4⟩ := J
        obtain ⟨⟨⟨y0, z0⟩, ⟨y1, z1⟩, ⟨y2, z2⟩, ⟨y3, z3⟩⟩, zf⟩ := keepVb hb5 HZ.out
        have hgl := lt_of_cell z0
        clear HAR HZ hb5 HJ hB
        go_wp2
        refine bodyPost_ret (v := bxV ((x1, x2), (x3, x4))) (by simp [results, Try.results72, go_sem, z0, z1, z2, z3]) rfl ⟨rfl, by go_grown⟩

end Go.Proofs.Ythhfjiikmaghdaa
