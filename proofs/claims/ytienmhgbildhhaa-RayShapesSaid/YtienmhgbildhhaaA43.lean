/- Parts of a proof: contracts and laws. -/
import Derived.Test.YtienmhgbildhhaaA42
import Derived.Test.YtienmhgbildhhaaA41
import Derived.Maps.AppendAt
namespace Go.Proofs.Ytienmhgbildhhaa
section
set_option linter.unusedVariables false
set_option linter.unusedSimpArgs false
open Go.RowKit
def rowL (p : V) (b : List V) : List V := b.map fun q => (p.1 - q.1, p.2 - q.2)
theorem diff_take {a b : List V} {i : Nat} (hi : i < a.length) : diffL (a.take (i + 1)) b = diffL (a.take i) b ++ rowL (ptL a i) b := by
  unfold diffL rowL
  rw [List.take_succ_eq_append_getElem hi, List.flatMap_append]
  have e : ptL a i = a[i] := by unfold ptL px py; simp [hi]
  rw [e]
  simp
theorem row_take {p : V} {b : List V} {k : Nat} (hk : k < b.length) : rowL p (b.take (k + 1)) = rowL p (b.take k) ++ [(p.1 - px b k, p.2 - py b k)] := by
  unfold rowL
  rw [List.take_succ_eq_append_getElem hk, List.map_append]
  unfold px py
  simp [hk]
theorem row_len (p : V) (b : List V) : (rowL p b).length = b.length := by simp [rowL]
theorem diff_within {a b : List V} (ha : allWithin 65536000 a = true) (hb : allWithin 65536000 b = true) : allWithin 262144000 (diffL a b) = true := by
  unfold allWithin
  rw [List.all_eq_true]
  intro p hp
  obtain ⟨j, k, hj, hk, rfl⟩ := mem_diff.1 hp
  have h1 := withinB_iff.1 (allWithin_at ha hj)
  have h2 := withinB_iff.1 (allWithin_at hb hk)
  unfold dpt2
  exact withinB_iff.2 (by dsimp only; omega)

theorem wpList_append_vecs_at {w : World} {ops : Array Oper} {rest : List Oper} {o : Oper} {a : Act} {Q : Exit → Act → World → Prop} (hgd : o.guard = none) (s x : Operand)
    (ho : o.op = .call { callee := .builtin .append, args := #[s, x], argTypes := #[25, 25] })
    (B : Nat) (v : Value) (l : List V) (hs : a.eval s = v) (hown : Own w B v l) (b off n c : Nat) (m : List V) (hx : a.eval x = .slice (some ⟨b, off, none⟩) n c) (hn : n = m.length) (hc : Cells w b off m)
    (hl : l.length + m.length ≤ 8796093022208) (hB : B ≤ w.heap.size)
    (h : ∀ v' w', Own w' B v' (l ++ m) → w.grownBy w' v.ownBlock → (v'.ownBlock = v.ownBlock ∨ v'.ownBlock = some w.heap.size) → wpList Try.prog ops Q rest (a.put o.dst v') w') : wpList Try.prog ops Q (o :: rest) a w := by
  obtain ⟨i0, hi, hz0, hz1, hz2⟩ := info_parts info_vec
  obtain ⟨v', w', hr, h2, h3, h4, h5⟩ := run_append_own_at (P := Try.prog) w B 25 o.type 24 i0 (.agg #[.int .i64 0, .int .i64 0]) 2 16 Try.underlying25 hi hz0 hz1 hz2 rfl (by decide) v l.length (flat l) hown ⟨b, off, none⟩ n c (flat m) (by rw [flat_len, hn]) (flat_cells hc) (flat_one m) (by unfold maxLen; omega) (by omega) hB
  refine wpList_plain hgd fun K hK => ?_
  unfold Oper.wp execOp
  simp only [ho, resolve, invoke, builtin, Sem.run_bind, Sem.run_pure, Result.andThen_ok, List.map_toArray, List.map_cons, List.map_nil, hs, hx, hr]
  refine hK _ _ (h v' w' ?_ h3 h5)
  unfold Own
  rw [flat_append, List.length_append, ← hn]
  exact h2

structure MN (w0 : World) (s : Value) (o : List V) (w : World) : Prop where
  own : Own w w0.heap.size s o
  bel : Below w0.heap.size w0 w
theorem MN.keep {w0 : World} {s : Value} {o : List V} {w w' : World} (hb : Below w.heap.size w w') (h : MN w0 s o w) : MN w0 s o w' := ⟨h.own.below hb, keepBelow hb h.bel⟩

structure MI (w0 : World) (g : Nat) (x y : Int) (s : Value) (o : List V) (w : World) : Prop where
  mn : MN w0 s o w
  a : w.cell? ⟨g, 0, none⟩ = some (.int .i64 x)
  b : w.cell? ⟨g, 1, none⟩ = some (.int .i64 y)
  ob : ∀ k, s.ownBlock = some k → k ≠ g
theorem MI.keep {w0 : World} {g : Nat} {x y : Int} {s : Value} {o : List V} {w w' : World} (hb : Below w.heap.size w w') (h : MI w0 g x y s o w) : MI w0 g x y s o w' := ⟨h.mn.keep hb, keepCell hb h.a, keepCell hb h.b, h.ob⟩
theorem MI.app {w0 : World} {g : Nat} {x y : Int} {s s' : Value} {o o' : List V} {w w' : World} (h : MI w0 g x y s o w) (ho : Own w' w0.heap.size s' o') (hg : w.grownBy w' s.ownBlock) (hat : s'.ownBlock = s.ownBlock ∨ s'.ownBlock = some w.heap.size) : MI w0 g x y s' o' w' := by
  have hne : some g ≠ s.ownBlock := fun e => h.ob g e.symm rfl
  refine ⟨⟨ho, h.mn.bel.grown hg h.mn.bel.size (fun k hk => (World.ownsRow.lt h.mn.own k hk).1)⟩, hg.cell h.a hne, hg.cell h.b hne, fun k hk => ?_⟩
  rcases hat with q | q
  · exact h.ob k (by rw [← q]; exact hk)
  · have := lt_of_cell h.a
    rw [q] at hk
    cases hk
    omega
set_option maxRecDepth 100000 in
set_option maxHeartbeats 8000000 in
theorem rminus_calls (A B : Option Addr) (n c n' c' : Nat) (a b : List V) (w : World) (hS : Sl w A n c a) (hM : Sl w B n' c' b) (ha : checkE a = 0) (hb : checkE b = 0) :
    Calls Try.prog 50 #[.slice A n c, .slice B n' c'] w (RetVecs (minusL a b) w) := by
  have HW := hid (wrap_minus ha hb)
  obtain ⟨a8, a3, wa, _⟩ := checkE_zero ha
  obtain ⟨b8, b3, wb, _⟩ := checkE_zero hb
  have hn := hS.len
  have hn' := hM.len
  subst hn hn'
  have HS := hid hS
  have HM := hid hM
  have HWA := hid wa
  have HWB := hid wb
  have HB := hid hb
  generalize minusL a b = Z at *
  clear hS hM ha hb wa wb
  go_enter Try.func50, Try.ntmps50
  go_wp2
  go_loopw [5, 12] (fun s j wr => ∃ i : Nat, i ≤ a.length ∧ j = .int .i64 i ∧ MN w s (diffL (a.take i) b) wr) (fun _ j _ => a.length - (intOf j).toNat)
  case atStart => exact ⟨0, Nat.zero_le _, rfl, Own.nil _ _, Below.refl _ _⟩
  case round =>
    obtain ⟨i, hi, rfl, hmn⟩ := hrel
    obtain ⟨wo, rfl⟩ : ∃ wo : World, wo = wr := ⟨_, rfl⟩
    have HMN := hid hmn
    by_cases hlt : i < a.length
    · have hlt' : (i : Int) < (a.length : Int) := by omega
      obtain ⟨bA, oA, hA, hC⟩ := (HS.out.below hmn.bel).at_ (by intro h; subst h; simp at hlt)
      subst hA
      have xk := hC.x i hlt
      have yk := hC.y i hlt
      have hbl := hC.lt
      have hPA := withinB_iff.1 (allWithin_at HWA.out hlt)
      have hwk : IntKind.i64.wrap ((i : Int) + 1) = (i : Int) + 1 := IntWalk.i64_in _ (by omega)
      have HDT : Hid (diffL (a.take (i + 1)) b = diffL (a.take i) b ++ rowL (px a i, py a i) b) := diff_take hlt
      have HLN : Hid ((diffL (a.take i) b).length ≤ 64) := by
        show _ ≤ _
        rw [diff_len, List.length_take]
        have := Nat.mul_le_mul (show min i a.length ≤ 8 by omega) b8
        omega
      generalize diffL (a.take i) b = o at *
      generalize px a i = x at *
      generalize py a i = y at *
      obtain ⟨gP, hgP⟩ : ∃ g, g = wo.heap.size := ⟨_, rfl⟩
      obtain ⟨wp, hwp⟩ : ∃ w, w = wo.alloc (.cells #[.int .i64 x, .int .i64 y] 24) := ⟨_, rfl⟩
      have HP : Hid (MI w gP x y u5 o wp) := ⟨by rw [hwp]; exact HMN.out.keep ((Below.refl _ _).alloc (Nat.le_refl _) _), by rw [hwp, hgP]; go_simp, by rw [hwp, hgP]; go_simp, fun k hk => by rw [hgP]; have := (World.ownsRow.lt HMN.out.own k hk).2; omega⟩
      clear hC hmn
      go_wp2
      rw [← hwp, ← hgP]
      clear hwp hgP xk yk hbl HMN
      go_loopw [5, 18] (fun s j wr => ∃ k : Nat, k ≤ b.length ∧ j = .int .i64 k ∧ MI w gP x y s (o ++ rowL (x, y) (b.take k)) wr) (fun _ j _ => b.length - (intOf j).toNat)
      case atStart => exact ⟨0, Nat.zero_le _, rfl, by simpa [rowL] using HP.out⟩
      case round =>
        clear HP
        obtain ⟨k, hk, rfl, hmi⟩ := hrel
        obtain ⟨wo2, rfl⟩ : ∃ wo : World, wo = wr := ⟨_, rfl⟩
        have HMI := hid hmi
        by_cases hlt2 : k < b.length
        · have hlt2' : (k : Int) < (b.length : Int) := by omega
          obtain ⟨bB, oB, hA, hC⟩ := (HM.out.below hmi.mn.bel).at_ (by intro h; subst h; simp at hlt2)
          subst hA
          have xk := hC.x k hlt2
          have yk := hC.y k hlt2
          have hbl := hC.lt
          have hPB := withinB_iff.1 (allWithin_at HWB.out hlt2)
          have hwk2 : IntKind.i64.wrap ((k : Int) + 1) = (k : Int) + 1 := IntWalk.i64_in _ (by omega)
          have HRT : Hid (rowL (x, y) (b.take (k + 1)) = rowL (x, y) (b.take k) ++ [(x - px b k, y - py b k)]) := row_take hlt2
          have HRL : Hid ((rowL (x, y) (b.take k)).length ≤ 8) := by show _ ≤ _; rw [row_len, List.length_take]; omega
          have HSB := hid (fun w => sub_small x y (px b k) (py b k) w (by unfold sm; omega) (by unfold sm; omega) (by unfold sm; omega) (by unfold sm; omega))
          generalize rowL (x, y) (b.take k) = r at *
          generalize px b k = z at *
          generalize py b k = t at *
          obtain ⟨gQ, hgQ⟩ : ∃ g, g = wo2.heap.size := ⟨_, rfl⟩
          obtain ⟨wq, hwq⟩ : ∃ w, w = wo2.alloc (.cells #[.int .i64 z, .int .i64 t] 24) := ⟨_, rfl⟩
          have HQ := hid (HMI.out.keep ((Below.refl _ _).alloc (Nat.le_refl _) (.cells #[.int .i64 z, .int .i64 t] 24)))
          rw [← hwq] at HQ
          have q0 : wq.cell? ⟨gQ, 0, none⟩ = some (.int .i64 z) := by rw [hwq, hgQ]; go_simp
          have q1 : wq.cell? ⟨gQ, 1, none⟩ = some (.int .i64 t) := by rw [hwq, hgQ]; go_simp
          have p0 := HQ.out.a
          have p1 := HQ.out.b
          clear hC hmi
          go_upto_region 8 with fail
          rw [← hwq, ← hgQ]
          clear hwq hgQ xk yk hbl HMI
          go_wp2_with fail
          refine (HSB.out _).mono ?_
          rintro e w2 ⟨rfl, hb2⟩
          have HM2 := hid (HQ.out.keep hb2)
          clear HQ hb2 p0 p1 q0 q1 HSB
          go_wp2_with (at_builtin; refine wpList_append_vecs_at rfl _ _ rfl w.heap.size _ _ rfl (HM2.out.mn.own.alloc _) w2.heap.size 0 1 1 [(x - z, y - t)] rfl rfl (cells_one (by go_simp) (by go_simp)) (by have := HLN.out; have := HRL.out; simp; omega) (by have := HM2.out.mn.bel.size; simp; omega) ?_; intro v' w7 ho1 hg1 hat; have HM7 := hid ((HM2.out.keep ((Below.refl _ _).alloc (Nat.le_refl _) _)).app ho1 hg1 hat); clear ho1 hg1 hat)
          clear HM2
          go_roundw
          case rel => exact ⟨k + 1, hlt2, by go_num, by rw [HRT.out, ← List.append_assoc]; exact HM7.out⟩
          case measure => simp [intOf]; omega
        · have hge : k = b.length := by omega
          subst hge
          have hx := hmi.mn
          rw [List.take_length, ← HDT.out] at hx
          have HRE := hid hx
          clear hx
          clear hmi HMI
          go_wp2
          go_roundw
          case rel => exact ⟨i + 1, hlt, by go_num, HRE.out⟩
          case measure => simp [intOf]; omega
    · have hge : i = a.length := by omega
      subst hge
      rw [List.take_length] at hmn
      obtain ⟨Ao, no, co, rfl, hso, hfo⟩ := hmn.own.sl
      have hno := hso.len
      subst hno
      have HWC := hid (fun wq (h : Below wo.heap.size wo wq) => wrap_calls Ao _ co (diffL a b) wq (hso.below h) (diff_within HWA.out HWB.out) (by rw [diff_len]; have := Nat.mul_le_mul a8 b8; omega))
      have hB := hmn.bel
      clear hmn HMN hso
      go_wp2_with fail
      refine (HWC.out _ (Below.refl _ _)).mono ?_
      rintro e w2 ⟨A2, n2, c2, rfl, hs2, hf2, hb2⟩
      have HRT : Hid (RetVecs Z w (.returned (.slice A2 n2 c2)) w2) := ⟨A2, n2, c2, rfl, by rw [← HW.out]; exact hs2, fun b off e => by have := hf2 b off e; have := hB.size; omega, keepBelow hb2 hB⟩
      clear hs2 hf2 hb2 hB HWC
      go_wp2
      refine bodyPost_ret (v := .slice A2 n2 c2) (by simp [results, Try.results50, go_sem]) rfl HRT.out
end
end Go.Proofs.Ytienmhgbildhhaa
