/- Contracts of the reference's OfWide. -/
import Derived.Test.YtjoodpjndpdjnaaE6
import Derived.Deep.RegionLaw
import Derived.Deep.RegionHeld3
import Derived.Deep.DeepCutAuto
import Derived.Laws.IdiomCopy
namespace Go.Proofs.Ytjoodpjndpdjnaa
set_option linter.unusedVariables false
set_option linter.unusedSimpArgs false
open Go.RowKit

theorem Blk8.sets8 {w : World} {g : Nat} {p o : Nat → Int} (h : Blk8 w g p) : Blk8 ((((((((w.setCell ⟨g, 0, none⟩ (.int .u32 (o 0))).setCell ⟨g, 1, none⟩ (.int .u32 (o 1))).setCell ⟨g, 2, none⟩ (.int .u32 (o 2))).setCell ⟨g, 3, none⟩ (.int .u32 (o 3))).setCell ⟨g, 4, none⟩ (.int .u32 (o 4))).setCell ⟨g, 5, none⟩ (.int .u32 (o 5))).setCell ⟨g, 6, none⟩ (.int .u32 (o 6))).setCell ⟨g, 7, none⟩ (.int .u32 (o 7))) g o := by
  have h0 := h.set (k := 0) (o' := part o p 1) (v := o 0) (by omega) rfl (fun j hj => by rw [part_ne _ _ _ _ hj]; exact part_zero _ _ _)
  have h1 := h0.set (k := 1) (o' := part o p 2) (v := o 1) (by omega) rfl (fun j hj => part_ne _ _ _ _ hj)
  have h2 := h1.set (k := 2) (o' := part o p 3) (v := o 2) (by omega) rfl (fun j hj => part_ne _ _ _ _ hj)
  have h3 := h2.set (k := 3) (o' := part o p 4) (v := o 3) (by omega) rfl (fun j hj => part_ne _ _ _ _ hj)
  have h4 := h3.set (k := 4) (o' := part o p 5) (v := o 4) (by omega) rfl (fun j hj => part_ne _ _ _ _ hj)
  have h5 := h4.set (k := 5) (o' := part o p 6) (v := o 5) (by omega) rfl (fun j hj => part_ne _ _ _ _ hj)
  have h6 := h5.set (k := 6) (o' := part o p 7) (v := o 6) (by omega) rfl (fun j hj => part_ne _ _ _ _ hj)
  have h7 := h6.set (k := 7) (o' := part o p 8) (v := o 7) (by omega) rfl (fun j hj => part_ne _ _ _ _ hj)
  exact h7.congr fun j hj => part_full _ _ _ _ hj
theorem Blk8.far8 {w : World} {g b : Nat} {o : Nat → Int} {v0 v1 v2 v3 v4 v5 v6 v7 : Value} (h : Blk8 w g o) (hb : b ≠ g) : Blk8 ((((((((w.setCell ⟨b, 0, none⟩ v0).setCell ⟨b, 1, none⟩ v1).setCell ⟨b, 2, none⟩ v2).setCell ⟨b, 3, none⟩ v3).setCell ⟨b, 4, none⟩ v4).setCell ⟨b, 5, none⟩ v5).setCell ⟨b, 6, none⟩ v6).setCell ⟨b, 7, none⟩ v7) g o :=
  (((((((h.far hb _).far hb _).far hb _).far hb _).far hb _).far hb _).far hb _).far hb _
theorem Blk8.fresh {w : World} {g : Nat} {t : TypeId} (hg : g = w.heap.size) : Blk8 (w.alloc (.cells #[.int .u32 0, .int .u32 0, .int .u32 0, .int .u32 0, .int .u32 0, .int .u32 0, .int .u32 0, .int .u32 0] t)) g (fun _ => 0) := by
  subst hg
  exact Blk8.here w t (fun _ => 0)
theorem Blk8.lit {w : World} {g : Nat} {o : Nat → Int} {t : TypeId} (hg : g = w.heap.size) : Blk8 (w.alloc (.cells #[.int .u32 (o 0), .int .u32 (o 1), .int .u32 (o 2), .int .u32 (o 3), .int .u32 (o 4), .int .u32 (o 5), .int .u32 (o 6), .int .u32 (o 7)] t)) g o := by
  subst hg
  exact Blk8.here w t o
theorem Blk8.later {w : World} {g : Nat} {o : Nat → Int} (h : Blk8 w g o) (x : Obj) : Blk8 (w.alloc x) g o := h.alloc h.lt x

theorem ofw_digs (z : Int) : (digs (IntKind.i64.wrap (loW z)) 0 = digs z 0 ∧ digs (IntKind.i64.wrap (loW z)) 1 = digs z 1 ∧ digs (IntKind.i64.wrap (loW z)) 2 = digs z 2 ∧ digs (IntKind.i64.wrap (loW z)) 3 = digs z 3) ∧ (digs (hiW z) 0 = digs z 4 ∧ digs (hiW z) 1 = digs z 5 ∧ digs (hiW z) 2 = digs z 6 ∧ digs (hiW z) 3 = digs z 7) := by
  simp only [digs, hiW, loW, IntKind.wrap_i64, wrap64, Int.reducePow]
  refine ⟨⟨?_, ?_, ?_, ?_⟩, ?_, ?_, ?_, ?_⟩ <;> omega

theorem of_calls' (n : Int) (h1 : -9223372036854775808 ≤ n) (h2 : n ≤ 9223372036854775807) (d : Nat → Int) (hd : d = digs n) (w : World) :
    Calls Try.prog 36 #[.int .i64 n] w (Ret (.agg #[.int .u32 (d 0), .int .u32 (d 1), .int .u32 (d 2), .int .u32 (d 3), .int .u32 (d 4), .int .u32 (d 5), .int .u32 (d 6), .int .u32 (d 7)]) w) := by
  subst hd
  exact of_calls n h1 h2 w

theorem step_copy_cells {P : Program} {ops : Array Oper} {o : Oper} {a : Act} {w : World} {K : Act → World → Prop} {Q : Exit → Act → World → Prop} {E : Prop} (hgd : o.guard = none) (d s : Operand) (dT sT : TypeId)
    (ho : o.op = .call { callee := .builtin .copy, args := #[d, s], argTypes := #[dT, sT] }) (elem : TypeId) (hu : P.underlying dT = some (.slice elem)) (hsz : (P.info? elem).map (·.size) = some 1)
    (b off dLen dCap : Nat) (ad : Addr) (sLen sCap : Nat) (hd : a.eval d = .slice (some ⟨b, off, none⟩) dLen dCap) (hs : a.eval s = .slice (some ad) sLen sCap) (cs : List Value) (hn : cs.length = Nat.min sLen dLen)
    (hsrc : ∀ j v, cs[j]? = some v → w.cell? (ad.add j) = some v) (hc : ∀ j, j < cs.length → (w.cell? ⟨b, off + j, none⟩).isSome = true) (hf : ∀ j, j < cs.length → w.frozen? ⟨b, off + j, none⟩ = false) (h1 : ∀ v ∈ cs, v.oneCell' = true)
    (h : K (a.put o.dst (goInt cs.length)) (w.setCells b off cs)) : if Region.wanted o (yielded ops a.tmps) = true then Oper.wp P o a w K Q else E := by
  have hw : Region.wanted o (yielded ops a.tmps) = true := by simp [Region.wanted, hgd]
  rw [if_pos hw]
  have hrun := run_copy_cells (P := P) w dT sT o.type elem b off dLen dCap ad sLen sCap cs hu hsz hn hsrc hc hf h1
  unfold Oper.wp
  simp [execOp, ho, resolve, invoke, builtin, hd, hs, hrun, Result.andThen]
  exact h

set_option maxRecDepth 100000 in
set_option maxHeartbeats 4000000 in
theorem ofWide_calls (z : Int) (w : World) : Calls Try.prog 35 #[wideV z] w (Ret (bigV z) w) := by
  have b1 := hiW_bd z
  have b2 := loW_bd z
  have b3 : -9223372036854775808 ≤ IntKind.i64.wrap (loW z) ∧ IntKind.i64.wrap (loW z) ≤ 9223372036854775807 := by rw [IntKind.wrap_i64]; omega
  have B1 := hid b1
  have B3 := hid b3
  clear b1 b2 b3
  obtain ⟨d, hd⟩ : ∃ d, d = digs (IntKind.i64.wrap (loW z)) := ⟨_, rfl⟩
  obtain ⟨c, hc⟩ : ∃ c, c = digs (hiW z) := ⟨_, rfl⟩
  have HDD := hid hd
  have HCC := hid hc
  have HD : Hid ((d 0 = digs z 0 ∧ d 1 = digs z 1 ∧ d 2 = digs z 2 ∧ d 3 = digs z 3) ∧ (c 0 = digs z 4 ∧ c 1 = digs z 5 ∧ c 2 = digs z 6 ∧ c 3 = digs z 7)) := by rw [hd, hc]; exact ofw_digs z
  clear hd hc
  obtain ⟨W, hW⟩ : ∃ W, W = (w.alloc (.cells #[.int .i64 (hiW z), .int .u64 (loW z)] 40)).alloc (.cells #[.int .u32 0, .int .u32 0, .int .u32 0, .int .u32 0, .int .u32 0, .int .u32 0, .int .u32 0, .int .u32 0] 52) := ⟨_, rfl⟩
  have k0 : W.cell? ⟨w.heap.size, 0, none⟩ = some (.int .i64 (hiW z)) := by subst hW; go_simp
  have k1 : W.cell? ⟨w.heap.size, 1, none⟩ = some (.int .u64 (loW z)) := by subst hW; go_simp
  have hZ : Blk8 W (w.heap.size + 1) (fun _ => 0) := by subst hW; exact Blk8.fresh (by simp)
  have hB : Below w.heap.size w W := by subst hW; go_grown
  have hsz : w.heap.size + 2 ≤ W.heap.size := by subst hW; simp
  go_enter Try.func35, Try.ntmps35
  go_wp2
  rw [← hW]
  have HW := hid hW
  have HZ := hid hZ
  clear hW hZ
  go_cut [3, 4] from 5 (fun p q wx => ∃ g3 g4 : Nat, p = .pointer (some ⟨g3, 0, none⟩) ∧ q = .pointer (some ⟨g4, 0, none⟩) ∧ g3 ≠ g4 ∧ w.heap.size + 2 ≤ g3 ∧ w.heap.size + 2 ≤ g4 ∧ Blk8 wx g3 d ∧ Blk8 wx g4 c ∧ Blk8 wx (w.heap.size + 1) (fun _ => 0) ∧ Below w.heap.size w wx)
  case first =>
    have n0 : w.heap.size < W.heap.size := by omega
    have n1 : ¬ W.heap.size = w.heap.size := by omega
    have n2 : ¬ w.heap.size = W.heap.size := by omega
    have n3 : ¬ W.heap.size + 1 = w.heap.size := by omega
    have n4 : ¬ w.heap.size = W.heap.size + 1 := by omega
    have s1 : W.drew.cell? ⟨w.heap.size, 0, none⟩ = some (.int .i64 (hiW z)) ∧ W.drew.cell? ⟨w.heap.size, 1, none⟩ = some (.int .u64 (loW z)) := ⟨by go_simp, by go_simp⟩
    have S1 := hid s1
    clear s1
    go_region_held3 (fun w' => w'.cell? ⟨w.heap.size, 0, none⟩ = some (.int .i64 (hiW z)) ∧ w'.cell? ⟨w.heap.size, 1, none⟩ = some (.int .u64 (loW z)))
      (first | with_reducible exact S1.out | ((try dsimp only); constructor <;> go_simp))
      (first | (go_at_call 36; go_split_ands; first | ((with_reducible refine (of_calls' (IntKind.i64.wrap (loW z)) B3.out.1 B3.out.2 d HDD.out _).mono ?_); rintro e w1 ⟨rfl, hb1⟩; have q0 := keepCell (b := w.heap.size) (o := 0) (v := .int .i64 (hiW z)) hb1 (by go_simp); have q1 := keepCell (b := w.heap.size) (o := 1) (v := .int .u64 (loW z)) hb1 (by go_simp); have s1 := hb1.size; (try simp at s1); have n9 : w.heap.size < w1.heap.size := (by omega); have n5 : ¬ w1.heap.size = w.heap.size := (by omega); have n6 : ¬ w.heap.size = w1.heap.size := (by omega); have n7 : ¬ w1.heap.size + 1 = w.heap.size := (by omega); have n8 : ¬ w.heap.size = w1.heap.size + 1 := (by omega); (try have t1 := Nat.lt_of_succ_le s1); (try have t1' := Nat.lt_of_succ_lt t1); obtain ⟨hc1, hf1⟩ := bcell hb1; (try simp at hc1 hf1)) | ((with_reducible refine (of_calls' (hiW z) B1.out.1 B1.out.2 c HCC.out _).mono ?_); rintro e w2 ⟨rfl, hb2⟩; have r0 := keepCell (b := w.heap.size) (o := 0) (v := .int .i64 (hiW z)) hb2 (by go_simp); have r1 := keepCell (b := w.heap.size) (o := 1) (v := .int .u64 (loW z)) hb2 (by go_simp); have s2 := hb2.size; have m9 : w.heap.size < w2.heap.size := (lt_of_cell r0); have m5 : ¬ w2.heap.size = w.heap.size := (by omega); have m6 : ¬ w.heap.size = w2.heap.size := (by omega); have m7 : ¬ w2.heap.size + 1 = w.heap.size := (by omega); have m8 : ¬ w.heap.size = w2.heap.size + 1 := (by omega); (try simp at s2); (try have t2 := Nat.lt_of_succ_le s2); (try have t2' := Nat.lt_of_succ_lt t2); (try have t2'' := Nat.lt_of_lt_of_le t1 (Nat.le_of_succ_le s2)); (try have t3 := Nat.lt_of_lt_of_le t1 s2); (try have t4 := Nat.lt_of_lt_of_le t1' s2); obtain ⟨hc2, hf2⟩ := bcell hb2; (try simp at hc2 hf2))))
    all_goals
      go_split_ands
      clear hc1 hf1 hc2 hf2
      clear n1 n2 n3 n4 n5 n6 n7 n8 m5 m6 m7 m8 q0 q1 r0 r1 k0 k1 HDD HCC HD B1 B3 HW S1
      try clear t1
      try clear t1'
      go_wp2_with fail
      go_meet
      refine ⟨_, _, rfl, rfl, ?_, ?_, ?_, ?_, ?_, ?_, ?_⟩
      · first | omega | (simp; omega)
      · first | omega | (simp; omega)
      · first | omega | (simp; omega)
      · (repeat (first | (with_reducible assumption) | ((with_reducible refine Blk8.lit ?_); (simp; done)) | ((with_reducible refine Blk8.fresh ?_); (simp; done)) | (with_reducible refine Blk8.drew ?_) | (with_reducible refine Blk8.later ?_ _) | (with_reducible refine Blk8.sets8 (p := fun _ => 0) ?_) | ((with_reducible refine Blk8.far8 ?_ ?_); rotate_left; (first | omega | (simp <;> omega))) | ((with_reducible refine Blk8.below ?_ hb2 ?_); rotate_left; (first | omega | (simp <;> omega))) | ((with_reducible refine Blk8.below ?_ hb1 ?_); rotate_left; (first | omega | (simp <;> omega)))))
      · (repeat (first | (with_reducible assumption) | ((with_reducible refine Blk8.lit ?_); (simp; done)) | ((with_reducible refine Blk8.fresh ?_); (simp; done)) | (with_reducible refine Blk8.drew ?_) | (with_reducible refine Blk8.later ?_ _) | (with_reducible refine Blk8.sets8 (p := fun _ => 0) ?_) | ((with_reducible refine Blk8.far8 ?_ ?_); rotate_left; (first | omega | (simp <;> omega))) | ((with_reducible refine Blk8.below ?_ hb2 ?_); rotate_left; (first | omega | (simp <;> omega))) | ((with_reducible refine Blk8.below ?_ hb1 ?_); rotate_left; (first | omega | (simp <;> omega)))))
      · have HZ1 := HZ.out
        (repeat (first | (with_reducible assumption) | ((with_reducible refine Blk8.lit ?_); (simp; done)) | ((with_reducible refine Blk8.fresh ?_); (simp; done)) | (with_reducible refine Blk8.drew ?_) | (with_reducible refine Blk8.later ?_ _) | (with_reducible refine Blk8.sets8 (p := fun _ => 0) ?_) | ((with_reducible refine Blk8.far8 ?_ ?_); rotate_left; (first | omega | (simp <;> omega))) | ((with_reducible refine Blk8.below ?_ hb2 ?_); rotate_left; (first | omega | (simp <;> omega))) | ((with_reducible refine Blk8.below ?_ hb1 ?_); rotate_left; (first | omega | (simp <;> omega)))))
      · have f1 := (show Below w.heap.size w _ by go_grown).trans (hb1.mono (show w.heap.size ≤ _ by (try simp); omega))
        have f2 := (show Below w.heap.size w _ by go_grown).trans (hb2.mono (show w.heap.size ≤ _ by (try simp); omega))
        go_grown
  case rest =>
    obtain ⟨g3, g4, rfl, rfl, hne, hg3, hg4, h3, h4, hz, hB2⟩ := hcut
    have H3 := hid h3
    have H4 := hid h4
    have HZ2 := hid hz
    clear h3 h4 hz
    have hrun : (Builtin.copy_ #[99, 99] 3 #[.slice (some ⟨g3, 4, none⟩) 4 4, .slice (some ⟨g4, 0, none⟩) 4 8]).run Try.prog wc.drew = .ok (.int .i64 4) ((((wc.drew.setCell ⟨g3, 4, none⟩ (.int .u32 (c 0))).setCell ⟨g3, 5, none⟩ (.int .u32 (c 1))).setCell ⟨g3, 6, none⟩ (.int .u32 (c 2))).setCell ⟨g3, 7, none⟩ (.int .u32 (c 3))) := by
      refine run_copy_cells (P := Try.prog) wc.drew _ _ _ 50 g3 4 4 4 ⟨g4, 0, none⟩ 4 8 [.int .u32 (c 0), .int .u32 (c 1), .int .u32 (c 2), .int .u32 (c 3)] Try.underlying99 (by kernel_rfl) (by simp) ?_ ?_ ?_ ?_
      · intro j v hj
        have hadd : (⟨g4, 0, none⟩ : Addr).add j = ⟨g4, j, none⟩ := by unfold Addr.add; split <;> simp_all
        have h4 := H4.out.drew
        rw [hadd]
        match j, hj with
        | 0, hj | 1, hj | 2, hj | 3, hj => simp at hj; subst hj; exact h4.cell _ (by omega)
      · intro j hj
        simp at hj
        rw [H3.out.drew.cell (4 + j) (by omega)]
        rfl
      · intro j hj
        exact H3.out.drew.free _
      · intro v hv
        simp at hv
        rcases hv with rfl | rfl | rfl | rfl <;> rfl
    have hS : Blk8 ((((wc.setCell ⟨g3, 4, none⟩ (.int .u32 (c 0))).setCell ⟨g3, 5, none⟩ (.int .u32 (c 1))).setCell ⟨g3, 6, none⟩ (.int .u32 (c 2))).setCell ⟨g3, 7, none⟩ (.int .u32 (c 3))) g3 (digs z) := by
      obtain ⟨⟨d0, d1, d2, d3⟩, c0, c1, c2, c3⟩ := HD.out
      have q := part_ne (fun j => c (j - 4)) d
      have h0 := H3.out.congr (o' := part (fun j => if j < 4 then d j else c (j - 4)) d 4) (fun j hj => by unfold part; split <;> simp [*])
      have h1 := h0.set (k := 4) (o' := part (fun j => if j < 4 then d j else c (j - 4)) d 5) (v := c 0) (by omega) rfl (fun j hj => part_ne _ _ _ _ hj)
      have h2 := h1.set (k := 5) (o' := part (fun j => if j < 4 then d j else c (j - 4)) d 6) (v := c 1) (by omega) rfl (fun j hj => part_ne _ _ _ _ hj)
      have h3 := h2.set (k := 6) (o' := part (fun j => if j < 4 then d j else c (j - 4)) d 7) (v := c 2) (by omega) rfl (fun j hj => part_ne _ _ _ _ hj)
      have h4 := h3.set (k := 7) (o' := part (fun j => if j < 4 then d j else c (j - 4)) d 8) (v := c 3) (by omega) rfl (fun j hj => part_ne _ _ _ _ hj)
      refine h4.congr fun j hj => ?_
      rw [part_full _ _ _ _ hj]
      match j, hj with
      | 0, _ => exact d0
      | 1, _ => exact d1
      | 2, _ => exact d2
      | 3, _ => exact d3
      | 4, _ => exact c0
      | 5, _ => exact c1
      | 6, _ => exact c2
      | 7, _ => exact c3
    have HS := hid hS
    clear hS
    go_wp2_with fail
    go_region
    have hB3 : Below w.heap.size w ((((wc.setCell ⟨g3, 4, none⟩ (.int .u32 (c 0))).setCell ⟨g3, 5, none⟩ (.int .u32 (c 1))).setCell ⟨g3, 6, none⟩ (.int .u32 (c 2))).setCell ⟨g3, 7, none⟩ (.int .u32 (c 3))) := by go_grown
    have HZ3 : Blk8 ((((wc.setCell ⟨g3, 4, none⟩ (.int .u32 (c 0))).setCell ⟨g3, 5, none⟩ (.int .u32 (c 1))).setCell ⟨g3, 6, none⟩ (.int .u32 (c 2))).setCell ⟨g3, 7, none⟩ (.int .u32 (c 3))) (w.heap.size + 1) (fun _ => 0) := (((HZ2.out.far (by show g3 ≠ _; omega) _).far (by show g3 ≠ _; omega) _).far (by show g3 ≠ _; omega) _).far (by show g3 ≠ _; omega) _
    have hS2 := HS.out
    clear hrun HS
    generalize (((wc.setCell ⟨g3, 4, none⟩ (.int .u32 (c 0))).setCell ⟨g3, 5, none⟩ (.int .u32 (c 1))).setCell ⟨g3, 6, none⟩ (.int .u32 (c 2))).setCell ⟨g3, 7, none⟩ (.int .u32 (c 3)) = X at *
    obtain ⟨a0, a1, a2, a3, a4, a5, a6, a7⟩ := hS2.all
    obtain ⟨z0, z1, z2, z3, z4, z5, z6, z7, y0, y1, y2, y3, y4, y5, y6, y7, f0, f1, f2, f3, f4, f5, f6, f7⟩ := (There.of8 HZ3).get8
    have hlt := lt_of_cell y0
    have hB4 := hB3.drew
    clear hS2 HZ3
    go_wp2
    refine bodyPost_ret (v := bigV z) (by simp [results, Try.results35, go_sem, y0, y1, y2, y3, y4, y5, y6, y7, hlt]) rfl ⟨rfl, ?_⟩
    go_grown

end Go.Proofs.Ytjoodpjndpdjnaa
