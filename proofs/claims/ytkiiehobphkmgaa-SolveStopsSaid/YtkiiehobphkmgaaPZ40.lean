/- Parts of a proof: contracts and laws. -/
import Derived.Test.YtkiiehobphkmgaaPZ37
import Derived.Test.YtkiiehobphkmgaaPZ39
namespace Go.Proofs.Ytkiiehobphkmgaa
section
set_option linter.unusedVariables false
set_option linter.unusedSimpArgs false
open Go.RowKit
def srunE (L : List BE) (C : List Ct) (st r : Int) : Int := if contactsE L C ≠ 0 then contactsE L C else if st < 1 ∨ 65536 < st ∨ r < 0 ∨ 32 < r then 1 else 0
def srunS (L : List BE) (C : List Ct) (st r : Int) : List QB × List Ct := if srunE L C st r = 0 then solveQ (L.map valB) C st r.toNat else ([], [])
def RetSolve (E : Int) (S : List QB × List Ct) (w : World) (e : Ending) (w' : World) : Prop := ∃ (A B : Option Addr) (n c m d : Nat) (L' : List BE), e = .returned (.tuple #[.slice A n c, .slice B m d, .int .i64 E]) ∧ SlB w' A n c L' ∧ SlE layC w' B m d S.2 ∧ L'.map valB = S.1 ∧ Below w.heap.size w w'

structure S1 (w0 : World) (gs : Nat) (sc sb : Value) (C : List Ct) (L' : List BE) (w : World) : Prop where
  c0 : w.cell? ⟨gs, 0, none⟩ = some sb
  c1 : w.cell? ⟨gs, 1, none⟩ = some sc
  c2 : w.cell? ⟨gs, 2, none⟩ = some (.slice none 0 0)
  cf : ∀ j, w.frozen? ⟨gs, j, none⟩ = false
  oc : OwnE layC 37 w w0.heap.size sc C
  own : OwnE layB 27 w (gs + 1) sb L'
  co : ∀ x ∈ L', Sl w x.A x.n x.c x.l ∧ x.l ≠ [] ∧ ∀ bx off, x.A = some ⟨bx, off, none⟩ → gs < bx ∧ some bx ≠ sb.ownBlock
  bel : Below w0.heap.size w0 w
  lt : w0.heap.size ≤ gs ∧ gs < w.heap.size ∧ ∀ k, sc.ownBlock = some k → k < gs
section
variable {w0 w w' : World} {gs : Nat} {sc sb : Value} {C : List Ct} {L' : List BE}
theorem keepS1 (hb : Below w.heap.size w w') (h : S1 w0 gs sc sb C L' w) : S1 w0 gs sc sb C L' w' :=
  ⟨keepCell hb h.c0, keepCell hb h.c1, keepCell hb h.c2, fun j => ((bcell hb).2 _ _ h.lt.2.1).trans (h.cf j), h.oc.below hb, h.own.below hb, fun x hx => ⟨(h.co x hx).1.below hb, (h.co x hx).2⟩, keepBelow hb h.bel, h.lt.1, Nat.lt_of_lt_of_le h.lt.2.1 hb.size, h.lt.2.2⟩
theorem S1.drew (h : S1 w0 gs sc sb C L' w) : S1 w0 gs sc sb C L' w.drew := keepS1 (Below.refl _ _).drew h
theorem S1.set {wb : World} {k o : Nat} {v : Value} (hb : S1 w0 gs sc sb C L' wb) (h : S1 w0 gs sc sb C L' w) (hk : wb.heap.size ≤ k) : S1 w0 gs sc sb C L' (w.setCell ⟨k, o, none⟩ v) := by
  obtain ⟨l1, l2, l3⟩ := hb.lt
  refine ⟨far1 (by omega) h.c0, far1 (by omega) h.c1, far1 (by omega) h.c2, fun j => by rw [World.frozen?_setCell]; exact h.cf j, h.oc.off (fun j hj => by have := l3 j hj; omega) o v, h.own.off (fun j hj => by have := (hb.own.lt hj).2; omega) o v, fun x hx => ?_, h.bel.setCell (p := ⟨k, o, none⟩) (by show w0.heap.size ≤ k; omega) _, l1, by simp; exact h.lt.2.1, l3⟩
  obtain ⟨h1, h2, h3⟩ := h.co x hx
  exact ⟨h1.setAt (fun bx off e => by have := sl_lt (hb.co x hx).1 h2 bx off e; omega), h2, h3⟩
theorem S1.push {wb wa w7 : World} {sb' : Value} {y : BE} (hb : S1 w0 gs sc sb C L' wb) (h : S1 w0 gs sc sb C L' w) (hS : Sl w y.A y.n y.c y.l) (hl : y.l ≠ []) (hf : ∀ bx off, y.A = some ⟨bx, off, none⟩ → wb.heap.size ≤ bx) (hba : Below w.heap.size w wa)
    (ho : OwnE layB 27 w7 (gs + 1) sb' (L' ++ [y])) (hg : wa.grownBy w7 sb.ownBlock) (hat : sb'.ownBlock = sb.ownBlock ∨ sb'.ownBlock = some wa.heap.size) :
    S1 w0 gs sc sb' C (L' ++ [y]) (w7.setCell ⟨gs, 0, none⟩ sb') ∧ w7.cell? ⟨gs, 0, none⟩ = some sb ∧ ∀ k, w7.frozen? ⟨gs, k, none⟩ = false := by
  obtain ⟨l1, l2, l3⟩ := hb.lt
  have hsa := hba.size
  have hsz := hg.size
  have hg7 : w.grownBy w7 sb.ownBlock := grown_trans (grown_of_below hba) hg
  have hneg : some gs ≠ sb.ownBlock := fun e => by have := (hb.own.lt e.symm).1; omega
  have e0 := hg7.block gs h.lt.2.1 hneg
  have nblk : ∀ {z : BE}, Sl w z.A z.n z.c z.l → z.l ≠ [] → (∀ bx off, z.A = some ⟨bx, off, none⟩ → some bx ≠ sb.ownBlock) → ∀ bx off, z.A = some ⟨bx, off, none⟩ → some bx ≠ sb'.ownBlock := fun {z} hs hne hno bx off e e2 => by
    have := sl_lt hs hne bx off e
    rcases hat with q | q
    · exact hno bx off e (e2.trans q)
    · rw [q] at e2; cases e2; omega
  have hnw : ∀ bx off, y.A = some ⟨bx, off, none⟩ → some bx ≠ sb.ownBlock := fun bx off e e2 => by have := hf bx off e; have := (hb.own.lt e2.symm).2; omega
  have c00 : w7.cell? ⟨gs, 0, none⟩ = some sb := (World.cell?_of_block e0).trans h.c0
  have c10 : w7.cell? ⟨gs, 1, none⟩ = some sc := (World.cell?_of_block e0).trans h.c1
  have c20 : w7.cell? ⟨gs, 2, none⟩ = some (.slice none 0 0) := (World.cell?_of_block e0).trans h.c2
  have cf0 : ∀ k, w7.frozen? ⟨gs, k, none⟩ = false := fun k => (World.frozen?_of_block e0).trans (h.cf k)
  have hoc : OwnE layC 37 w7 w0.heap.size sc C := h.oc.kept hg7 (by
    cases hv : sc.ownBlock with
    | none => exact .inl rfl
    | some k => exact .inr (fun e => by have := l3 k hv; have := (hb.own.lt e.symm).1; omega))
  refine ⟨⟨by go_simp, by go_simp, by go_simp, fun j => by rw [World.frozen?_setCell]; exact cf0 j, hoc.off (fun j hj => by have := l3 j hj; omega) 0 _, ho.off (fun j hj => by have := (ho.lt hj).1; omega) 0 _, fun x hx => ?_, ?_, l1, by simp; have := h.lt.2.1; omega, l3⟩, c00, cf0⟩
  · rcases List.mem_append.1 hx with hx | hx
    · obtain ⟨h1, h2, h3⟩ := h.co x hx
      exact ⟨(sl_grownR h1 hg7 (fun bx off e => (h3 bx off e).2)).setAt (fun bx off e => by have := (h3 bx off e).1; omega), h2, fun bx off e => ⟨(h3 bx off e).1, nblk h1 h2 (fun bx off e => (h3 bx off e).2) bx off e⟩⟩
    · rw [List.mem_singleton.1 hx]
      exact ⟨(sl_grownR hS hg7 hnw).setAt (fun bx off e => by have := hf bx off e; omega), hl, fun bx off e => ⟨by have := hf bx off e; omega, nblk hS hl hnw bx off e⟩⟩
  · have hB : Below w0.heap.size w0 w7 := h.bel.grown hg7 h.bel.size (fun k hk => by have := (hb.own.lt hk).1; omega)
    exact hB.setCell (p := ⟨gs, 0, none⟩) (by show w0.heap.size ≤ gs; omega) _
end
theorem info_row : (Try.prog.info? 54).map (fun i => (i.zero, i.size, i.bytes)) = some (some (.agg #[.int .i64 0, .int .i64 0, .int .i64 0, .int .i64 0, .int .i64 0, .int .i64 0]), 6, 48) := by kernel_rfl
theorem tyRow : TyE layR 49 54 48 := ⟨Try.underlying49, by obtain ⟨i0, hi, hz0, hz1, hz2⟩ := info_parts info_row; exact ⟨i0, _, hi, hz0, hz1, hz2, rfl⟩⟩
theorem cells_rw_one {w : World} {g : Nat} {x : Rw} (h0 : w.cell? ⟨g, 0, none⟩ = some (.int .i64 x.t1)) (h1 : w.cell? ⟨g, 1, none⟩ = some (.int .i64 x.t2)) (h2 : w.cell? ⟨g, 2, none⟩ = some (.int .i64 x.ease)) (h3 : w.cell? ⟨g, 3, none⟩ = some (.int .i64 x.slip)) (h4 : w.cell? ⟨g, 4, none⟩ = some (.int .i64 x.lift)) (h5 : w.cell? ⟨g, 5, none⟩ = some (.int .i64 x.bound)) : CellsE layR w g 0 [x] := by
  refine ⟨lt_of_cell h0, fun j hj i v hv => ?_⟩
  have hj0 : j = 0 := by simpa using hj
  subst hj0
  rw [Nat.zero_mul, Nat.zero_add]
  try rw [Nat.zero_add]
  have hv : (encR x)[i]? = some v := hv
  unfold encR at hv
  match i, hv with
  | 0, hv => have e : some _ = some v := hv; cases e; exact h0
  | 1, hv => have e : some _ = some v := hv; cases e; exact h1
  | 2, hv => have e : some _ = some v := hv; cases e; exact h2
  | 3, hv => have e : some _ = some v := hv; cases e; exact h3
  | 4, hv => have e : some _ = some v := hv; cases e; exact h4
  | 5, hv => have e : some _ = some v := hv; cases e; exact h5
  | i + 6, hv => simp at hv

structure Sw2 (w0 : World) (Bz gs g gc cap cc : Nat) (L : List BE) (C : List Ct) (sr : Value) (R : List Rw) (w : World) : Prop where
  c0 : w.cell? ⟨gs, 0, none⟩ = some (.slice (some ⟨g, 0, none⟩) L.length cap)
  c1 : w.cell? ⟨gs, 1, none⟩ = some (.slice (some ⟨gc, 0, none⟩) C.length cc)
  c2 : w.cell? ⟨gs, 2, none⟩ = some sr
  cf : ∀ j, w.frozen? ⟨gs, j, none⟩ = false
  bl : BL w g L
  cl : CellsE layC w gc 0 C
  clf : ∀ j, w.frozen? ⟨gc, j, none⟩ = false
  own : OwnE layR 54 w Bz sr R
  nc : ∀ y ∈ L, ∀ bx off, y.A = some ⟨bx, off, none⟩ → gs < bx
  lo : ∀ y ∈ L, ∀ bx off, y.A = some ⟨bx, off, none⟩ → bx < Bz
  bel : Below w0.heap.size w0 w
  lt : w0.heap.size ≤ gc ∧ gc < gs ∧ gs < g ∧ g < Bz ∧ Bz ≤ w.heap.size
section
variable {w0 w w' : World} {Bz gs g gc cap cc : Nat} {L : List BE} {C : List Ct} {sr : Value} {R : List Rw}
theorem keepSw2 (hb : Below w.heap.size w w') (h : Sw2 w0 Bz gs g gc cap cc L C sr R w) : Sw2 w0 Bz gs g gc cap cc L C sr R w' := by
  obtain ⟨l1, l2, l3, l4, l5⟩ := h.lt
  exact ⟨keepCell hb h.c0, keepCell hb h.c1, keepCell hb h.c2, fun j => ((bcell hb).2 _ _ (lt_of_cell h.c0)).trans (h.cf j), keepBL hb h.bl, h.cl.below hb, fun j => ((bcell hb).2 _ _ h.cl.lt).trans (h.clf j), h.own.below hb, h.nc, h.lo, keepBelow hb h.bel, l1, l2, l3, l4, Nat.le_trans l5 hb.size⟩
theorem Sw2.drew (h : Sw2 w0 Bz gs g gc cap cc L C sr R w) : Sw2 w0 Bz gs g gc cap cc L C sr R w.drew := keepSw2 (Below.refl _ _).drew h
theorem Sw2.push {wa w7 : World} {sr' : Value} {y : Rw} (h : Sw2 w0 Bz gs g gc cap cc L C sr R w) (hba : Below w.heap.size w wa) (ho : OwnE layR 54 w7 Bz sr' (R ++ [y])) (hg : wa.grownBy w7 sr.ownBlock) :
    Sw2 w0 Bz gs g gc cap cc L C sr' (R ++ [y]) (w7.setCell ⟨gs, 2, none⟩ sr') ∧ w7.cell? ⟨gs, 2, none⟩ = some sr ∧ ∀ k, w7.frozen? ⟨gs, k, none⟩ = false := by
  obtain ⟨l1, l2, l3, l4, l5⟩ := h.lt
  have hg7 : w.grownBy w7 sr.ownBlock := grown_trans (grown_of_below hba) hg
  have hno : ∀ k, k < Bz → some k ≠ sr.ownBlock := fun k hk e => by have := (h.own.lt e.symm).1; omega
  have e0 := hg7.block gs (by omega) (hno gs (by omega))
  have eg := hg7.block g (by omega) (hno g l4)
  have ec := hg7.block gc (by omega) (hno gc (by omega))
  have c00 := (World.cell?_of_block e0).trans h.c0
  have c10 := (World.cell?_of_block e0).trans h.c1
  have c20 := (World.cell?_of_block e0).trans h.c2
  have cf0 : ∀ k, w7.frozen? ⟨gs, k, none⟩ = false := fun k => (World.frozen?_of_block e0).trans (h.cf k)
  have hbl : BL w7 g L := ⟨⟨Nat.lt_of_lt_of_le h.bl.cl.lt hg7.size, fun j hj i u hu => (World.cell?_of_block eg).trans (h.bl.cl.at_ j hj i u hu)⟩, fun j => (World.frozen?_of_block eg).trans (h.bl.free j), fun x hx => sl_grownR (h.bl.co x hx) hg7 (fun bx off e => hno bx (h.lo x hx bx off e)), h.bl.ne⟩
  have hcl : CellsE layC w7 gc 0 C := ⟨Nat.lt_of_lt_of_le h.cl.lt hg7.size, fun j hj i u hu => (World.cell?_of_block ec).trans (h.cl.at_ j hj i u hu)⟩
  refine ⟨⟨by go_simp, by go_simp, by go_simp, fun j => by rw [World.frozen?_setCell]; exact cf0 j, hbl.off (by omega) (fun x hx bx off e => by have := h.nc x hx bx off e; omega), ⟨by simp; exact hcl.lt, fun j hj i u hu => far1 (by omega) (hcl.at_ j hj i u hu)⟩, fun j => by rw [World.frozen?_setCell]; exact (World.frozen?_of_block ec).trans (h.clf j), ho.off (fun j hj => by have := (ho.lt hj).1; omega) 2 _, h.nc, h.lo, ?_, l1, l2, l3, l4, by simp; have := hg7.size; omega⟩, c20, cf0⟩
  have hB : Below w0.heap.size w0 w7 := h.bel.grown hg7 h.bel.size (fun k hk => by have := (h.own.lt hk).1; omega)
  exact hB.setCell (p := ⟨gs, 2, none⟩) (by show w0.heap.size ≤ gs; omega) _

theorem Sw2.done {gq cq : Nat} (h : Sw2 w0 Bz gs g gc cap cc L C (.slice (some ⟨gq, 0, none⟩) R.length cq) R w) (hR : R ≠ []) : Sr w gs g gc gq cap cc cq L C R w := by
  obtain ⟨l1, l2, l3, l4, l5⟩ := h.lt
  rcases h.own.form with ⟨h1, h2⟩ | ⟨g', cap', hv, h3, h4, -, -, -, h6⟩
  · exact absurd h2 hR
  · cases hv
    exact ⟨h.c0, h.c1, h.c2, h.bl, h.cl, h.clf, h6, fun y hy bx off e => by have := h.nc y hy bx off e; omega, .refl _ _ _, ⟨by omega, by omega, h4, by omega⟩, by omega, by omega, by omega, by omega, by omega⟩
end
section
variable {w0 wm w w' : World} {gs g gc gq cap cc cq : Nat} {L L2 : List BE} {C C2 : List Ct} {R : List Rw}
theorem Gr2.trans {a b d : World} {g c : Nat} (h : Gr2 a b g c) (k : Gr2 b d g c) : Gr2 a d g c :=
  ⟨k.os.trans h.os, k.tape.trans h.tape, k.output.trans h.output, Nat.le_trans h.size k.size, fun j hj h1 h2 => (k.block j (Nat.lt_of_lt_of_le hj h.size) h1 h2).trans (h.block j hj h1 h2)⟩
theorem Sr.self (h : Sr w0 gs g gc gq cap cc cq L C R w) : Sr w gs g gc gq cap cc cq L C R w := by
  obtain ⟨l1, l2, l3, l4⟩ := h.lt
  have := h.gr.size
  exact ⟨h.s0, h.s1, h.s2, h.bl, h.cl, h.cf, h.rl, h.nc, .refl _ _ _, ⟨by omega, by omega, by omega, by omega⟩, h.ne⟩
theorem Sr.rebase (h : Sr w0 gs g gc gq cap cc cq L C R wm) (k : Sr wm gs g gc gq cap cc cq L2 C2 R w) : Sr w0 gs g gc gq cap cc cq L2 C2 R w :=
  ⟨k.s0, k.s1, k.s2, k.bl, k.cl, k.cf, k.rl, k.nc, h.gr.trans k.gr, h.lt, h.ne⟩
end
theorem rub_nn {b : Bd} (h : numE b = 0) : 0 ≤ b.rub := by
  unfold numE at h
  by_cases k1 : (withinB 58982400 b.px b.py && withinB 268435456 b.vx b.vy && inB b.spin (-16777216) 16777216 && inB b.ang 0 65535) = true
  · rw [if_pos k1] at h
    by_cases k2 : (inB b.mass 0 1099511627776 && inB b.iner 0 1099511627776 && inB b.bounce 0 65536 && inB b.rub 0 65536 && inB b.calm 0 1000) = true
    · simp only [Bool.and_eq_true] at k2
      exact (inB_iff.1 k2.1.2).1
    · rw [if_neg k2] at h; cases h
  · rw [if_neg k1] at h; cases h
theorem row_bound {L : List BE} (hv : ∀ y ∈ L, bodyE y.b y.l = 0) {x : Ct} (hok : CtOk L.length x) (st : Int) : 0 ≤ (rowQ (L.map valB) st x).bound := by
  have hq : ∀ i : Int, 0 ≤ i → i < (L.length : Int) → 0 ≤ (qB (L.map valB) i).rub := fun i h0 h1 => by
    obtain ⟨k, rfl⟩ : ∃ k : Nat, i = k := ⟨i.toNat, by omega⟩
    have hk : k < L.length := by omega
    rw [qB_at (y := valB L[k]) rfl (by rw [List.getElem?_map, List.getElem?_eq_getElem hk]; rfl)]
    exact rub_nn (bodyE_zero (hv L[k] (List.getElem_mem hk))).2
  have h1 := hq x.a (by have := hok.1; omega) (by have := hok.1; omega)
  have h2 := hq x.b (by have := hok.1; omega) (by have := hok.1; omega)
  show 0 ≤ min _ _
  omega
theorem solveQ_nil (Q : List QB) (st : Int) (r : Nat) : solveQ Q [] st r = (Q, []) := by
  unfold solveQ
  rw [List.length_nil, Nat.mul_zero]
  rfl
set_option maxRecDepth 100000 in
set_option maxHeartbeats 16000000 in
theorem srun_calls (A B : Option Addr) (n c n' c' : Nat) (L : List BE) (C : List Ct) (st r : Int) (w : World) (hS : SlB w A n c L) (hC : SlE layC w B n' c' C) :
    Calls Try.prog 7 #[.slice A n c, .slice B n' c', .int .i64 st, .int .i64 r] w (RetSolve (srunE L C st r) (srunS L C st r) w) := by
  have hn := hS.sl.len
  have hcap := hS.sl.cap
  have hbig := hS.sl.big
  have hn' := hC.len
  have hcap' := hC.cap
  have hbig' := hC.big
  subst hn hn'
  have HS := hid hS
  have HC := hid hC
  have HCK := hid (scheck_calls A B L.length c C.length c' L C w hS hC)
  clear hS hC
  go_enter Try.func7, Try.ntmps7
  go_wp2_with fail
  refine HCK.out.mono ?_
  rintro e w1 ⟨rfl, hB1⟩
  clear HCK
  have HNIL : Hid (∀ (z : Int) (wx : World), z ≠ 0 → srunE L C st r = z → Below w.heap.size w wx → RetSolve (srunE L C st r) (srunS L C st r) w (.returned (.tuple #[.slice none 0 0, .slice none 0 0, .int .i64 z])) wx) := fun z wx hz he hb =>
    ⟨none, none, 0, 0, 0, 0, [], by rw [he], ⟨SlE.nil _ _, fun x hx => by cases hx⟩, by unfold srunS; rw [if_neg (by rw [he]; exact hz)]; exact SlE.nil _ _, by unfold srunS; rw [if_neg (by rw [he]; exact hz)]; rfl, hb⟩
  by_cases hE : contactsE L C = 0
  case neg =>
    have HR := hid (HNIL.out (contactsE L C) w1 hE (by unfold srunE; rw [if_pos hE]) hB1)
    have hne : (contactsE L C != 0) = true := by simp [hE]
    generalize contactsE L C = z at *
    go_wp2
    exact bodyPost_ret (v := .tuple #[.slice none 0 0, .slice none 0 0, .int .i64 z]) (by simp [results, Try.results7, go_sem]) rfl HR.out
  obtain ⟨hbe, hc96, hcs⟩ := contactsE_zero hE
  obtain ⟨h64, hval⟩ := bodiesE_zero hbe
  have HV := hid hval
  have HCS := hid hcs
  by_cases hbad : st < 1 ∨ 65536 < st ∨ r < 0 ∨ 32 < r
  · have HR := hid (HNIL.out 1 w1 (by decide) (by unfold srunE; rw [if_neg (by simp [hE]), if_pos hbad]) hB1)
    rw [hE]
    clear hE hbe hval hcs HNIL
    by_cases c1 : st < 1
    · go_wp2
      exact bodyPost_ret (v := .tuple #[.slice none 0 0, .slice none 0 0, .int .i64 1]) (by simp [results, Try.results7, go_sem]) rfl HR.out
    by_cases c2 : 65536 < st
    · go_wp2
      exact bodyPost_ret (v := .tuple #[.slice none 0 0, .slice none 0 0, .int .i64 1]) (by simp [results, Try.results7, go_sem]) rfl HR.out
    by_cases c3 : r < 0
    · go_wp2
      exact bodyPost_ret (v := .tuple #[.slice none 0 0, .slice none 0 0, .int .i64 1]) (by simp [results, Try.results7, go_sem]) rfl HR.out
    have c4 : 32 < r := by omega
    go_wp2
    exact bodyPost_ret (v := .tuple #[.slice none 0 0, .slice none 0 0, .int .i64 1]) (by simp [results, Try.results7, go_sem]) rfl HR.out
  have c1 : ¬ st < 1 := fun h => hbad (.inl h)
  have c2 : ¬ 65536 < st := fun h => hbad (.inr (.inl h))
  have c3 : ¬ r < 0 := fun h => hbad (.inr (.inr (.inl h)))
  have c4 : ¬ 32 < r := fun h => hbad (.inr (.inr (.inr h)))
  have HRE : Hid (srunE L C st r = 0) := by show _ = _; unfold srunE; rw [if_neg (by simp [hE]), if_neg hbad]
  have HRQ : Hid (srunS L C st r = solveQ (L.map valB) C st r.toNat) := by show _ = _; unfold srunS; rw [if_pos HRE.out]
  rw [hE]
  clear hE hbe hval hcs HNIL hbad
  go_wp2_with fail
  refine (cloneCt_calls B C.length c' C _ (HC.out.below hB1) (by omega)).mono ?_
  rintro e w2 ⟨sc, rfl, hoc, hb2⟩
  obtain ⟨Ac, nc, cc, rfl, hsl9, -⟩ := hoc.sl
  have hnc := hsl9.len
  subst hnc
  have hccap := hsl9.cap
  have hcbig := hsl9.big
  clear hsl9
  have HC1 := hid c1
  have HC2 := hid c2
  clear c1 c2
  obtain ⟨rn, rfl⟩ : ∃ rn : Nat, r = rn := ⟨r.toNat, by omega⟩
  rw [Int.toNat_natCast] at HRQ
  have hrn : rn ≤ 32 := by omega
  clear c3 c4
  have hB2 := keepBelow hb2 hB1
  obtain ⟨gs, hgs⟩ : ∃ gs, gs = w2.heap.size := ⟨_, rfl⟩
  obtain ⟨w3, hw3⟩ : ∃ w3, w3 = w2.alloc (.cells #[.slice none 0 0, .slice Ac C.length cc, .slice none 0 0] 51) := ⟨_, rfl⟩
  have hb3 : Below w2.heap.size w2 w3 := by rw [hw3]; go_grown
  have hscl : ∀ k, (Value.slice Ac C.length cc).ownBlock = some k → k < gs := fun k hk => by rw [hgs]; exact (hoc.lt hk).2
  have HS3 : Hid (S1 w gs (.slice Ac C.length cc) (.slice none 0 0) C [] w3) := by
    show S1 _ _ _ _ _ _ _
    refine ⟨?_, ?_, ?_, ?_, (hoc.mono hB1.size).below hb3, OwnE.nil _ _ _ _, fun x hx => (by cases hx), keepBelow hb3 hB2, by rw [hgs]; exact hB2.size, by rw [hgs, hw3]; simp, hscl⟩ <;> rw [hw3, hgs]
    · go_simp
    · go_simp
    · go_simp
    · exact fun j => by go_simp
  clear hoc hb2 hb3 hB2 hB1 hscl
  go_upto_region 7 with fail
  rw [← hw3, ← hgs]
  clear hw3 hgs
  go_wp2
  go_loopw [46] (fun i wr => ∃ (k : Nat) (sb : Value) (L' : List BE), k ≤ L.length ∧ i = .int .i64 k ∧ S1 w gs (.slice Ac C.length cc) sb C L' wr ∧ L'.map valB = (L.map valB).take k) (fun i _ => L.length - (intOf i).toNat)
  case atStart => exact ⟨0, _, [], Nat.zero_le _, rfl, HS3.out, rfl⟩
  case round =>
    clear HS3
    obtain ⟨k, sb, L', hk, rfl, hs1, hmp⟩ := hrel
    obtain ⟨wo, rfl⟩ : ∃ wo : World, wo = wr := ⟨_, rfl⟩
    have HSB := hid hs1
    have HMP := hid hmp
    clear hs1 hmp
    by_cases hlt : k < L.length
    · obtain ⟨ba, off, hA, hCl⟩ := (HS.out.below HSB.out.bel).sl.at_ (by intro h; subst h; simp at hlt)
      subst hA
      obtain ⟨x, hx⟩ : ∃ x, x = L[k] := ⟨_, rfl⟩
      have hxm : x ∈ L := by rw [hx]; exact List.getElem_mem hlt
      have hxs : Sl wo x.A x.n x.c x.l := (HS.out.below HSB.out.bel).co x hxm
      have hxv := (bodyE_zero (HV.out x hxm)).1
      have hx3 := checkE_len4 (shapeE_zero hxv)
      have HXN : Hid (x.l ≠ []) := fun e => by rw [e] at hxv; exact absurd hxv (by decide)
      obtain ⟨d0, d1, d2, d3, d4, d5, d6, d7, d8, d9, d10, d11, d12⟩ := cells_bd hCl hlt hx
      have hbo := hCl.lt
      have hlt' : (k : Int) < (L.length : Int) := by omega
      have hkw : IntKind.i64.wrap ((k : Int) + 1) = (k : Int) + 1 := IntWalk.i64_in _ (by omega)
      obtain ⟨wj, hwj⟩ : ∃ wj, wj = wo.alloc (.cells #[.int .i64 x.b.px, .int .i64 x.b.py, .int .i64 x.b.vx, .int .i64 x.b.vy, .int .i64 x.b.ang, .int .i64 x.b.spin, .int .i64 x.b.mass, .int .i64 x.b.iner, .int .i64 x.b.bounce, .int .i64 x.b.rub, .slice x.A x.n x.c, .bool x.b.asleep, .int .i64 x.b.calm] 27) := ⟨_, rfl⟩
      obtain ⟨gb, hgb⟩ : ∃ gb, gb = wo.heap.size := ⟨_, rfl⟩
      have hbj : Below wo.heap.size wo wj := by rw [hwj]; go_grown
      have HK := hid (show BdAt wj gb x.b x.A x.n x.c by rw [hwj, hgb]; exact BdAt.here wo x.b x.A x.n x.c _)
      have HCL := hid (clone_calls x.A x.n x.c x.l wj (hxs.below hbj) (by omega))
      have HSJ := hid (keepS1 hbj HSB.out)
      have hgbw : wo.heap.size ≤ gb := by rw [hgb]; exact Nat.le_refl _
      have hgbj : gb < wj.heap.size := HK.out.lt
      have HTK : Hid (L'.map valB ++ [valB x] = (L.map valB).take (k + 1)) := by
        show _ = _
        rw [HMP.out, List.take_add_one, List.getElem?_map, List.getElem?_eq_getElem hlt, ← hx]
        rfl
      have HLL : Hid (L'.length ≤ 64) := by
        have := congrArg List.length HMP.out
        simp at this
        show _ ≤ _
        omega
      clear hCl hx hxs hxv hx3 hbj
      go_upto_region 10 with fail
      rw [← hwj, ← hgb]
      clear hwj hgb d0 d1 d2 d3 d4 d5 d6 d7 d8 d9 d10 d11 d12 hbo
      obtain ⟨k0, k1, k2, k3, k4, k5, k6, k7, k8, k9, k10, k11, k12, kf⟩ := HK.out
      go_wp2_with fail
      refine HCL.out.mono ?_
      rintro e w3 ⟨A1, n1, c1, rfl, hs1, hf1, hb1⟩
      clear k0 k1 k2 k3 k4 k5 k6 k7 k8 k9 k10 k11 k12 kf HCL
      have HK3 := hid (keepBd hb1 HK.out)
      obtain ⟨w4, hw4⟩ : ∃ w4, w4 = w3.setCell ⟨gb, 10, none⟩ (.slice A1 n1 c1) := ⟨_, rfl⟩
      have HFN : Hid (∀ bx off, A1 = some ⟨bx, off, none⟩ → wo.heap.size ≤ bx) := fun bx off e => by have := hf1 bx off e; omega
      have HK4 := hid (show BdAt w4 gb x.b A1 n1 c1 by rw [hw4]; exact HK3.out.set_slice)
      have HSL := hid (show Sl w4 A1 n1 c1 x.l by rw [hw4]; exact hs1.setAt (fun bx off e => by have := hf1 bx off e; omega))
      have HS4 := hid (show S1 w gs (.slice Ac C.length cc) sb C L' w4 by rw [hw4]; exact S1.set HSB.out (keepS1 hb1 HSJ.out) hgbw)
      obtain ⟨k0, k1, k2, k3, k4, k5, k6, k7, k8, k9, k10, k11, k12, kf⟩ := HK3.out
      clear hs1 hf1 hb1 HSJ HK hgbw hgbj
      go_upto_region 11 with fail
      rw [← hw4]
      clear hw4 k0 k1 k2 k3 k4 k5 k6 k7 k8 k9 k10 k11 k12 kf HK3
      refine wp_region_noPanic ?_
      refine wp_region_U (S := (S2 (fun w' => S1 w gs (.slice Ac C.length cc) sb C L' w' ∧ BdAt w' gb x.b A1 n1 c1))) (T := (fun j => [0, 0, 0, 0, 0, 0, 0, 1, 0, 0, 1].getD j 0)) (by kernel_rfl) (S2i0 ⟨HS4.out.drew, HK4.out.drew⟩) (fun hH => ?_)
      have hWr9 : Weaker (S2 (fun w' => S1 w gs (.slice Ac C.length cc) sb C L' w' ∧ BdAt w' gb x.b A1 n1 c1)) := weaker2 _
      refine U_take 1 55 10 0 0 (v := ?vr9_1) rfl (by kernel_rfl) (by kernel_rfl) hWr9 (by kernel_rfl) (by kernel_rfl) (by kernel_rfl) (by kernel_rfl) (by kernel_rfl) (by kernel_rfl) (fun _ _ _ _ h => h) (by kernel_rfl) ?hyr9_1 (by omega) hH ?_
      case hyr9_1 => (intro w' hSw; clear hSw; go_simp; try (with_reducible rfl))
      simp only [List.set_cons_zero, List.set_cons_succ]
      refine U_take 2 56 9 0 0 (v := ?vr9_2) rfl (by kernel_rfl) (by kernel_rfl) hWr9 (by kernel_rfl) (by kernel_rfl) (by kernel_rfl) (by kernel_rfl) (by kernel_rfl) (by kernel_rfl) (fun _ _ _ _ h => h) (by kernel_rfl) ?hyr9_2 (by omega) hH ?_
      case hyr9_2 => (intro w' hSw; clear hSw; go_simp; try (with_reducible rfl))
      simp only [List.set_cons_zero, List.set_cons_succ]
      refine U_take 3 57 8 0 0 (v := ?vr9_3) rfl (by kernel_rfl) (by kernel_rfl) hWr9 (by kernel_rfl) (by kernel_rfl) (by kernel_rfl) (by kernel_rfl) (by kernel_rfl) (by kernel_rfl) (fun _ _ _ _ h => h) (by kernel_rfl) ?hyr9_3 (by omega) hH ?_
      case hyr9_3 => (intro w' hSw; clear hSw; go_simp; try (with_reducible rfl))
      simp only [List.set_cons_zero, List.set_cons_succ]
      refine U_take 4 58 7 0 0 (v := ?vr9_4) rfl (by kernel_rfl) (by kernel_rfl) hWr9 (by kernel_rfl) (by kernel_rfl) (by kernel_rfl) (by kernel_rfl) (by kernel_rfl) (by kernel_rfl) (fun _ _ _ _ h => h) (by kernel_rfl) ?hyr9_4 (by omega) hH ?_
      case hyr9_4 => (intro w' hSw; replace hSw := S2o0 hSw; (try dsimp only at hSw); have q0 := hSw.1; have q1 := hSw.2; have qa0_0 := (q0).c0; have qa0_1 := (q0).c1; have qa0_2 := (q0).c2; obtain ⟨c1_0, c1_1, c1_2, c1_3, c1_4, c1_5, c1_6, c1_7, c1_8, c1_9, c1_10, c1_11, c1_12, c1_f⟩ := id q1; go_simp; try (with_reducible rfl))
      simp only [List.set_cons_zero, List.set_cons_succ]
      refine U_take 5 59 6 0 0 (v := ?vr9_5) rfl (by kernel_rfl) (by kernel_rfl) hWr9 (by kernel_rfl) (by kernel_rfl) (by kernel_rfl) (by kernel_rfl) (by kernel_rfl) (by kernel_rfl) (fun _ _ _ _ h => h) (by kernel_rfl) ?hyr9_5 (by omega) hH ?_
      case hyr9_5 => (intro w' hSw; replace hSw := S2o0 hSw; (try dsimp only at hSw); have q0 := hSw.1; have q1 := hSw.2; have qa0_0 := (q0).c0; have qa0_1 := (q0).c1; have qa0_2 := (q0).c2; obtain ⟨c1_0, c1_1, c1_2, c1_3, c1_4, c1_5, c1_6, c1_7, c1_8, c1_9, c1_10, c1_11, c1_12, c1_f⟩ := id q1; go_simp; try (with_reducible rfl))
      simp only [List.set_cons_zero, List.set_cons_succ]
      refine U_take 0 54 5 1 0 (v := ?vr9_6) rfl (by kernel_rfl) (by kernel_rfl) hWr9 (by kernel_rfl) (by kernel_rfl) (by kernel_rfl) (by kernel_rfl) (by kernel_rfl) (by kernel_rfl) (fun _ _ _ _ h => h) (by kernel_rfl) ?hyr9_6 (by omega) hH ?_
      case hyr9_6 => (intro w' hSw; clear hSw; go_simp; try (with_reducible rfl))
      simp only [List.set_cons_zero, List.set_cons_succ]
      refine wpAnyU_ready (rs := [6]) (by kernel_rfl) (by simp) ?_
      refine AllReadyU.cons 0 (by kernel_rfl) (o := _) rfl (fun K hK => ?_) AllReadyU.nil
      try clear hb
      have hG := hH
      replace hG := S2o0 hG; (try dsimp only at hG); have fq0 := hG.1; have fq1 := hG.2
      go_simp
      refine hK.out _ _ ?hsr9_7 (fun hH2 => ?hrr9_7)
      case hsr9_7 => exact S2i0 (by have hG := hH; replace hG := S2o0 hG; (try dsimp only at hG); have q0 := hG.1; have q1 := hG.2; exact ⟨keepS1 ((Below.refl _ _).alloc (Nat.le_refl _) _) q0, keepBd ((Below.refl _ _).alloc (Nat.le_refl _) _) q1⟩)
      clear hK K hH
      have hH := hH2
      clear hH2
      try simp only [Act.put, List.setIfInBounds_toArray, List.set_cons_zero, List.set_cons_succ]
      clear fq0 fq1 hG
      refine wpAnyU_ready (rs := [7]) (by kernel_rfl) (by simp) ?_
      refine AllReadyU.cons 1 (by kernel_rfl) (o := _) rfl (fun K hK => ?_) AllReadyU.nil
      try clear hb
      (refine step_append_E tyBody (by rfl) _ _ (by rfl) (gs + 1) _ _ (by rfl) (HS4.out.own.alloc _).drew _ 0 1 1 [⟨x.b, A1, n1, c1, x.l⟩] (by rfl) (by rfl) (CellsE.below (Below.refl _ _).drew (cells_bd_one (BdAt.here w4 x.b A1 n1 c1 _))) (by have := HLL.out; simp; omega) (by have := HLL.out; simp; omega) (by have := HS4.out.lt.2.1; simp; omega) ?_; intro sb' w7 ho1 hg1 hat)
      refine hK.out _ _ ?hsr9_8 (fun hH2 => ?hrr9_8)
      case hsr9_8 => exact S2i1
      clear hK K hH
      have hH := hH2
      clear hH2
      try simp only [Act.put, List.getElem_toArray, List.getElem_cons_succ, List.getElem_cons_zero, List.setIfInBounds_toArray, List.set_cons_zero, List.set_cons_succ]
      obtain ⟨A2, n2, c2, rfl, -, -⟩ := ho1.sl
      have HQ7 := hid (S1.push HSB.out HS4.out (y := ⟨x.b, A1, n1, c1, x.l⟩) HSL.out HXN.out HFN.out (by go_grown) ho1 hg1 hat)
      clear ho1 hg1 hat
      refine U_take 8 62 2 1 1 (v := ?vr9_9) rfl (by kernel_rfl) (by kernel_rfl) hWr9 (by kernel_rfl) (by kernel_rfl) (by kernel_rfl) (by kernel_rfl) (by kernel_rfl) (by kernel_rfl) (fun _ _ _ _ h => h) (by kernel_rfl) ?hyr9_9 (by omega) hH ?_
      case hyr9_9 => (intro w' hSw; clear hSw; go_simp; try (with_reducible rfl))
      simp only [List.set_cons_zero, List.set_cons_succ]
      refine U_take 9 63 1 1 1 (v := ?vr9_10) rfl (by kernel_rfl) (by kernel_rfl) hWr9 (by kernel_rfl) (by kernel_rfl) (by kernel_rfl) (by kernel_rfl) (by kernel_rfl) (by kernel_rfl) (fun _ _ _ _ h => h) (by kernel_rfl) ?hyr9_10 (by omega) hH ?_
      case hyr9_10 => (intro w' hSw; clear hSw; go_simp; try (with_reducible rfl))
      simp only [List.set_cons_zero, List.set_cons_succ]
      refine wpAnyU_ready (rs := [10]) (by kernel_rfl) (by simp) ?_
      refine AllReadyU.cons 1 (by kernel_rfl) (o := _) rfl (fun K hK => ?_) AllReadyU.nil
      obtain ⟨y0, yf⟩ := HQ7.out.2
      go_simp
      refine hK.out _ _ ?hsr9_11 (fun hH2 => ?hrr9_11)
      case hsr9_11 => exact S2i1
      clear hK K hH
      have hH := hH2
      clear hH2
      try simp only [Act.put, List.setIfInBounds_toArray, List.set_cons_zero, List.set_cons_succ]
      refine wpAnyU_done (by kernel_rfl) ?_ _ _
      refine NoPanic.normal ?_
      go_wp2
      go_roundw
      case rel => exact ⟨k + 1, _, _, by omega, by go_num, HQ7.out.1, by rw [List.map_append]; exact HTK.out⟩
      case measure => simp [intOf] <;> omega
    · have hkn : k = L.length := by omega
      subst hkn
      have HLM : Hid (L'.map valB = L.map valB) := by show _ = _; rw [HMP.out, List.take_of_length_le (by simp)]
      clear HMP hlt hk
      have HCF : Hid (∀ x ∈ C, CtOk L'.length x) := fun x hx => by have h9 := congrArg List.length HLM.out; rw [List.length_map, List.length_map] at h9; rw [h9]; exact HCS.out x hx
      have HVL' : Hid (∀ y ∈ L', bodyE y.b y.l = 0) := fun y hy => by
        have h9 : valB y ∈ L.map valB := by rw [← HLM.out]; exact List.mem_map_of_mem hy
        obtain ⟨z, hz, hzy⟩ := List.mem_map.1 h9
        have h1 : z.b = y.b := congrArg Prod.fst hzy
        have h2 : z.l = y.l := congrArg Prod.snd hzy
        rw [← h1, ← h2]; exact HV.out z hz
      have hl64 : L'.length ≤ 64 := by have h9 := congrArg List.length HLM.out; rw [List.length_map, List.length_map] at h9; omega
      by_cases hC0 : C = []
      · subst hC0
        have HSN : Hid (solveQ (L.map valB) [] st rn = (L.map valB, [])) := solveQ_nil _ _ _
        obtain ⟨k0, k1, k2⟩ : wo.cell? ⟨gs, 0, none⟩ = some sb ∧ wo.cell? ⟨gs, 1, none⟩ = some (.slice Ac 0 cc) ∧ wo.cell? ⟨gs, 2, none⟩ = some (.slice none 0 0) := ⟨HSB.out.c0, HSB.out.c1, HSB.out.c2⟩
        have HSB2 : Hid (S1 w gs (.slice Ac 0 cc) sb [] L' wo) := HSB.out
        clear HSB
        have HSB := HSB2
        clear HSB2 HCF HVL' HCS
        go_wp2
        go_loopw [70] (fun i wr => i = .int .i64 0 ∧ wr = wo) (fun i _ => 0)
        case atStart => exact ⟨rfl, rfl⟩
        case round =>
          obtain ⟨rfl, rfl⟩ := hrel
          go_wp2
          go_loopw [93] (fun i wr2 => i = .int .i64 0 ∧ wr2 = wr) (fun i _ => 0)
          case atStart => exact ⟨rfl, rfl⟩
          case round =>
            obtain ⟨rfl, rfl⟩ := hrel
            go_wp2
            go_loopw [120] (fun i wr3 => ∃ t : Nat, t ≤ rn ∧ i = .int .i64 t ∧ wr3 = wr) (fun i _ => rn - (intOf i).toNat)
            case atStart => exact ⟨0, Nat.zero_le _, rfl, rfl⟩
            case round =>
              obtain ⟨t, ht, rfl, rfl⟩ := hrel
              by_cases hlt : t < rn
              · have hlt' : (t : Int) < (rn : Int) := by omega
                have htw : IntKind.i64.wrap ((t : Int) + 1) = (t : Int) + 1 := IntWalk.i64_in _ (by omega)
                go_wp2
                go_loopw [127] (fun i wr4 => i = .int .i64 0 ∧ wr4 = wr) (fun i _ => 0)
                case atStart => exact ⟨rfl, rfl⟩
                case round =>
                  obtain ⟨rfl, rfl⟩ := hrel
                  go_wp2
                  go_roundw
                  case rel => exact ⟨t + 1, by omega, by go_num, by simp⟩
                  case measure => simp [intOf] <;> omega
              · have htn : t = rn := by omega
                subst htn
                clear k0 k1 k2
                go_upto_region 31 with fail
                refine wp_region_noPanic ?_
                refine wp_region_U (S := (S2 (fun w' => S1 w gs (.slice Ac 0 cc) sb [] L' w'))) (T := (fun _ => 0)) (by kernel_rfl) (S2i0 HSB.out.drew) (fun hH => ?_)
                have hWr13 : Weaker (S2 (fun w' => S1 w gs (.slice Ac 0 cc) sb [] L' w')) := weaker2 _
                refine U_take 0 135 10 0 0 (v := ?vr13_1) rfl (by kernel_rfl) (by kernel_rfl) hWr13 (by kernel_rfl) (by kernel_rfl) (by kernel_rfl) (by kernel_rfl) (by kernel_rfl) (by kernel_rfl) (fun _ _ _ _ h => h) (by kernel_rfl) ?hyr13_1 (by omega) hH ?_
                case hyr13_1 => (intro w' hSw; clear hSw; go_simp; try (with_reducible rfl))
                simp only [List.set_cons_zero, List.set_cons_succ]
                refine U_take 1 136 9 0 0 (v := ?vr13_2) rfl (by kernel_rfl) (by kernel_rfl) hWr13 (by kernel_rfl) (by kernel_rfl) (by kernel_rfl) (by kernel_rfl) (by kernel_rfl) (by kernel_rfl) (fun _ _ _ _ h => h) (by kernel_rfl) ?hyr13_2 (by omega) hH ?_
                case hyr13_2 => (intro w' hSw; clear hSw; go_simp; try (with_reducible rfl))
                simp only [List.set_cons_zero, List.set_cons_succ]
                refine U_take 2 137 8 0 0 (v := ?vr13_3) rfl (by kernel_rfl) (by kernel_rfl) hWr13 (by kernel_rfl) (by kernel_rfl) (by kernel_rfl) (by kernel_rfl) (by kernel_rfl) (by kernel_rfl) (fun _ _ _ _ h => h) (by kernel_rfl) ?hyr13_3 (by omega) hH ?_
                case hyr13_3 => (intro w' hSw; clear hSw; go_simp; try (with_reducible rfl))
                simp only [List.set_cons_zero, List.set_cons_succ]
                refine U_take 3 138 7 0 0 (v := ?vr13_4) rfl (by kernel_rfl) (by kernel_rfl) hWr13 (by kernel_rfl) (by kernel_rfl) (by kernel_rfl) (by kernel_rfl) (by kernel_rfl) (by kernel_rfl) (fun _ _ _ _ h => h) (by kernel_rfl) ?hyr13_4 (by omega) hH ?_
                case hyr13_4 => (intro w' hSw; replace hSw := S2o0 hSw; (try dsimp only at hSw); have q0 := hSw; have d0_0 := (q0).c0; have d0_1 := (q0).c1; have d0_2 := (q0).c2; go_simp; try (with_reducible rfl))
                simp only [List.set_cons_zero, List.set_cons_succ]
                refine U_take 4 139 6 0 0 (v := ?vr13_5) rfl (by kernel_rfl) (by kernel_rfl) hWr13 (by kernel_rfl) (by kernel_rfl) (by kernel_rfl) (by kernel_rfl) (by kernel_rfl) (by kernel_rfl) (fun _ _ _ _ h => h) (by kernel_rfl) ?hyr13_5 (by omega) hH ?_
                case hyr13_5 => (intro w' hSw; clear hSw; go_simp; try (with_reducible rfl))
                simp only [List.set_cons_zero, List.set_cons_succ]
                refine U_take 5 140 5 0 0 (v := ?vr13_6) rfl (by kernel_rfl) (by kernel_rfl) hWr13 (by kernel_rfl) (by kernel_rfl) (by kernel_rfl) (by kernel_rfl) (by kernel_rfl) (by kernel_rfl) (fun _ _ _ _ h => h) (by kernel_rfl) ?hyr13_6 (by omega) hH ?_
                case hyr13_6 => (intro w' hSw; clear hSw; go_simp; try (with_reducible rfl))
                simp only [List.set_cons_zero, List.set_cons_succ]
                refine U_take 6 141 4 0 0 (v := ?vr13_7) rfl (by kernel_rfl) (by kernel_rfl) hWr13 (by kernel_rfl) (by kernel_rfl) (by kernel_rfl) (by kernel_rfl) (by kernel_rfl) (by kernel_rfl) (fun _ _ _ _ h => h) (by kernel_rfl) ?hyr13_7 (by omega) hH ?_
                case hyr13_7 => (intro w' hSw; clear hSw; go_simp; try (with_reducible rfl))
                simp only [List.set_cons_zero, List.set_cons_succ]
                refine U_take 7 142 3 0 0 (v := ?vr13_8) rfl (by kernel_rfl) (by kernel_rfl) hWr13 (by kernel_rfl) (by kernel_rfl) (by kernel_rfl) (by kernel_rfl) (by kernel_rfl) (by kernel_rfl) (fun _ _ _ _ h => h) (by kernel_rfl) ?hyr13_8 (by omega) hH ?_
                case hyr13_8 => (intro w' hSw; replace hSw := S2o0 hSw; (try dsimp only at hSw); have q0 := hSw; have d0_0 := (q0).c0; have d0_1 := (q0).c1; have d0_2 := (q0).c2; go_simp; try (with_reducible rfl))
                simp only [List.set_cons_zero, List.set_cons_succ]
                refine U_take 8 8 2 0 0 (v := ?vr13_9) rfl (by kernel_rfl) (by kernel_rfl) hWr13 (by kernel_rfl) (by kernel_rfl) (by kernel_rfl) (by kernel_rfl) (by kernel_rfl) (by kernel_rfl) (fun _ _ _ _ h => h) (by kernel_rfl) ?hyr13_9 (by omega) hH ?_
                case hyr13_9 => (intro w' hSw; clear hSw; go_simp; try (with_reducible rfl))
                simp only [List.set_cons_zero, List.set_cons_succ]
                refine U_take 9 9 1 0 0 (v := ?vr13_10) rfl (by kernel_rfl) (by kernel_rfl) hWr13 (by kernel_rfl) (by kernel_rfl) (by kernel_rfl) (by kernel_rfl) (by kernel_rfl) (by kernel_rfl) (fun _ _ _ _ h => h) (by kernel_rfl) ?hyr13_10 (by omega) hH ?_
                case hyr13_10 => (intro w' hSw; clear hSw; go_simp; try (with_reducible rfl))
                simp only [List.set_cons_zero, List.set_cons_succ]
                refine U_take 10 10 0 0 0 (v := ?vr13_11) rfl (by kernel_rfl) (by kernel_rfl) hWr13 (by kernel_rfl) (by kernel_rfl) (by kernel_rfl) (by kernel_rfl) (by kernel_rfl) (by kernel_rfl) (fun _ _ _ _ h => h) (by kernel_rfl) ?hyr13_11 (by omega) hH ?_
                case hyr13_11 => (intro w' hSw; clear hSw; go_simp; try (with_reducible rfl))
                simp only [List.set_cons_zero, List.set_cons_succ]
                refine wpAnyU_done (by kernel_rfl) ?_ _ _
                refine NoPanic.normal ?_
                clear hWr13
                replace hH := S2o0 hH
                (try dsimp only at hH)
                have t0 := hH
                have HSE := hid t0
                clear t0 hH
                obtain ⟨A3, n3, c3, rfl, hsl3, -⟩ := HSE.out.own.sl
                have HB3 := hid HSE.out.bel
                have HC3 := hid HSE.out.co
                have HSL3 := hid hsl3
                clear hsl3 HSE HSB
                go_wp2
                exact bodyPost_ret (v := .tuple #[.slice A3 n3 c3, .slice Ac 0 cc, .int .i64 0]) (by simp [results, Try.results7, go_sem]) rfl ⟨A3, Ac, n3, c3, 0, cc, L', by rw [HRE.out], ⟨HSL3.out, fun x hx => (HC3.out x hx).1⟩, by rw [HRQ.out, HSN.out]; exact ⟨rfl, Nat.zero_le _, by omega, fun h => absurd rfl h⟩, by rw [HRQ.out, HSN.out]; exact HLM.out, HB3.out⟩
      have hCp : 0 < C.length := by rcases C with _ | ⟨x, l⟩; exact absurd rfl hC0; simp
      have hLp : L' ≠ [] := fun e => by
        have h9 := (HCF.out C[0] (List.getElem_mem hCp)).1
        rw [e] at h9
        simp at h9
        omega
      obtain ⟨g, cap, hsbe, hg1, hg2, hcap1, hcap2, hfr, hcl⟩ : ∃ g cap, sb = .slice (some ⟨g, 0, none⟩) L'.length cap ∧ gs + 1 ≤ g ∧ g < wo.heap.size ∧ L'.length ≤ cap ∧ cap ≤ maxLen ∧ (∀ j, wo.frozen? ⟨g, j, none⟩ = false) ∧ CellsE layB wo g 0 L' := by
        rcases HSB.out.own.form with ⟨h1, h2⟩ | ⟨g', cap', hv, h1, h2, h3, h4, h5, h6⟩
        · exact absurd h2 hLp
        · exact ⟨g', cap', hv, h1, h2, h3, h4, h5, h6⟩
      obtain ⟨gc, hAce, hgc1, hgc2, hcfr, hccl⟩ : ∃ gc, Ac = some ⟨gc, 0, none⟩ ∧ w.heap.size ≤ gc ∧ gc < gs ∧ (∀ j, wo.frozen? ⟨gc, j, none⟩ = false) ∧ CellsE layC wo gc 0 C := by
        rcases HSB.out.oc.form with ⟨h1, h2⟩ | ⟨g', cap', hv, h1, h2, h3, h4, h5, h6⟩
        · exact absurd h2 hC0
        · cases hv; exact ⟨g', rfl, h1, HSB.out.lt.2.2 g' rfl, h5, h6⟩
      subst hsbe hAce
      have HS2 : Hid (Sw2 w wo.heap.size gs g gc cap cc L' C (.slice none 0 0) [] wo) :=
        ⟨HSB.out.c0, HSB.out.c1, HSB.out.c2, HSB.out.cf, ⟨hcl, hfr, fun x hx => (HSB.out.co x hx).1, fun x hx bx off e e2 => by have h9 := ((HSB.out.co x hx).2.2 bx off e).2; rw [e2] at h9; exact h9 rfl⟩, hccl, hcfr, OwnE.nil _ _ _ _, fun x hx bx off e => ((HSB.out.co x hx).2.2 bx off e).1, fun x hx => sl_lt (HSB.out.co x hx).1 (HSB.out.co x hx).2.1, HSB.out.bel, hgc1, hgc2, by omega, hg2, Nat.le_refl _⟩
      obtain ⟨Bz, hBz⟩ : ∃ Bz, Bz = wo.heap.size := ⟨_, rfl⟩
      rw [← hBz] at HS2
      have HBZ := hid hBz
      have hgg : g ≠ gs := by omega
      clear HSB hcl hfr hcfr hccl hg1 hg2 hgc1 hgc2 hBz hLp
      obtain ⟨k0, k1, k2⟩ : wo.cell? ⟨gs, 0, none⟩ = some (.slice (some ⟨g, 0, none⟩) L'.length cap) ∧ wo.cell? ⟨gs, 1, none⟩ = some (.slice (some ⟨gc, 0, none⟩) C.length cc) ∧ wo.cell? ⟨gs, 2, none⟩ = some (.slice none 0 0) := ⟨HS2.out.c0, HS2.out.c1, HS2.out.c2⟩
      go_wp2
      go_loopw [70] (fun i wr => ∃ (k : Nat) (sr : Value) (R' : List Rw), k ≤ C.length ∧ i = .int .i64 k ∧ Sw2 w Bz gs g gc cap cc L' C sr R' wr ∧ R' = (rowsQ (L'.map valB) C st).take k) (fun i _ => C.length - (intOf i).toNat)
      case atStart => exact ⟨0, _, [], Nat.zero_le _, rfl, HS2.out, rfl⟩
      case round =>
        clear HS2 k0 k1 k2
        obtain ⟨k, sr, R', hk, rfl, hs2, hrq⟩ := hrel
        obtain ⟨wi, rfl⟩ : ∃ wi : World, wi = wr := ⟨_, rfl⟩
        have HS2 := hid hs2
        have HRQ2 := hid hrq
        clear hs2 hrq
        by_cases hlt : k < C.length
        · obtain ⟨x, hx⟩ : ∃ x, x = C[k] := ⟨_, rfl⟩
          have hxm : x ∈ C := by rw [hx]; exact List.getElem_mem hlt
          have hok := HCF.out x hxm
          obtain ⟨d0, d1, d2, d3, d4, d5, d6, d7, d8, d9⟩ := cells_ct0 (x := x) HS2.out.cl hlt (by rw [List.getElem?_eq_getElem hlt, hx])
          have hbo := HS2.out.cl.lt
          have hlt' : (k : Int) < (C.length : Int) := by omega
          have hkw : IntKind.i64.wrap ((k : Int) + 1) = (k : Int) + 1 := IntWalk.i64_in _ (by omega)
          obtain ⟨ka, hxa⟩ : ∃ ka : Nat, x.a = ka := ⟨x.a.toNat, by have := hok.1; omega⟩
          obtain ⟨kb, hxb⟩ : ∃ kb : Nat, x.b = kb := ⟨x.b.toNat, by have := hok.1; omega⟩
          obtain ⟨r, hr⟩ : ∃ r, r = rowQ (L'.map valB) st x := ⟨_, rfl⟩
          have HTK : Hid (R' ++ [r] = (rowsQ (L'.map valB) C st).take (k + 1)) := by
            show _ = _
            unfold rowsQ at HRQ2 ⊢
            rw [HRQ2.out, List.take_add_one, List.getElem?_map, List.getElem?_eq_getElem hlt, ← hx, hr]
            rfl
          have HRL : Hid (R'.length ≤ 4096) := by
            have h9 := congrArg List.length HRQ2.out
            unfold rowsQ at h9
            simp at h9
            show _ ≤ _
            omega
          have HROW : Hid (∀ w', Sw2 w Bz gs g gc cap cc L' C sr R' w' → Calls Try.prog 15 #[.pointer (some ⟨gs, 0, none⟩), ctV x, .int .i64 st] w' (Ret (.agg #[.int .i64 r.t1, .int .i64 r.t2, .int .i64 r.ease, .int .i64 r.slip, .int .i64 r.lift, .int .i64 r.bound]) w')) := fun w' h => by
            have h9 := srow_calls cap gs g ka kb L' x st w' h.bl HVL'.out h.c0 hgg (by have := hok.1; omega) (by have := hok.1; omega) (by have := hok.1; omega) hxa hxb hl64 hok (by have := h.lt; omega)
            rw [← hr] at h9
            exact h9
          obtain ⟨wj, hwj⟩ : ∃ wj, wj = wi.alloc (.cells #[.int .i64 x.a, .int .i64 x.b, .int .i64 x.id, .int .i64 x.px, .int .i64 x.py, .int .i64 x.nx, .int .i64 x.ny, .int .i64 x.dep, .int .i64 x.push, .int .i64 x.sli] 37) := ⟨_, rfl⟩
          obtain ⟨gx, hgx⟩ : ∃ gx, gx = wi.heap.size := ⟨_, rfl⟩
          have hbj : Below wi.heap.size wi wj := by rw [hwj]; go_grown
          have HS5 := hid (keepSw2 hbj HS2.out)
          have HCG := hid (show Cg wj gx x by rw [hwj, hgx]; exact ⟨by go_simp, by go_simp, by go_simp, by go_simp, by go_simp, by go_simp, by go_simp, by go_simp, by go_simp, by go_simp⟩)
          clear hbj hx hxm hxa hxb hr hok
          go_upto_region 16 with fail
          rw [← hwj, ← hgx]
          clear hwj hgx d0 d1 d2 d3 d4 d5 d6 d7 d8 d9 hbo
          refine wp_region_noPanic ?_
          refine wp_region_U (S := (S2 (fun w' => Sw2 w Bz gs g gc cap cc L' C sr R' w' ∧ Cg w' gx x))) (T := (fun j => [0, 0, 0, 0, 0, 0, 0, 0, 0, 0, 1, 0, 0, 1].getD j 0)) (by kernel_rfl) (S2i0 ⟨HS5.out.drew, HCG.out.drew⟩) (fun hH => ?_)
          have hWr10 : Weaker (S2 (fun w' => Sw2 w Bz gs g gc cap cc L' C sr R' w' ∧ Cg w' gx x)) := weaker2 _
          refine U_take 1 75 13 0 0 (v := ?vr10_1) rfl (by kernel_rfl) (by kernel_rfl) hWr10 (by kernel_rfl) (by kernel_rfl) (by kernel_rfl) (by kernel_rfl) (by kernel_rfl) (by kernel_rfl) (fun _ _ _ _ h => h) (by kernel_rfl) ?hyr10_1 (by omega) hH ?_
          case hyr10_1 => (intro w' hSw; clear hSw; go_simp; try (with_reducible rfl))
          simp only [List.set_cons_zero, List.set_cons_succ]
          refine U_take 2 76 12 0 0 (v := ?vr10_2) rfl (by kernel_rfl) (by kernel_rfl) hWr10 (by kernel_rfl) (by kernel_rfl) (by kernel_rfl) (by kernel_rfl) (by kernel_rfl) (by kernel_rfl) (fun _ _ _ _ h => h) (by kernel_rfl) ?hyr10_2 (by omega) hH ?_
          case hyr10_2 => (intro w' hSw; clear hSw; go_simp; try (with_reducible rfl))
          simp only [List.set_cons_zero, List.set_cons_succ]
          refine U_take 3 77 11 0 0 (v := ?vr10_3) rfl (by kernel_rfl) (by kernel_rfl) hWr10 (by kernel_rfl) (by kernel_rfl) (by kernel_rfl) (by kernel_rfl) (by kernel_rfl) (by kernel_rfl) (fun _ _ _ _ h => h) (by kernel_rfl) ?hyr10_3 (by omega) hH ?_
          case hyr10_3 => (intro w' hSw; clear hSw; go_simp; try (with_reducible rfl))
          simp only [List.set_cons_zero, List.set_cons_succ]
          refine U_take 4 78 10 0 0 (v := ?vr10_4) rfl (by kernel_rfl) (by kernel_rfl) hWr10 (by kernel_rfl) (by kernel_rfl) (by kernel_rfl) (by kernel_rfl) (by kernel_rfl) (by kernel_rfl) (fun _ _ _ _ h => h) (by kernel_rfl) ?hyr10_4 (by omega) hH ?_
          case hyr10_4 => (intro w' hSw; replace hSw := S2o0 hSw; (try dsimp only at hSw); have q0 := hSw.1; have q1 := hSw.2; have d0_0 := (q0).c0; have d0_1 := (q0).c1; have d0_2 := (q0).c2; obtain ⟨qa1_0, qa1_1, qa1_2, qa1_3, qa1_4, qa1_5, qa1_6, qa1_7, qa1_8, qa1_9⟩ := id q1; go_simp; try (with_reducible rfl))
          simp only [List.set_cons_zero, List.set_cons_succ]
          refine U_take 5 79 9 0 0 (v := ?vr10_5) rfl (by kernel_rfl) (by kernel_rfl) hWr10 (by kernel_rfl) (by kernel_rfl) (by kernel_rfl) (by kernel_rfl) (by kernel_rfl) (by kernel_rfl) (fun _ _ _ _ h => h) (by kernel_rfl) ?hyr10_5 (by omega) hH ?_
          case hyr10_5 => (intro w' hSw; clear hSw; go_simp; try (with_reducible rfl))
          simp only [List.set_cons_zero, List.set_cons_succ]
          refine U_take 6 80 8 0 0 (v := ?vr10_6) rfl (by kernel_rfl) (by kernel_rfl) hWr10 (by kernel_rfl) (by kernel_rfl) (by kernel_rfl) (by kernel_rfl) (by kernel_rfl) (by kernel_rfl) (fun _ _ _ _ h => h) (by kernel_rfl) ?hyr10_6 (by omega) hH ?_
          case hyr10_6 => (intro w' hSw; replace hSw := S2o0 hSw; (try dsimp only at hSw); have q0 := hSw.1; have q1 := hSw.2; have d0_0 := (q0).c0; have d0_1 := (q0).c1; have d0_2 := (q0).c2; obtain ⟨qa1_0, qa1_1, qa1_2, qa1_3, qa1_4, qa1_5, qa1_6, qa1_7, qa1_8, qa1_9⟩ := id q1; go_simp; try (with_reducible rfl))
          simp only [List.set_cons_zero, List.set_cons_succ]
          refine U_take 7 81 7 0 0 (v := ?vr10_7) rfl (by kernel_rfl) (by kernel_rfl) hWr10 (by kernel_rfl) (by kernel_rfl) (by kernel_rfl) (by kernel_rfl) (by kernel_rfl) (by kernel_rfl) (fun _ _ _ _ h => h) (by kernel_rfl) ?hyr10_7 (by omega) hH ?_
          case hyr10_7 => (intro w' hSw; clear hSw; go_simp; try (with_reducible rfl))
          simp only [List.set_cons_zero, List.set_cons_succ]
          refine U_take 0 74 6 1 0 (v := ?vr10_8) rfl (by kernel_rfl) (by kernel_rfl) hWr10 (by kernel_rfl) (by kernel_rfl) (by kernel_rfl) (by kernel_rfl) (by kernel_rfl) (by kernel_rfl) (fun _ _ _ _ h => h) (by kernel_rfl) ?hyr10_8 (by omega) hH ?_
          case hyr10_8 => (intro w' hSw; clear hSw; go_simp; try (with_reducible rfl))
          simp only [List.set_cons_zero, List.set_cons_succ]
          refine wpAnyU_ready (rs := [8]) (by kernel_rfl) (by simp) ?_
          refine AllReadyU.cons 0 (by kernel_rfl) (o := _) rfl (fun K hK => ?_) AllReadyU.nil
          try clear hb
          have hG := hH
          replace hG := S2o0 hG; (try dsimp only at hG); have fq0 := hG.1; have fq1 := hG.2
          have HRX := hid fq0
          clear hG fq0 fq1
          go_simp
          (go_at_call 15; refine (HROW.out _ HRX.out).mono ?_; rintro e wn ⟨rfl, hb⟩)
          refine hK.out _ _ ?hsr10_9 (fun hH2 => ?hrr10_9)
          case hsr10_9 => exact S2i0 (by have hG := hH; replace hG := S2o0 hG; (try dsimp only at hG); have q0 := hG.1; have q1 := hG.2; exact ⟨keepSw2 hb q0, keepCg hb q1⟩)
          clear hK K hH
          have hH := hH2
          clear hH2
          try simp only [Act.put, List.setIfInBounds_toArray, List.set_cons_zero, List.set_cons_succ]
          clear HRX
          refine wpAnyU_ready (rs := [9]) (by kernel_rfl) (by simp) ?_
          refine AllReadyU.cons 0 (by kernel_rfl) (o := _) rfl (fun K hK => ?_) AllReadyU.nil
          try clear hb
          have hG := hH
          replace hG := S2o0 hG; (try dsimp only at hG); have fq0 := hG.1; have fq1 := hG.2
          go_simp
          refine hK.out _ _ ?hsr10_10 (fun hH2 => ?hrr10_10)
          case hsr10_10 => exact S2i0 (by have hG := hH; replace hG := S2o0 hG; (try dsimp only at hG); have q0 := hG.1; have q1 := hG.2; exact ⟨keepSw2 ((Below.refl _ _).alloc (Nat.le_refl _) _) q0, keepCg ((Below.refl _ _).alloc (Nat.le_refl _) _) q1⟩)
          clear hK K hH
          have hH := hH2
          clear hH2
          try simp only [Act.put, List.setIfInBounds_toArray, List.set_cons_zero, List.set_cons_succ]
          clear fq1 hG
          refine wpAnyU_ready (rs := [10]) (by kernel_rfl) (by simp) ?_
          refine AllReadyU.cons 1 (by kernel_rfl) (o := _) rfl (fun K hK => ?_) AllReadyU.nil
          (refine step_append_E tyRow (by rfl) _ _ (by rfl) Bz _ _ (by rfl) (fq0.own.alloc _) _ 0 1 1 [r] (by rfl) (by rfl) (cells_rw_one (by go_simp) (by go_simp) (by go_simp) (by go_simp) (by go_simp) (by go_simp)) (by have := HRL.out; simp; omega) (by have := HRL.out; simp; omega) (by have := fq0.lt.2.2.2.2; simp; omega) ?_; intro sr' w7 ho1 hg1 hat)
          refine hK.out _ _ ?hsr10_11 (fun hH2 => ?hrr10_11)
          case hsr10_11 => exact S2i1
          clear hK K hH
          have hH := hH2
          clear hH2
          try simp only [Act.put, List.getElem_toArray, List.getElem_cons_succ, List.getElem_cons_zero, List.setIfInBounds_toArray, List.set_cons_zero, List.set_cons_succ]
          obtain ⟨A2, n2, c2, rfl, -, -⟩ := ho1.sl
          have HQ7 := hid (Sw2.push fq0 (y := r) (by go_grown) ho1 hg1)
          clear ho1 hg1 hat fq0
          refine U_take 11 85 2 1 1 (v := ?vr10_12) rfl (by kernel_rfl) (by kernel_rfl) hWr10 (by kernel_rfl) (by kernel_rfl) (by kernel_rfl) (by kernel_rfl) (by kernel_rfl) (by kernel_rfl) (fun _ _ _ _ h => h) (by kernel_rfl) ?hyr10_12 (by omega) hH ?_
          case hyr10_12 => (intro w' hSw; clear hSw; go_simp; try (with_reducible rfl))
          simp only [List.set_cons_zero, List.set_cons_succ]
          refine U_take 12 86 1 1 1 (v := ?vr10_13) rfl (by kernel_rfl) (by kernel_rfl) hWr10 (by kernel_rfl) (by kernel_rfl) (by kernel_rfl) (by kernel_rfl) (by kernel_rfl) (by kernel_rfl) (fun _ _ _ _ h => h) (by kernel_rfl) ?hyr10_13 (by omega) hH ?_
          case hyr10_13 => (intro w' hSw; clear hSw; go_simp; try (with_reducible rfl))
          simp only [List.set_cons_zero, List.set_cons_succ]
          refine wpAnyU_ready (rs := [13]) (by kernel_rfl) (by simp) ?_
          refine AllReadyU.cons 1 (by kernel_rfl) (o := _) rfl (fun K hK => ?_) AllReadyU.nil
          obtain ⟨y0, yf⟩ := HQ7.out.2
          go_simp
          refine hK.out _ _ ?hsr10_14 (fun hH2 => ?hrr10_14)
          case hsr10_14 => exact S2i1
          clear hK K hH
          have hH := hH2
          clear hH2
          try simp only [Act.put, List.setIfInBounds_toArray, List.set_cons_zero, List.set_cons_succ]
          refine wpAnyU_done (by kernel_rfl) ?_ _ _
          refine NoPanic.normal ?_
          go_wp2
          go_roundw
          case rel => exact ⟨k + 1, _, _, by omega, by go_num, HQ7.out.1, HTK.out⟩
          case measure => simp [intOf] <;> omega
        · have hkn : k = C.length := by omega
          subst hkn
          have hRe : R' = rowsQ (L'.map valB) C st := by rw [HRQ2.out, List.take_of_length_le (by unfold rowsQ; simp)]
          have hRl : R'.length = C.length := by rw [hRe]; unfold rowsQ; simp
          have hRn : R' ≠ [] := fun e => by rw [e] at hRl; simp at hRl; omega
          obtain ⟨gq, cq, hsre, hcq⟩ : ∃ gq cq, sr = .slice (some ⟨gq, 0, none⟩) R'.length cq ∧ R'.length ≤ cq := by
            rcases HS2.out.own.form with ⟨h1, h2⟩ | ⟨g', cap', hv, h1, h2, h3, h4, h5, h6⟩
            · exact absurd h2 hRn
            · exact ⟨g', cap', hv, h3⟩
          subst hsre
          have HSR := hid (Sw2.done HS2.out hRn)
          have HBN : Hid (∀ r ∈ R', 0 ≤ r.bound) := fun r hr => by
            rw [hRe] at hr
            obtain ⟨x, hx, rfl⟩ := List.mem_map.1 hr
            exact row_bound HVL'.out (HCF.out x hx) st
          have HBW := hid HS2.out.bel
          have HLT9 := hid HS2.out.lt
          obtain ⟨R, hRR⟩ : ∃ R, R = R' := ⟨_, rfl⟩
          rw [← hRR] at HSR HBN hRl hcq hRe
          try rw [← hRR]
          have HRL := hid hRl
          have HREQ := hid hRe
          obtain ⟨wB, hwB⟩ : ∃ wB, wB = wi := ⟨_, rfl⟩
          rw [← hwB] at HSR HBW
          rw [← hwB]
          have hcR : R.length = C.length := hRl
          have HBB : Hid (∀ w', Gr2 wB w' g gc → Below w.heap.size w w') := fun w' hg => by
            have hs := HBW.out
            have l := HLT9.out
            exact ⟨hg.os.trans hs.os, hg.tape.trans hs.tape, hg.output.trans hs.output, Nat.le_trans hs.size hg.size, fun k hk => (hg.block k (Nat.lt_of_lt_of_le hk hs.size) (by omega) (by omega)).trans (hs.block k hk)⟩
          clear HS2 HRQ2 hRe hRl hRn hRR hwB hlt hk
          obtain ⟨Q, hQ⟩ : ∃ Q, Q = L'.map valB := ⟨_, rfl⟩
          have HQL := hid hQ
          have HCQ : Hid (∀ x ∈ C, CtOk Q.length x) := fun x hx => by rw [hQ, List.length_map]; exact HCF.out x hx
          have HWL : Hid (∀ k, LikeL Q (warmTo Q C R k)) := fun k => warmTo_like HCQ.out k
          have k1 := HSR.out.s1
          clear hQ
          go_wp2
          go_loopw [93] (fun i wr => ∃ (k : Nat) (L2 : List BE), k ≤ C.length ∧ i = .int .i64 k ∧ Sr wB gs g gc gq cap cc cq L2 C R wr ∧ L2.map valB = warmTo Q C R k) (fun i _ => C.length - (intOf i).toNat)
          case atStart => exact ⟨0, L', Nat.zero_le _, rfl, HSR.out, HQL.out.symm⟩
          case round =>
            clear HSR k1
            obtain ⟨k, L2, hk, rfl, hsr, hmp⟩ := hrel
            obtain ⟨wk, rfl⟩ : ∃ wk : World, wk = wr := ⟨_, rfl⟩
            have HSR := hid hsr
            have HMP := hid hmp
            clear hsr hmp
            have HLK2 : Hid (LikeL (L'.map valB) (L2.map valB)) := by have h9 := HWL.out k; rw [← HMP.out, HQL.out] at h9; exact h9
            have HV2 := hid (like_valid HLK2.out HVL'.out)
            have hl2 : L2.length = L'.length := by have h9 := HLK2.out.len; rw [List.length_map, List.length_map] at h9; exact h9
            have HL2 := hid hl2
            have hl2b : L2.length ≤ 64 := by omega
            clear hl2
            by_cases hlt : k < C.length
            · obtain ⟨x, hx⟩ : ∃ x, x = C[k] := ⟨_, rfl⟩
              have hxm : x ∈ C := by rw [hx]; exact List.getElem_mem hlt
              have hok : CtOk L2.length x := by rw [HL2.out]; exact HCF.out x hxm
              have hcx : C[k]? = some x := by rw [List.getElem?_eq_getElem hlt, hx]
              have hkR : k < R.length := by omega
              obtain ⟨r, hr⟩ : ∃ r, r = R[k] := ⟨_, rfl⟩
              have HR := hid hr
              obtain ⟨d0, d1, d2, d3, d4, d5, d6, d7, d8, d9⟩ := cells_ct0 (x := x) HSR.out.cl hlt hcx
              have hbo := HSR.out.cl.lt
              have hlt' : (k : Int) < (C.length : Int) := by omega
              have hltR : (k : Int) < (R.length : Int) := by omega
              have hkw : IntKind.i64.wrap ((k : Int) + 1) = (k : Int) + 1 := IntWalk.i64_in _ (by omega)
              obtain ⟨ka, hxa⟩ : ∃ ka : Nat, x.a = ka := ⟨x.a.toNat, by have := hok.1; omega⟩
              obtain ⟨kb, hxb⟩ : ∃ kb : Nat, x.b = kb := ⟨x.b.toNat, by have := hok.1; omega⟩
              obtain ⟨p1, hp1⟩ : ∃ z, z = mulF x.nx x.push := ⟨_, rfl⟩
              obtain ⟨p2, hp2⟩ : ∃ z, z = mulF x.ny x.push := ⟨_, rfl⟩
              obtain ⟨u1, hu1⟩ : ∃ z, z = mulF r.t1 x.sli := ⟨_, rfl⟩
              obtain ⟨u2, hu2⟩ : ∃ z, z = mulF r.t2 x.sli := ⟨_, rfl⟩
              obtain ⟨j1, hj1⟩ : ∃ z, z = addF p1 u1 := ⟨_, rfl⟩
              obtain ⟨j2, hj2⟩ : ∃ z, z = addF p2 u2 := ⟨_, rfl⟩
              have HSC1 := hid (vscale_calls x.nx x.ny x.push)
              rw [← hp1, ← hp2] at HSC1
              have HSC2 := hid (vscale_calls r.t1 r.t2 x.sli)
              rw [← hu1, ← hu2] at HSC2
              have HAD := hid (vadd_calls p1 p2 u1 u2)
              rw [← hj1, ← hj2] at HAD
              have HPSH : Hid (∀ w', Sr wB gs g gc gq cap cc cq L2 C R w' → Calls Try.prog 16 #[.pointer (some ⟨gs, 0, none⟩), ctV x, vecV j1 j2] w' (RetPush g L2 (pushX (L2.map valB) x j1 j2) w')) := fun w' h =>
                spush_calls cap gs g ka kb L2 x j1 j2 w' h.bl HV2.out h.s0 h.ne.2.1 (by have := hok.1; omega) (by have := hok.1; omega) (by have := hok.1; omega) hxa hxb hl2b (by rw [hj1]; exact addF_bdS _ _) (by rw [hj2]; exact addF_bdS _ _)
              have HLK3 := hid (pushX_like (Q := L2.map valB) (x := x) (by rw [List.length_map]; exact hok) j1 j2)
              have HST : Hid (warmTo Q C R (k + 1) = pushX (L2.map valB) x j1 j2) := by
                show _ = _
                rw [warmTo_succ (r := r) hcx (by rw [List.getElem?_eq_getElem hkR, hr]), ← HMP.out]
                unfold warmQ
                rw [← hp1, ← hp2, ← hu1, ← hu2, ← hj1, ← hj2]
              obtain ⟨wj, hwj⟩ : ∃ wj, wj = wk.alloc (.cells #[.int .i64 x.a, .int .i64 x.b, .int .i64 x.id, .int .i64 x.px, .int .i64 x.py, .int .i64 x.nx, .int .i64 x.ny, .int .i64 x.dep, .int .i64 x.push, .int .i64 x.sli] 37) := ⟨_, rfl⟩
              obtain ⟨gx, hgx⟩ : ∃ gx, gx = wk.heap.size := ⟨_, rfl⟩
              have hbj : Below wk.heap.size wk wj := by rw [hwj]; go_grown
              have HSRj := hid (keepSr hbj HSR.out)
              have HCG := hid (show Cg wj gx x by rw [hwj, hgx]; exact ⟨by go_simp, by go_simp, by go_simp, by go_simp, by go_simp, by go_simp, by go_simp, by go_simp, by go_simp, by go_simp⟩)
              have HKB := hid hcR
              clear hbj hx hxm hxa hxb hr hok hcx hp1 hp2 hu1 hu2 hj1 hj2 hcR HSR
              go_upto_region 21 with fail
              rw [← hwj, ← hgx]
              clear hwj hgx d0 d1 d2 d3 d4 d5 d6 d7 d8 d9 hbo
              refine wp_region_noPanic ?_
              refine wp_region_U (S := (S2 (fun w' => Sr wB gs g gc gq cap cc cq L2 C R w' ∧ Cg w' gx x))) (T := (fun j => [0, 0, 0, 0, 0, 0, 0, 0, 0, 0, 0, 0, 0, 0, 0, 0, 0, 0, 0, 1].getD j 0)) (by kernel_rfl) (S2i0 ⟨HSRj.out.drew, HCG.out.drew⟩) (fun hH => ?_)
              have hWr11 : Weaker (S2 (fun w' => Sr wB gs g gc gq cap cc cq L2 C R w' ∧ Cg w' gx x)) := weaker2 _
              refine U_take 0 98 19 0 0 (v := ?vr11_1) rfl (by kernel_rfl) (by kernel_rfl) hWr11 (by kernel_rfl) (by kernel_rfl) (by kernel_rfl) (by kernel_rfl) (by kernel_rfl) (by kernel_rfl) (fun _ _ _ _ h => h) (by kernel_rfl) ?hyr11_1 (by omega) hH ?_
              case hyr11_1 => (intro w' hSw; clear hSw; go_simp; try (with_reducible rfl))
              simp only [List.set_cons_zero, List.set_cons_succ]
              refine U_take 1 99 18 0 0 (v := ?vr11_2) rfl (by kernel_rfl) (by kernel_rfl) hWr11 (by kernel_rfl) (by kernel_rfl) (by kernel_rfl) (by kernel_rfl) (by kernel_rfl) (by kernel_rfl) (fun _ _ _ _ h => h) (by kernel_rfl) ?hyr11_2 (by omega) hH ?_
              case hyr11_2 => (intro w' hSw; replace hSw := S2o0 hSw; (try dsimp only at hSw); have q0 := hSw.1; have q1 := hSw.2; have d0_0 := (q0).s0; have d0_1 := (q0).s1; have d0_2 := (q0).s2; obtain ⟨b0_0, b0_1, b0_2, b0_3, b0_4, b0_5⟩ := cells_rw (q0).rl hkR HR.out; obtain ⟨qa1_0, qa1_1, qa1_2, qa1_3, qa1_4, qa1_5, qa1_6, qa1_7, qa1_8, qa1_9⟩ := id q1; go_simp; try (with_reducible rfl))
              simp only [List.set_cons_zero, List.set_cons_succ]
              refine U_take 2 100 17 0 0 (v := ?vr11_3) rfl (by kernel_rfl) (by kernel_rfl) hWr11 (by kernel_rfl) (by kernel_rfl) (by kernel_rfl) (by kernel_rfl) (by kernel_rfl) (by kernel_rfl) (fun _ _ _ _ h => h) (by kernel_rfl) ?hyr11_3 (by omega) hH ?_
              case hyr11_3 => (intro w' hSw; clear hSw; go_simp; try (with_reducible rfl))
              simp only [List.set_cons_zero, List.set_cons_succ]
              refine U_take 3 101 16 0 0 (v := ?vr11_4) rfl (by kernel_rfl) (by kernel_rfl) hWr11 (by kernel_rfl) (by kernel_rfl) (by kernel_rfl) (by kernel_rfl) (by kernel_rfl) (by kernel_rfl) (fun _ _ _ _ h => h) (by kernel_rfl) ?hyr11_4 (by omega) hH ?_
              case hyr11_4 => (intro w' hSw; replace hSw := S2o0 hSw; (try dsimp only at hSw); have q0 := hSw.1; have q1 := hSw.2; have d0_0 := (q0).s0; have d0_1 := (q0).s1; have d0_2 := (q0).s2; obtain ⟨b0_0, b0_1, b0_2, b0_3, b0_4, b0_5⟩ := cells_rw (q0).rl hkR HR.out; obtain ⟨qa1_0, qa1_1, qa1_2, qa1_3, qa1_4, qa1_5, qa1_6, qa1_7, qa1_8, qa1_9⟩ := id q1; go_simp; try (with_reducible rfl))
              simp only [List.set_cons_zero, List.set_cons_succ]
              refine U_take 4 102 15 0 0 (v := ?vr11_5) rfl (by kernel_rfl) (by kernel_rfl) hWr11 (by kernel_rfl) (by kernel_rfl) (by kernel_rfl) (by kernel_rfl) (by kernel_rfl) (by kernel_rfl) (fun _ _ _ _ h => h) (by kernel_rfl) ?hyr11_5 (by omega) hH ?_
              case hyr11_5 => (intro w' hSw; clear hSw; go_simp; try (with_reducible rfl))
              simp only [List.set_cons_zero, List.set_cons_succ]
              refine U_take 5 103 14 0 0 (v := ?vr11_6) rfl (by kernel_rfl) (by kernel_rfl) hWr11 (by kernel_rfl) (by kernel_rfl) (by kernel_rfl) (by kernel_rfl) (by kernel_rfl) (by kernel_rfl) (fun _ _ _ _ h => h) (by kernel_rfl) ?hyr11_6 (by omega) hH ?_
              case hyr11_6 => (intro w' hSw; replace hSw := S2o0 hSw; (try dsimp only at hSw); have q0 := hSw.1; have q1 := hSw.2; have d0_0 := (q0).s0; have d0_1 := (q0).s1; have d0_2 := (q0).s2; obtain ⟨b0_0, b0_1, b0_2, b0_3, b0_4, b0_5⟩ := cells_rw (q0).rl hkR HR.out; obtain ⟨qa1_0, qa1_1, qa1_2, qa1_3, qa1_4, qa1_5, qa1_6, qa1_7, qa1_8, qa1_9⟩ := id q1; go_simp; try (with_reducible rfl))
              simp only [List.set_cons_zero, List.set_cons_succ]
              refine U_take 7 105 13 0 0 (v := ?vr11_7) rfl (by kernel_rfl) (by kernel_rfl) hWr11 (by kernel_rfl) (by kernel_rfl) (by kernel_rfl) (by kernel_rfl) (by kernel_rfl) (by kernel_rfl) (fun _ _ _ _ h => h) (by kernel_rfl) ?hyr11_7 (by omega) hH ?_
              case hyr11_7 => (intro w' hSw; clear hSw; go_simp; try (with_reducible rfl))
              simp only [List.set_cons_zero, List.set_cons_succ]
              refine U_take 8 106 12 0 0 (v := ?vr11_8) rfl (by kernel_rfl) (by kernel_rfl) hWr11 (by kernel_rfl) (by kernel_rfl) (by kernel_rfl) (by kernel_rfl) (by kernel_rfl) (by kernel_rfl) (fun _ _ _ _ h => h) (by kernel_rfl) ?hyr11_8 (by omega) hH ?_
              case hyr11_8 => (intro w' hSw; clear hSw; go_simp; try (with_reducible rfl))
              simp only [List.set_cons_zero, List.set_cons_succ]
              refine U_take 9 107 11 0 0 (v := ?vr11_9) rfl (by kernel_rfl) (by kernel_rfl) hWr11 (by kernel_rfl) (by kernel_rfl) (by kernel_rfl) (by kernel_rfl) (by kernel_rfl) (by kernel_rfl) (fun _ _ _ _ h => h) (by kernel_rfl) ?hyr11_9 (by omega) hH ?_
              case hyr11_9 => (intro w' hSw; clear hSw; go_simp; try (with_reducible rfl))
              simp only [List.set_cons_zero, List.set_cons_succ]
              refine U_take 10 108 10 0 0 (v := ?vr11_10) rfl (by kernel_rfl) (by kernel_rfl) hWr11 (by kernel_rfl) (by kernel_rfl) (by kernel_rfl) (by kernel_rfl) (by kernel_rfl) (by kernel_rfl) (fun _ _ _ _ h => h) (by kernel_rfl) ?hyr11_10 (by omega) hH ?_
              case hyr11_10 => (intro w' hSw; replace hSw := S2o0 hSw; (try dsimp only at hSw); have q0 := hSw.1; have q1 := hSw.2; have d0_0 := (q0).s0; have d0_1 := (q0).s1; have d0_2 := (q0).s2; obtain ⟨b0_0, b0_1, b0_2, b0_3, b0_4, b0_5⟩ := cells_rw (q0).rl hkR HR.out; obtain ⟨qa1_0, qa1_1, qa1_2, qa1_3, qa1_4, qa1_5, qa1_6, qa1_7, qa1_8, qa1_9⟩ := id q1; go_simp; try (with_reducible rfl))
              simp only [List.set_cons_zero, List.set_cons_succ]
              refine U_take 11 109 9 0 0 (v := ?vr11_11) rfl (by kernel_rfl) (by kernel_rfl) hWr11 (by kernel_rfl) (by kernel_rfl) (by kernel_rfl) (by kernel_rfl) (by kernel_rfl) (by kernel_rfl) (fun _ _ _ _ h => h) (by kernel_rfl) ?hyr11_11 (by omega) hH ?_
              case hyr11_11 => (intro w' hSw; clear hSw; go_simp; try (with_reducible rfl))
              simp only [List.set_cons_zero, List.set_cons_succ]
              refine U_take 12 110 8 0 0 (v := ?vr11_12) rfl (by kernel_rfl) (by kernel_rfl) hWr11 (by kernel_rfl) (by kernel_rfl) (by kernel_rfl) (by kernel_rfl) (by kernel_rfl) (by kernel_rfl) (fun _ _ _ _ h => h) (by kernel_rfl) ?hyr11_12 (by omega) hH ?_
              case hyr11_12 => (intro w' hSw; clear hSw; go_simp; try (with_reducible rfl))
              simp only [List.set_cons_zero, List.set_cons_succ]
              refine U_take 13 111 7 0 0 (v := ?vr11_13) rfl (by kernel_rfl) (by kernel_rfl) hWr11 (by kernel_rfl) (by kernel_rfl) (by kernel_rfl) (by kernel_rfl) (by kernel_rfl) (by kernel_rfl) (fun _ _ _ _ h => h) (by kernel_rfl) ?hyr11_13 (by omega) hH ?_
              case hyr11_13 => (intro w' hSw; clear hSw; go_simp; try (with_reducible rfl))
              simp only [List.set_cons_zero, List.set_cons_succ]
              refine U_take 14 112 6 0 0 (v := ?vr11_14) rfl (by kernel_rfl) (by kernel_rfl) hWr11 (by kernel_rfl) (by kernel_rfl) (by kernel_rfl) (by kernel_rfl) (by kernel_rfl) (by kernel_rfl) (fun _ _ _ _ h => h) (by kernel_rfl) ?hyr11_14 (by omega) hH ?_
              case hyr11_14 => (intro w' hSw; replace hSw := S2o0 hSw; (try dsimp only at hSw); have q0 := hSw.1; have q1 := hSw.2; have d0_0 := (q0).s0; have d0_1 := (q0).s1; have d0_2 := (q0).s2; obtain ⟨b0_0, b0_1, b0_2, b0_3, b0_4, b0_5⟩ := cells_rw (q0).rl hkR HR.out; obtain ⟨qa1_0, qa1_1, qa1_2, qa1_3, qa1_4, qa1_5, qa1_6, qa1_7, qa1_8, qa1_9⟩ := id q1; go_simp; try (with_reducible rfl))
              simp only [List.set_cons_zero, List.set_cons_succ]
              refine U_take 15 113 5 0 0 (v := ?vr11_15) rfl (by kernel_rfl) (by kernel_rfl) hWr11 (by kernel_rfl) (by kernel_rfl) (by kernel_rfl) (by kernel_rfl) (by kernel_rfl) (by kernel_rfl) (fun _ _ _ _ h => h) (by kernel_rfl) ?hyr11_15 (by omega) hH ?_
              case hyr11_15 => (intro w' hSw; clear hSw; go_simp; try (with_reducible rfl))
              simp only [List.set_cons_zero, List.set_cons_succ]
              refine U_take 16 114 4 0 0 (v := ?vr11_16) rfl (by kernel_rfl) (by kernel_rfl) hWr11 (by kernel_rfl) (by kernel_rfl) (by kernel_rfl) (by kernel_rfl) (by kernel_rfl) (by kernel_rfl) (fun _ _ _ _ h => h) (by kernel_rfl) ?hyr11_16 (by omega) hH ?_
              case hyr11_16 => (intro w' hSw; replace hSw := S2o0 hSw; (try dsimp only at hSw); have q0 := hSw.1; have q1 := hSw.2; have d0_0 := (q0).s0; have d0_1 := (q0).s1; have d0_2 := (q0).s2; obtain ⟨b0_0, b0_1, b0_2, b0_3, b0_4, b0_5⟩ := cells_rw (q0).rl hkR HR.out; obtain ⟨qa1_0, qa1_1, qa1_2, qa1_3, qa1_4, qa1_5, qa1_6, qa1_7, qa1_8, qa1_9⟩ := id q1; go_simp; try (with_reducible rfl))
              simp only [List.set_cons_zero, List.set_cons_succ]
              refine wpAnyU_ready (rs := [6]) (by kernel_rfl) (by simp) ?_
              refine AllReadyU.cons 0 (by kernel_rfl) (o := _) rfl (fun K hK => ?_) AllReadyU.nil
              try clear hb
              go_simp
              (go_at_call 18; refine (HSC1.out _).mono ?_; rintro e wn ⟨rfl, hb⟩)
              refine hK.out _ _ ?hsr11_17 (fun hH2 => ?hrr11_17)
              case hsr11_17 => exact S2i0 (by have hG := hH; replace hG := S2o0 hG; (try dsimp only at hG); have q0 := hG.1; have q1 := hG.2; exact ⟨keepSr hb q0, keepCg hb q1⟩)
              clear hK K hH
              have hH := hH2
              clear hH2
              try simp only [Act.put, List.setIfInBounds_toArray, List.set_cons_zero, List.set_cons_succ]
              refine wpAnyU_ready (rs := [17]) (by kernel_rfl) (by simp) ?_
              refine AllReadyU.cons 0 (by kernel_rfl) (o := _) rfl (fun K hK => ?_) AllReadyU.nil
              try clear hb
              go_simp
              (go_at_call 18; refine (HSC2.out _).mono ?_; rintro e wn ⟨rfl, hb⟩)
              refine hK.out _ _ ?hsr11_18 (fun hH2 => ?hrr11_18)
              case hsr11_18 => exact S2i0 (by have hG := hH; replace hG := S2o0 hG; (try dsimp only at hG); have q0 := hG.1; have q1 := hG.2; exact ⟨keepSr hb q0, keepCg hb q1⟩)
              clear hK K hH
              have hH := hH2
              clear hH2
              try simp only [Act.put, List.setIfInBounds_toArray, List.set_cons_zero, List.set_cons_succ]
              refine wpAnyU_ready (rs := [18]) (by kernel_rfl) (by simp) ?_
              refine AllReadyU.cons 0 (by kernel_rfl) (o := _) rfl (fun K hK => ?_) AllReadyU.nil
              try clear hb
              go_simp
              (go_at_call 17; refine (HAD.out _).mono ?_; rintro e wn ⟨rfl, hb⟩)
              refine hK.out _ _ ?hsr11_19 (fun hH2 => ?hrr11_19)
              case hsr11_19 => exact S2i0 (by have hG := hH; replace hG := S2o0 hG; (try dsimp only at hG); have q0 := hG.1; have q1 := hG.2; exact ⟨keepSr hb q0, keepCg hb q1⟩)
              clear hK K hH
              have hH := hH2
              clear hH2
              try simp only [Act.put, List.setIfInBounds_toArray, List.set_cons_zero, List.set_cons_succ]
              refine wpAnyU_ready (rs := [19]) (by kernel_rfl) (by simp) ?_
              refine AllReadyU.cons 1 (by kernel_rfl) (o := _) rfl (fun K hK => ?_) AllReadyU.nil
              try clear hb
              have hG := hH
              replace hG := S2o0 hG; (try dsimp only at hG); have fq0 := hG.1; have fq1 := hG.2
              have HRX := hid fq0
              clear hG fq0 fq1
              go_simp
              (go_at_call 16; refine (HPSH.out _ HRX.out).mono ?_; rintro e wp ⟨L3, rfl, hbl3, hm3, hg3, hnw3⟩)
              refine hK.out _ _ ?hsr11_20 (fun hH2 => ?hrr11_20)
              case hsr11_20 => exact S2i1
              clear hK K hH
              have hH := hH2
              clear hH2
              try simp only [Act.put, List.setIfInBounds_toArray, List.set_cons_zero, List.set_cons_succ]
              have hl3 : L3.length = L2.length := by have h9 := congrArg List.length hm3; rw [List.length_map, HLK3.out.len, List.length_map] at h9; exact h9
              have HSR3 := hid (HRX.out.push hbl3 hl3 hg3 hnw3)
              have HM3 := hid hm3
              clear hl3 hbl3 hm3 hg3 hnw3 HRX
              refine wpAnyU_done (by kernel_rfl) ?_ _ _
              refine NoPanic.normal ?_
              go_wp2
              go_roundw
              case rel => exact ⟨k + 1, L3, by omega, by go_num, HSR3.out, by rw [HST.out]; exact HM3.out⟩
              case measure => simp [intOf] <;> omega
            · have hkn : k = C.length := by omega
              subst hkn
              obtain ⟨S0, hS0⟩ : ∃ S0 : List QB × List Ct, S0 = (warmTo Q C R C.length, C) := ⟨_, rfl⟩
              have HSOL : Hid (solveQ (L.map valB) C st rn = iterQ S0 R C.length (rn * C.length)) := by
                show _ = _
                unfold solveQ
                rw [← HLM.out, ← HREQ.out, ← HQL.out, ← hS0]
              have HOK0 : Hid (∀ m, Okay Q C.length (iterQ S0 R C.length m)) := fun m => iterQ_okay HBN.out ⟨by rw [hS0]; exact HWL.out _, by rw [hS0], by rw [hS0]; exact HCQ.out⟩ _ m
              have HM0 : Hid ((L2.map valB, C) = iterQ S0 R C.length (0 * C.length)) := by show _ = _; rw [Nat.zero_mul, hS0, HMP.out]; rfl
              clear hS0 hlt hk
              have HKB := hid hcR
              clear hcR
              go_wp2
              go_loopw [120] (fun i wr => ∃ (t : Nat) (L4 : List BE) (C4 : List Ct), t ≤ rn ∧ i = .int .i64 t ∧ Sr wB gs g gc gq cap cc cq L4 C4 R wr ∧ (L4.map valB, C4) = iterQ S0 R C.length (t * C.length)) (fun i _ => rn - (intOf i).toNat)
              case atStart => exact ⟨0, L2, C, Nat.zero_le _, rfl, HSR.out, HM0.out⟩
              case round =>
                clear HSR HMP HLK2 HV2 HL2 HM0 hl2b
                obtain ⟨t, L4, C4, ht, rfl, hsr, hit⟩ := hrel
                obtain ⟨wt, rfl⟩ : ∃ wt : World, wt = wr := ⟨_, rfl⟩
                have HSR4 := hid hsr
                have HIT := hid hit
                clear hsr hit
                have HOK4 := HOK0.out (t * C.length)
                rw [← HIT.out] at HOK4
                have hc4 : C4.length = C.length := HOK4.len
                have hl4 : L4.length = L'.length := by have h9 : (L4.map valB).length = Q.length := HOK4.like.len; rw [HQL.out, List.length_map, List.length_map] at h9; exact h9
                have HL4 : Hid (L4.length = L'.length ∧ C4.length = C.length) := ⟨hl4, hc4⟩
                clear HOK4 hl4
                have htw : IntKind.i64.wrap ((t : Int) + 1) = (t : Int) + 1 := IntWalk.i64_in _ (by omega)
                by_cases hlt : t < rn
                · have hlt' : (t : Int) < (rn : Int) := by omega
                  have k1 : wt.cell? ⟨gs, 1, none⟩ = some (.slice (some ⟨gc, 0, none⟩) C.length cc) := by rw [← hc4]; exact HSR4.out.s1
                  clear hc4
                  go_wp2
                  clear k1
                  go_loopw [127] (fun i wr => ∃ (m : Nat) (L5 : List BE) (C5 : List Ct), m ≤ C.length ∧ i = .int .i64 m ∧ Sr wB gs g gc gq cap cc cq L5 C5 R wr ∧ (L5.map valB, C5) = iterQ S0 R C.length (t * C.length + m)) (fun i _ => C.length - (intOf i).toNat)
                  case atStart => exact ⟨0, L4, C4, Nat.zero_le _, rfl, HSR4.out, by rw [Nat.add_zero]; exact HIT.out⟩
                  case round =>
                    clear HSR4 HIT HL4
                    obtain ⟨m, L5, C5, hm, rfl, hsr, hit⟩ := hrel
                    obtain ⟨wm, rfl⟩ : ∃ wm : World, wm = wr := ⟨_, rfl⟩
                    have HSR5 := hid hsr
                    have HIT5 := hid hit
                    clear hsr hit
                    have hmw : IntKind.i64.wrap ((m : Int) + 1) = (m : Int) + 1 := IntWalk.i64_in _ (by omega)
                    by_cases hltm : m < C.length
                    · have HOK5 := HOK0.out (t * C.length + m)
                      rw [← HIT5.out] at HOK5
                      have hc5 : C5.length = C.length := HOK5.len
                      have hlk5 : LikeL (L'.map valB) (L5.map valB) := by have h9 := HOK5.like; rw [HQL.out] at h9; exact h9
                      have hv5 := like_valid hlk5 HVL'.out
                      have hl5 : L5.length = L'.length := by have h9 := hlk5.len; rw [List.length_map, List.length_map] at h9; exact h9
                      have hm5 : m < C5.length := by omega
                      obtain ⟨x, hx⟩ : ∃ x, x = C5[m] := ⟨_, rfl⟩
                      have hcx : C5[m]? = some x := by rw [List.getElem?_eq_getElem hm5, hx]
                      have hok : CtOk L5.length x := by have h9 := HOK5.ok x (by rw [hx]; exact List.getElem_mem hm5); rw [HQL.out, List.length_map] at h9; rw [hl5]; exact h9
                      have hmR : m < R.length := by rw [HKB.out]; exact hltm
                      obtain ⟨r, hr⟩ : ∃ r, r = R[m] := ⟨_, rfl⟩
                      obtain ⟨ka, hxa⟩ : ∃ ka : Nat, x.a = ka := ⟨x.a.toNat, by have := hok.1; omega⟩
                      obtain ⟨kb, hxb⟩ : ∃ kb : Nat, x.b = kb := ⟨x.b.toNat, by have := hok.1; omega⟩
                      have HRND := hid (sround_calls gs g gc gq cap cc cq m ka kb L5 C5 R x r wm HSR5.out.self hv5 (by omega) hok hm5 hcx hmR hr (HBN.out r (by rw [hr]; exact List.getElem_mem hmR)) hxa hxb (by omega) hcq)
                      have HSTP : Hid (iterQ S0 R C.length (t * C.length + (m + 1)) = ((roundQ (L5.map valB) x r).1, C5.set m (roundQ (L5.map valB) x r).2)) := by
                        show _ = _
                        rw [← Nat.add_assoc, iterQ_add S0 R t hltm, ← HIT5.out, stepQ_eq (S := (L5.map valB, C5)) (r := r) hcx (by rw [List.getElem?_eq_getElem hmR, hr])]
                      have hltm' : (m : Int) < (C.length : Int) := by omega
                      clear HOK5 hc5 hlk5 hv5 hl5 hm5 hx hcx hok hmR hr hxa hxb HIT5
                      go_wp2_with fail
                      refine HRND.out.mono ?_
                      rintro e wn ⟨L6, C6, rfl, hsr6, hq6, hc6⟩
                      have HSR6 := hid (HSR5.out.rebase hsr6)
                      have HIT6 : Hid ((L6.map valB, C6) = iterQ S0 R C.length (t * C.length + (m + 1))) := by show _ = _; rw [HSTP.out, hq6, hc6]
                      clear hsr6 hq6 hc6 HRND HSR5 HSTP
                      go_wp2
                      go_roundw
                      case rel => exact ⟨m + 1, L6, C6, by omega, by go_num, HSR6.out, HIT6.out⟩
                      case measure => simp [intOf] <;> omega
                    · have hmn : m = C.length := by omega
                      subst hmn
                      have HIT6 : Hid ((L5.map valB, C5) = iterQ S0 R C.length ((t + 1) * C.length)) := by show _ = _; rw [HIT5.out, Nat.succ_mul]
                      clear HIT5
                      go_wp2
                      go_roundw
                      case rel => exact ⟨t + 1, L5, C5, by omega, by go_num, HSR5.out, HIT6.out⟩
                      case measure => simp [intOf] <;> omega
                · have htn : t = rn := by omega
                  subst htn
                  have HFIN : Hid (srunS L C st t = (L4.map valB, C4)) := by show _ = _; rw [HRQ.out, HSOL.out, ← HIT.out]
                  clear hc4 HIT HSOL
                  go_upto_region 31 with fail
                  refine wp_region_noPanic ?_
                  refine wp_region_U (S := (S2 (fun w' => Sr wB gs g gc gq cap cc cq L4 C4 R w'))) (T := (fun _ => 0)) (by kernel_rfl) (S2i0 HSR4.out.drew) (fun hH => ?_)
                  have hWr12 : Weaker (S2 (fun w' => Sr wB gs g gc gq cap cc cq L4 C4 R w')) := weaker2 _
                  refine U_take 0 135 10 0 0 (v := ?vr12_1) rfl (by kernel_rfl) (by kernel_rfl) hWr12 (by kernel_rfl) (by kernel_rfl) (by kernel_rfl) (by kernel_rfl) (by kernel_rfl) (by kernel_rfl) (fun _ _ _ _ h => h) (by kernel_rfl) ?hyr12_1 (by omega) hH ?_
                  case hyr12_1 => (intro w' hSw; clear hSw; go_simp; try (with_reducible rfl))
                  simp only [List.set_cons_zero, List.set_cons_succ]
                  refine U_take 1 136 9 0 0 (v := ?vr12_2) rfl (by kernel_rfl) (by kernel_rfl) hWr12 (by kernel_rfl) (by kernel_rfl) (by kernel_rfl) (by kernel_rfl) (by kernel_rfl) (by kernel_rfl) (fun _ _ _ _ h => h) (by kernel_rfl) ?hyr12_2 (by omega) hH ?_
                  case hyr12_2 => (intro w' hSw; clear hSw; go_simp; try (with_reducible rfl))
                  simp only [List.set_cons_zero, List.set_cons_succ]
                  refine U_take 2 137 8 0 0 (v := ?vr12_3) rfl (by kernel_rfl) (by kernel_rfl) hWr12 (by kernel_rfl) (by kernel_rfl) (by kernel_rfl) (by kernel_rfl) (by kernel_rfl) (by kernel_rfl) (fun _ _ _ _ h => h) (by kernel_rfl) ?hyr12_3 (by omega) hH ?_
                  case hyr12_3 => (intro w' hSw; clear hSw; go_simp; try (with_reducible rfl))
                  simp only [List.set_cons_zero, List.set_cons_succ]
                  refine U_take 3 138 7 0 0 (v := ?vr12_4) rfl (by kernel_rfl) (by kernel_rfl) hWr12 (by kernel_rfl) (by kernel_rfl) (by kernel_rfl) (by kernel_rfl) (by kernel_rfl) (by kernel_rfl) (fun _ _ _ _ h => h) (by kernel_rfl) ?hyr12_4 (by omega) hH ?_
                  case hyr12_4 => (intro w' hSw; replace hSw := S2o0 hSw; (try dsimp only at hSw); have q0 := hSw; have d0_0 := (q0).s0; have d0_1 := (q0).s1; have d0_2 := (q0).s2; go_simp; try (with_reducible rfl))
                  simp only [List.set_cons_zero, List.set_cons_succ]
                  refine U_take 4 139 6 0 0 (v := ?vr12_5) rfl (by kernel_rfl) (by kernel_rfl) hWr12 (by kernel_rfl) (by kernel_rfl) (by kernel_rfl) (by kernel_rfl) (by kernel_rfl) (by kernel_rfl) (fun _ _ _ _ h => h) (by kernel_rfl) ?hyr12_5 (by omega) hH ?_
                  case hyr12_5 => (intro w' hSw; clear hSw; go_simp; try (with_reducible rfl))
                  simp only [List.set_cons_zero, List.set_cons_succ]
                  refine U_take 5 140 5 0 0 (v := ?vr12_6) rfl (by kernel_rfl) (by kernel_rfl) hWr12 (by kernel_rfl) (by kernel_rfl) (by kernel_rfl) (by kernel_rfl) (by kernel_rfl) (by kernel_rfl) (fun _ _ _ _ h => h) (by kernel_rfl) ?hyr12_6 (by omega) hH ?_
                  case hyr12_6 => (intro w' hSw; clear hSw; go_simp; try (with_reducible rfl))
                  simp only [List.set_cons_zero, List.set_cons_succ]
                  refine U_take 6 141 4 0 0 (v := ?vr12_7) rfl (by kernel_rfl) (by kernel_rfl) hWr12 (by kernel_rfl) (by kernel_rfl) (by kernel_rfl) (by kernel_rfl) (by kernel_rfl) (by kernel_rfl) (fun _ _ _ _ h => h) (by kernel_rfl) ?hyr12_7 (by omega) hH ?_
                  case hyr12_7 => (intro w' hSw; clear hSw; go_simp; try (with_reducible rfl))
                  simp only [List.set_cons_zero, List.set_cons_succ]
                  refine U_take 7 142 3 0 0 (v := ?vr12_8) rfl (by kernel_rfl) (by kernel_rfl) hWr12 (by kernel_rfl) (by kernel_rfl) (by kernel_rfl) (by kernel_rfl) (by kernel_rfl) (by kernel_rfl) (fun _ _ _ _ h => h) (by kernel_rfl) ?hyr12_8 (by omega) hH ?_
                  case hyr12_8 => (intro w' hSw; replace hSw := S2o0 hSw; (try dsimp only at hSw); have q0 := hSw; have d0_0 := (q0).s0; have d0_1 := (q0).s1; have d0_2 := (q0).s2; go_simp; try (with_reducible rfl))
                  simp only [List.set_cons_zero, List.set_cons_succ]
                  refine U_take 8 8 2 0 0 (v := ?vr12_9) rfl (by kernel_rfl) (by kernel_rfl) hWr12 (by kernel_rfl) (by kernel_rfl) (by kernel_rfl) (by kernel_rfl) (by kernel_rfl) (by kernel_rfl) (fun _ _ _ _ h => h) (by kernel_rfl) ?hyr12_9 (by omega) hH ?_
                  case hyr12_9 => (intro w' hSw; clear hSw; go_simp; try (with_reducible rfl))
                  simp only [List.set_cons_zero, List.set_cons_succ]
                  refine U_take 9 9 1 0 0 (v := ?vr12_10) rfl (by kernel_rfl) (by kernel_rfl) hWr12 (by kernel_rfl) (by kernel_rfl) (by kernel_rfl) (by kernel_rfl) (by kernel_rfl) (by kernel_rfl) (fun _ _ _ _ h => h) (by kernel_rfl) ?hyr12_10 (by omega) hH ?_
                  case hyr12_10 => (intro w' hSw; clear hSw; go_simp; try (with_reducible rfl))
                  simp only [List.set_cons_zero, List.set_cons_succ]
                  refine U_take 10 10 0 0 0 (v := ?vr12_11) rfl (by kernel_rfl) (by kernel_rfl) hWr12 (by kernel_rfl) (by kernel_rfl) (by kernel_rfl) (by kernel_rfl) (by kernel_rfl) (by kernel_rfl) (fun _ _ _ _ h => h) (by kernel_rfl) ?hyr12_11 (by omega) hH ?_
                  case hyr12_11 => (intro w' hSw; clear hSw; go_simp; try (with_reducible rfl))
                  simp only [List.set_cons_zero, List.set_cons_succ]
                  refine wpAnyU_done (by kernel_rfl) ?_ _ _
                  refine NoPanic.normal ?_
                  clear hWr12
                  replace hH := S2o0 hH
                  (try dsimp only at hH)
                  have t0 := hH
                  have HSR5 := hid t0
                  clear t0 hH
                  go_wp2
                  exact bodyPost_ret (v := .tuple #[.slice (some ⟨g, 0, none⟩) L4.length cap, .slice (some ⟨gc, 0, none⟩) C4.length cc, .int .i64 0]) (by simp [results, Try.results7, go_sem]) rfl ⟨some ⟨g, 0, none⟩, some ⟨gc, 0, none⟩, L4.length, cap, C4.length, cc, L4, by rw [HRE.out], ⟨⟨rfl, by rw [HL4.out.1]; exact hcap1, by unfold maxLen at hcap2; omega, fun _ => ⟨g, 0, rfl, HSR5.out.bl.cl⟩⟩, HSR5.out.bl.co⟩, by rw [HFIN.out]; exact ⟨rfl, by rw [HL4.out.2]; exact hccap, hcbig, fun _ => ⟨gc, 0, rfl, HSR5.out.cl⟩⟩, by rw [HFIN.out], HBB.out _ HSR5.out.gr⟩
end
end Go.Proofs.Ytkiiehobphkmgaa
