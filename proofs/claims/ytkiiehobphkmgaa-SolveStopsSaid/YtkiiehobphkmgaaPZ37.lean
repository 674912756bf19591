/- Parts of a proof: contracts and laws. -/
import Derived.Test.YtkiiehobphkmgaaPZ36
namespace Go.Proofs.Ytkiiehobphkmgaa
section
set_option linter.unusedVariables false
set_option linter.unusedSimpArgs false
open Go.RowKit
def encR (x : Rw) : List Value := [.int .i64 x.t1, .int .i64 x.t2, .int .i64 x.ease, .int .i64 x.slip, .int .i64 x.lift, .int .i64 x.bound]
def layR : Lay Rw := ⟨encR, 6, fun _ => rfl, fun x v hv => by simp only [encR, List.mem_cons, List.mem_nil_iff, or_false] at hv; rcases hv with rfl | rfl | rfl | rfl | rfl | rfl <;> rfl, by omega⟩
theorem cells_rw {w : World} {g i : Nat} {l : List Rw} {x : Rw} (h : CellsE layR w g 0 l) (hk : i < l.length) (hx : x = l[i]) : w.cell? ⟨g, i * 6, none⟩ = some (.int .i64 x.t1) ∧ w.cell? ⟨g, i * 6 + 1, none⟩ = some (.int .i64 x.t2) ∧ w.cell? ⟨g, i * 6 + 2, none⟩ = some (.int .i64 x.ease) ∧ w.cell? ⟨g, i * 6 + 3, none⟩ = some (.int .i64 x.slip) ∧ w.cell? ⟨g, i * 6 + 4, none⟩ = some (.int .i64 x.lift) ∧ w.cell? ⟨g, i * 6 + 5, none⟩ = some (.int .i64 x.bound) := by
  subst hx
  have H : ∀ j v, (encR l[i])[j]? = some v → w.cell? ⟨g, i * 6 + j, none⟩ = some v := fun j v hv => by have h2 : w.cell? ⟨g, 0 + i * 6 + j, none⟩ = some v := h.at_ i hk j v hv; rwa [Nat.zero_add] at h2
  exact ⟨H 0 _ rfl, H 1 _ rfl, H 2 _ rfl, H 3 _ rfl, H 4 _ rfl, H 5 _ rfl⟩
theorem cells_ct0 {w : World} {g i : Nat} {l : List Ct} {x : Ct} (h : CellsE layC w g 0 l) (hk : i < l.length) (hx : l[i]? = some x) : w.cell? ⟨g, i * 10, none⟩ = some (.int .i64 x.a) ∧ w.cell? ⟨g, i * 10 + 1, none⟩ = some (.int .i64 x.b) ∧ w.cell? ⟨g, i * 10 + 2, none⟩ = some (.int .i64 x.id) ∧ w.cell? ⟨g, i * 10 + 3, none⟩ = some (.int .i64 x.px) ∧ w.cell? ⟨g, i * 10 + 4, none⟩ = some (.int .i64 x.py) ∧ w.cell? ⟨g, i * 10 + 5, none⟩ = some (.int .i64 x.nx) ∧ w.cell? ⟨g, i * 10 + 6, none⟩ = some (.int .i64 x.ny) ∧ w.cell? ⟨g, i * 10 + 7, none⟩ = some (.int .i64 x.dep) ∧ w.cell? ⟨g, i * 10 + 8, none⟩ = some (.int .i64 x.push) ∧ w.cell? ⟨g, i * 10 + 9, none⟩ = some (.int .i64 x.sli) := by
  have hx : l[i] = x := by rw [List.getElem?_eq_getElem hk] at hx; exact Option.some.inj hx
  subst hx
  have H : ∀ j v, (encC l[i])[j]? = some v → w.cell? ⟨g, i * 10 + j, none⟩ = some v := fun j v hv => by have h2 : w.cell? ⟨g, 0 + i * 10 + j, none⟩ = some v := h.at_ i hk j v hv; rwa [Nat.zero_add] at h2
  exact ⟨H 0 _ rfl, H 1 _ rfl, H 2 _ rfl, H 3 _ rfl, H 4 _ rfl, H 5 _ rfl, H 6 _ rfl, H 7 _ rfl, H 8 _ rfl, H 9 _ rfl⟩
theorem Rz.here (w : World) (t : TypeId) : Rz (w.alloc (.cells #[.int .i64 0, .int .i64 0, .int .i64 0, .int .i64 0, .int .i64 0, .int .i64 0] t)) w.heap.size := ⟨fun j hj => match j, hj with | 0, _ | 1, _ | 2, _ | 3, _ | 4, _ | 5, _ => ⟨.int .i64 0, by go_simp⟩, fun j => by go_simp⟩
theorem Rz.drew {w : World} {g : Nat} (h : Rz w g) : Rz w.drew g := ⟨h.c, h.free⟩
theorem Rg.next {w w' : World} {g k : Nat} {a0 a1 a2 a3 a4 a5 : Int} (h : Rg w g a0 a1 a2 a3 a4 a5) (hg : w.grownBy w' (some k)) (hne : g ≠ k) : Rg w' g a0 a1 a2 a3 a4 a5 :=
  have e := hg.block g (lt_of_cell h.c0) (by simpa using hne)
  ⟨(World.cell?_of_block e).trans h.c0, (World.cell?_of_block e).trans h.c1, (World.cell?_of_block e).trans h.c2, (World.cell?_of_block e).trans h.c3, (World.cell?_of_block e).trans h.c4, (World.cell?_of_block e).trans h.c5, fun j => (World.frozen?_of_block e).trans (h.f j)⟩

structure Gr2 (w w' : World) (g c : Nat) : Prop where
  os : w'.os = w.os
  tape : w'.tape = w.tape
  output : w'.output = w.output
  size : w.heap.size ≤ w'.heap.size
  block : ∀ k, k < w.heap.size → k ≠ g → k ≠ c → w'.heap[k]? = w.heap[k]?
theorem Gr2.refl (w : World) (g c : Nat) : Gr2 w w g c := ⟨rfl, rfl, rfl, Nat.le_refl _, fun _ _ _ _ => rfl⟩
theorem Gr2.step {a b d : World} {g c : Nat} (h : Gr2 a b g c) {k : Nat} (hg : b.grownBy d (some k)) (hk : k = g ∨ k = c) : Gr2 a d g c :=
  ⟨hg.os.trans h.os, hg.tape.trans h.tape, hg.output.trans h.output, Nat.le_trans h.size hg.size, fun j hj h1 h2 => (hg.block j (Nat.lt_of_lt_of_le hj h.size) (by simp; omega)).trans (h.block j hj h1 h2)⟩
theorem Gr2.below {a b d : World} {g c : Nat} (h : Gr2 a b g c) (hb : Below b.heap.size b d) : Gr2 a d g c :=
  ⟨hb.os.trans h.os, hb.tape.trans h.tape, hb.output.trans h.output, Nat.le_trans h.size hb.size, fun j hj h1 h2 => (hb.block j (Nat.lt_of_lt_of_le hj h.size)).trans (h.block j hj h1 h2)⟩
theorem Gr2.setc {a b : World} {g c : Nat} (h : Gr2 a b g c) (o : Nat) (v : Value) : Gr2 a (b.setCell ⟨c, o, none⟩ v) g c := h.step (grown_setCell b c o v) (.inr rfl)
theorem Gr2.off {a b : World} {g c k : Nat} (h : Gr2 a b g c) (o : Nat) (v : Value) (hk : a.heap.size ≤ k) : Gr2 a (b.setCell ⟨k, o, none⟩ v) g c :=
  have hg := grown_setCell b k o v
  ⟨hg.os.trans h.os, hg.tape.trans h.tape, hg.output.trans h.output, Nat.le_trans h.size hg.size, fun j hj h1 h2 => (hg.block j (Nat.lt_of_lt_of_le hj h.size) (by simp; omega)).trans (h.block j hj h1 h2)⟩

structure Sr (w0 : World) (gs g gc gq cap cc cq : Nat) (L : List BE) (C : List Ct) (R : List Rw) (w : World) : Prop where
  s0 : w.cell? ⟨gs, 0, none⟩ = some (.slice (some ⟨g, 0, none⟩) L.length cap)
  s1 : w.cell? ⟨gs, 1, none⟩ = some (.slice (some ⟨gc, 0, none⟩) C.length cc)
  s2 : w.cell? ⟨gs, 2, none⟩ = some (.slice (some ⟨gq, 0, none⟩) R.length cq)
  bl : BL w g L
  cl : CellsE layC w gc 0 C
  cf : ∀ j, w.frozen? ⟨gc, j, none⟩ = false
  rl : CellsE layR w gq 0 R
  nc : ∀ y ∈ L, ∀ bx off, y.A = some ⟨bx, off, none⟩ → bx ≠ gc
  gr : Gr2 w0 w g gc
  lt : g < w0.heap.size ∧ gc < w0.heap.size ∧ gq < w0.heap.size ∧ gs < w0.heap.size
  ne : g ≠ gc ∧ g ≠ gs ∧ gc ≠ gs ∧ g ≠ gq ∧ gc ≠ gq
section
variable {w0 w w' : World} {gs g gc gq cap cc cq : Nat} {L : List BE} {C : List Ct} {R : List Rw}
theorem keepSr (hb : Below w.heap.size w w') (h : Sr w0 gs g gc gq cap cc cq L C R w) : Sr w0 gs g gc gq cap cc cq L C R w' :=
  ⟨keepCell hb h.s0, keepCell hb h.s1, keepCell hb h.s2, keepBL hb h.bl, h.cl.below hb, fun j => ((bcell hb).2 _ _ h.cl.lt).trans (h.cf j), h.rl.below hb, h.nc, h.gr.below hb, h.lt, h.ne⟩
theorem Sr.drew (h : Sr w0 gs g gc gq cap cc cq L C R w) : Sr w0 gs g gc gq cap cc cq L C R w.drew := keepSr (Below.refl _ _).drew h
theorem Sr.alloc (h : Sr w0 gs g gc gq cap cc cq L C R w) (o : Obj) : Sr w0 gs g gc gq cap cc cq L C R (w.alloc o) := keepSr ((Below.refl _ _).alloc (Nat.le_refl _) _) h
theorem Sr.off {k o : Nat} {v : Value} (h : Sr w0 gs g gc gq cap cc cq L C R w) (hk : w0.heap.size ≤ k) (hn : ∀ y ∈ L, ∀ bx off, y.A = some ⟨bx, off, none⟩ → bx ≠ k) : Sr w0 gs g gc gq cap cc cq L C R (w.setCell ⟨k, o, none⟩ v) := by
  obtain ⟨l1, l2, l3, l4⟩ := h.lt
  exact ⟨far1 (by omega) h.s0, far1 (by omega) h.s1, far1 (by omega) h.s2, h.bl.off (by omega) hn, ⟨by simp; exact h.cl.lt, fun j hj i u hu => far1 (by omega) (h.cl.at_ j hj i u hu)⟩, fun j => by rw [World.frozen?_setCell]; exact h.cf j, ⟨by simp; exact h.rl.lt, fun j hj i u hu => far1 (by omega) (h.rl.at_ j hj i u hu)⟩, h.nc, h.gr.off _ _ hk, h.lt, h.ne⟩
theorem Sr.push {L2 : List BE} (h : Sr w0 gs g gc gq cap cc cq L C R w) (hbl : BL w' g L2) (hl : L2.length = L.length) (hg : w.grownBy w' (some g)) (hn : ∀ y ∈ L2, y ∈ L ∨ ∀ bx off, y.A = some ⟨bx, off, none⟩ → w.heap.size ≤ bx) : Sr w0 gs g gc gq cap cc cq L2 C R w' := by
  obtain ⟨l1, l2, l3, l4⟩ := h.lt
  obtain ⟨n1, n2, n3, n4, n5⟩ := h.ne
  have hs := h.gr.size
  have e : ∀ k, k < w0.heap.size → k ≠ g → w'.heap[k]? = w.heap[k]? := fun k hk hne => hg.block k (by omega) (by simpa using hne)
  have ec := e gc l2 (by omega)
  have eq := e gq l3 (by omega)
  have es := e gs l4 (by omega)
  refine ⟨by rw [hl]; exact (World.cell?_of_block es).trans h.s0, (World.cell?_of_block es).trans h.s1, (World.cell?_of_block es).trans h.s2, hbl, ⟨Nat.lt_of_lt_of_le h.cl.lt hg.size, fun j hj i u hu => (World.cell?_of_block ec).trans (h.cl.at_ j hj i u hu)⟩, fun j => (World.frozen?_of_block ec).trans (h.cf j), ⟨Nat.lt_of_lt_of_le h.rl.lt hg.size, fun j hj i u hu => (World.cell?_of_block eq).trans (h.rl.at_ j hj i u hu)⟩, fun y hy bx off e2 => ?_, h.gr.step hg (.inl rfl), h.lt, h.ne⟩
  rcases hn y hy with q | q
  · exact h.nc y q bx off e2
  · have := q bx off e2; omega
theorem Sr.setsli {i : Nat} {x : Ct} (h : Sr w0 gs g gc gq cap cc cq L C R w) (hi : i < C.length) (hx : C[i]? = some x) (v : Int) : Sr w0 gs g gc gq cap cc cq L (C.set i { x with sli := v }) R (w.setCell ⟨gc, i * 10 + 9, none⟩ (.int .i64 v)) := by
  obtain ⟨n1, n2, n3, n4, n5⟩ := h.ne
  refine ⟨far1 (by omega) h.s0, by rw [List.length_set]; exact far1 (by omega) h.s1, far1 (by omega) h.s2, h.bl.off (by omega) h.nc, ⟨by simp; exact h.cl.lt, fun j hj k u hu => ?_⟩, fun j => by rw [World.frozen?_setCell]; exact h.cf j, ⟨by simp; exact h.rl.lt, fun j hj k u hu => far1 (by omega) (h.rl.at_ j hj k u hu)⟩, h.nc, h.gr.setc _ _, h.lt, h.ne⟩
  have hlen : ∀ x : Ct, (encC x).length = 10 := fun _ => rfl
  have hxi : C[i] = x := by rw [List.getElem?_eq_getElem hi] at hx; exact Option.some.inj hx
  have hj' : j < C.length := by simpa using hj
  by_cases e : j = i
  · subst e
    have hu : (encC { x with sli := v })[k]? = some u := by have hu2 : (encC (C.set j { x with sli := v })[j])[k]? = some u := hu; rwa [List.getElem_set_self] at hu2
    show (w.setCell ⟨gc, j * 10 + 9, none⟩ (.int .i64 v)).cell? ⟨gc, 0 + j * 10 + k, none⟩ = some u
    rw [Nat.zero_add]
    by_cases e2 : k = 9
    · subst e2
      have hu : some (Value.int .i64 v) = some u := hu
      cases hu
      have h2 := h.cl.at_ j hj' 9 _ (show (encC C[j])[9]? = some (.int .i64 C[j].sli) from rfl)
      rw [Nat.zero_add] at h2
      exact cell_set_eq h2
    · have hu2 : (encC C[j])[k]? = some u := by
        rw [hxi]
        have hk : k < 10 := by
          rcases Nat.lt_or_ge k 10 with q | q
          · exact q
          · rw [List.getElem?_eq_none (by rw [hlen]; exact q)] at hu; cases hu
        rw [← hu]
        match k, hk, e2 with
        | 0, _, _ | 1, _, _ | 2, _, _ | 3, _, _ | 4, _, _ | 5, _, _ | 6, _, _ | 7, _, _ | 8, _, _ => rfl
        | 9, _, e2 => exact (e2 rfl).elim
      have h2 : w.cell? ⟨gc, 0 + j * 10 + k, none⟩ = some u := h.cl.at_ j hj' k u hu2
      rw [Nat.zero_add] at h2
      exact cell_set_ne h2 (by omega)
  · have hu : (encC C[j])[k]? = some u := by have hu2 : (encC (C.set i { x with sli := v })[j])[k]? = some u := hu; rwa [List.getElem_set_ne (by omega)] at hu2
    have hk : k < 10 := by
      rcases Nat.lt_or_ge k 10 with q | q
      · exact q
      · rw [List.getElem?_eq_none (by rw [hlen]; exact q)] at hu; cases hu
    have h2 : w.cell? ⟨gc, 0 + j * 10 + k, none⟩ = some u := h.cl.at_ j hj' k u hu
    show (w.setCell ⟨gc, i * 10 + 9, none⟩ (.int .i64 v)).cell? ⟨gc, 0 + j * 10 + k, none⟩ = some u
    exact cell_set_ne h2 (by omega)
theorem Sr.setpush {i : Nat} {x : Ct} (h : Sr w0 gs g gc gq cap cc cq L C R w) (hi : i < C.length) (hx : C[i]? = some x) (v : Int) : Sr w0 gs g gc gq cap cc cq L (C.set i { x with push := v }) R (w.setCell ⟨gc, i * 10 + 8, none⟩ (.int .i64 v)) := by
  obtain ⟨n1, n2, n3, n4, n5⟩ := h.ne
  refine ⟨far1 (by omega) h.s0, by rw [List.length_set]; exact far1 (by omega) h.s1, far1 (by omega) h.s2, h.bl.off (by omega) h.nc, ⟨by simp; exact h.cl.lt, fun j hj k u hu => ?_⟩, fun j => by rw [World.frozen?_setCell]; exact h.cf j, ⟨by simp; exact h.rl.lt, fun j hj k u hu => far1 (by omega) (h.rl.at_ j hj k u hu)⟩, h.nc, h.gr.setc _ _, h.lt, h.ne⟩
  have hlen : ∀ x : Ct, (encC x).length = 10 := fun _ => rfl
  have hxi : C[i] = x := by rw [List.getElem?_eq_getElem hi] at hx; exact Option.some.inj hx
  have hj' : j < C.length := by simpa using hj
  by_cases e : j = i
  · subst e
    have hu : (encC { x with push := v })[k]? = some u := by have hu2 : (encC (C.set j { x with push := v })[j])[k]? = some u := hu; rwa [List.getElem_set_self] at hu2
    show (w.setCell ⟨gc, j * 10 + 8, none⟩ (.int .i64 v)).cell? ⟨gc, 0 + j * 10 + k, none⟩ = some u
    rw [Nat.zero_add]
    by_cases e2 : k = 8
    · subst e2
      have hu : some (Value.int .i64 v) = some u := hu
      cases hu
      have h2 := h.cl.at_ j hj' 8 _ (show (encC C[j])[8]? = some (.int .i64 C[j].push) from rfl)
      rw [Nat.zero_add] at h2
      exact cell_set_eq h2
    · have hu2 : (encC C[j])[k]? = some u := by
        rw [hxi]
        have hk : k < 10 := by
          rcases Nat.lt_or_ge k 10 with q | q
          · exact q
          · rw [List.getElem?_eq_none (by rw [hlen]; exact q)] at hu; cases hu
        rw [← hu]
        match k, hk, e2 with
        | 0, _, _ | 1, _, _ | 2, _, _ | 3, _, _ | 4, _, _ | 5, _, _ | 6, _, _ | 7, _, _ | 9, _, _ => rfl
        | 8, _, e2 => exact (e2 rfl).elim
      have h2 : w.cell? ⟨gc, 0 + j * 10 + k, none⟩ = some u := h.cl.at_ j hj' k u hu2
      rw [Nat.zero_add] at h2
      exact cell_set_ne h2 (by omega)
  · have hu : (encC C[j])[k]? = some u := by have hu2 : (encC (C.set i { x with push := v })[j])[k]? = some u := hu; rwa [List.getElem_set_ne (by omega)] at hu2
    have hk : k < 10 := by
      rcases Nat.lt_or_ge k 10 with q | q
      · exact q
      · rw [List.getElem?_eq_none (by rw [hlen]; exact q)] at hu; cases hu
    have h2 : w.cell? ⟨gc, 0 + j * 10 + k, none⟩ = some u := h.cl.at_ j hj' k u hu
    show (w.setCell ⟨gc, i * 10 + 8, none⟩ (.int .i64 v)).cell? ⟨gc, 0 + j * 10 + k, none⟩ = some u
    exact cell_set_ne h2 (by omega)
end
def RetRnd (w0 : World) (gs g gc gq cap cc cq : Nat) (L : List BE) (C : List Ct) (R : List Rw) (i : Nat) (S : List QB × Ct) (e : Ending) (w' : World) : Prop := ∃ (L' : List BE) (C' : List Ct), e = .returned (.tuple #[]) ∧ Sr w0 gs g gc gq cap cc cq L' C' R w' ∧ L'.map valB = S.1 ∧ C' = C.set i S.2
set_option maxRecDepth 100000 in
set_option maxHeartbeats 32000000 in
theorem sround_calls (gs g gc gq cap cc cq i ka kb : Nat) (L : List BE) (C : List Ct) (R : List Rw) (x : Ct) (r : Rw) (w : World) (h : Sr w gs g gc gq cap cc cq L C R w) (hv : ∀ y ∈ L, bodyE y.b y.l = 0) (h64 : L.length ≤ 64) (hok : CtOk L.length x) (hi : i < C.length) (hx : C[i]? = some x) (hir : i < R.length) (hr : r = R[i]'hir) (hb : 0 ≤ r.bound) (hxa : x.a = ka) (hxb : x.b = kb) (hcc : C.length ≤ cc) (hcq : R.length ≤ cq) :
    Calls Try.prog 19 #[.pointer (some ⟨gs, 0, none⟩), .int .i64 i] w (RetRnd w gs g gc gq cap cc cq L C R i (roundQ (L.map valB) x r)) := by
  have hab : ka < kb := by have := hok.1; omega
  have HKL : Hid (ka < L.length ∧ kb < L.length ∧ L.length ≤ 64) := by have := hok.1; show _ ∧ _ ∧ _; omega
  have HGS := hid h.ne.2.1
  have HVL := hid hv
  have HOKx := hid hok
  have HXx : Hid (x.a = ka ∧ x.b = kb) := ⟨hxa, hxb⟩
  have HIx : Hid (i < C.length ∧ C[i]? = some x) := ⟨hi, hx⟩
  have HR := hid hr
  have HBN := hid hb
  have HC0 : Hid (C = C.set i x) := by
    have hxi : C[i] = x := by rw [List.getElem?_eq_getElem hi] at hx; exact Option.some.inj hx
    show _ = _
    rw [← hxi, List.set_getElem_self]
  have hxl : ∀ {y : BE}, y ∈ L → y.l ≠ [] := fun {y} hy e => by have := hv y hy; rw [e] at this; exact absurd (bodyE_zero this).1 (by decide)
  have HLO : Hid (∀ y ∈ L, ∀ bx off, y.A = some ⟨bx, off, none⟩ → bx < w.heap.size) := fun y hy => sl_lt (h.bl.co y hy) (hxl hy)
  have HSR := hid h
  have hic : (i : Int) < (C.length : Int) := by omega
  have hirc : (i : Int) < (R.length : Int) := by omega
  clear h hv hok hx hr hb hxa hxb hxl hi h64
  go_enter Try.func19, Try.ntmps19
  go_upto_region 0 with fail
  refine wp_region_noPanic ?_
  refine wp_region_U (S := (S2 (fun w' => Sr w gs g gc gq cap cc cq L C R w'))) (T := (fun j => [0, 0, 0, 0, 0, 0, 0, 0, 0, 0, 0, 0, 0, 0, 0, 1].getD j 0)) (by kernel_rfl) (S2i0 HSR.out.drew) (fun hH => ?_)
  have hWr11 : Weaker (S2 (fun w' => Sr w gs g gc gq cap cc cq L C R w')) := weaker2 _
  refine U_take 0 9 15 0 0 (v := ?vr11_1) rfl (by kernel_rfl) (by kernel_rfl) hWr11 (by kernel_rfl) (by kernel_rfl) (by kernel_rfl) (by kernel_rfl) (by kernel_rfl) (by kernel_rfl) (fun _ _ _ _ h => h) (by kernel_rfl) ?hyr11_1 (by omega) hH ?_
  case hyr11_1 => (intro w' hSw; clear hSw; go_simp; try (with_reducible rfl))
  simp only [List.set_cons_zero, List.set_cons_succ]
  refine U_take 1 10 14 0 0 (v := ?vr11_2) rfl (by kernel_rfl) (by kernel_rfl) hWr11 (by kernel_rfl) (by kernel_rfl) (by kernel_rfl) (by kernel_rfl) (by kernel_rfl) (by kernel_rfl) (fun _ _ _ _ h => h) (by kernel_rfl) ?hyr11_2 (by omega) hH ?_
  case hyr11_2 => (intro w' hSw; clear hSw; go_simp; try (with_reducible rfl))
  simp only [List.set_cons_zero, List.set_cons_succ]
  refine U_take 2 11 13 0 0 (v := ?vr11_3) rfl (by kernel_rfl) (by kernel_rfl) hWr11 (by kernel_rfl) (by kernel_rfl) (by kernel_rfl) (by kernel_rfl) (by kernel_rfl) (by kernel_rfl) (fun _ _ _ _ h => h) (by kernel_rfl) ?hyr11_3 (by omega) hH ?_
  case hyr11_3 => (intro w' hSw; clear hSw; go_simp; try (with_reducible rfl))
  simp only [List.set_cons_zero, List.set_cons_succ]
  refine U_take 3 12 12 0 0 (v := ?vr11_4) rfl (by kernel_rfl) (by kernel_rfl) hWr11 (by kernel_rfl) (by kernel_rfl) (by kernel_rfl) (by kernel_rfl) (by kernel_rfl) (by kernel_rfl) (fun _ _ _ _ h => h) (by kernel_rfl) ?hyr11_4 (by omega) hH ?_
  case hyr11_4 => (intro w' hSw; replace hSw := S2o0 hSw; (try dsimp only at hSw); have q0 := hSw; have qa0_s0 := (q0).s0; have qa0_s1 := (q0).s1; have qa0_s2 := (q0).s2; obtain ⟨qa0_0, qa0_1, qa0_2, qa0_3, qa0_4, qa0_5, qa0_6, qa0_7, qa0_8, qa0_9⟩ := cells_ct0 (q0).cl HIx.out.1 HIx.out.2; obtain ⟨b0_0, b0_1, b0_2, b0_3, b0_4, b0_5⟩ := cells_rw (q0).rl hir HR.out; go_simp; try (with_reducible rfl))
  simp only [List.set_cons_zero, List.set_cons_succ]
  refine U_take 4 13 11 0 0 (v := ?vr11_5) rfl (by kernel_rfl) (by kernel_rfl) hWr11 (by kernel_rfl) (by kernel_rfl) (by kernel_rfl) (by kernel_rfl) (by kernel_rfl) (by kernel_rfl) (fun _ _ _ _ h => h) (by kernel_rfl) ?hyr11_5 (by omega) hH ?_
  case hyr11_5 => (intro w' hSw; clear hSw; go_simp; try (with_reducible rfl))
  simp only [List.set_cons_zero, List.set_cons_succ]
  refine U_take 5 14 10 0 0 (v := ?vr11_6) rfl (by kernel_rfl) (by kernel_rfl) hWr11 (by kernel_rfl) (by kernel_rfl) (by kernel_rfl) (by kernel_rfl) (by kernel_rfl) (by kernel_rfl) (fun _ _ _ _ h => h) (by kernel_rfl) ?hyr11_6 (by omega) hH ?_
  case hyr11_6 => (intro w' hSw; clear hSw; go_simp; try (with_reducible rfl))
  simp only [List.set_cons_zero, List.set_cons_succ]
  refine U_take 6 15 9 0 0 (v := ?vr11_7) rfl (by kernel_rfl) (by kernel_rfl) hWr11 (by kernel_rfl) (by kernel_rfl) (by kernel_rfl) (by kernel_rfl) (by kernel_rfl) (by kernel_rfl) (fun _ _ _ _ h => h) (by kernel_rfl) ?hyr11_7 (by omega) hH ?_
  case hyr11_7 => (intro w' hSw; clear hSw; go_simp; try (with_reducible rfl))
  simp only [List.set_cons_zero, List.set_cons_succ]
  refine U_take 7 16 8 0 0 (v := ?vr11_8) rfl (by kernel_rfl) (by kernel_rfl) hWr11 (by kernel_rfl) (by kernel_rfl) (by kernel_rfl) (by kernel_rfl) (by kernel_rfl) (by kernel_rfl) (fun _ _ _ _ h => h) (by kernel_rfl) ?hyr11_8 (by omega) hH ?_
  case hyr11_8 => (intro w' hSw; clear hSw; go_simp; try (with_reducible rfl))
  simp only [List.set_cons_zero, List.set_cons_succ]
  refine U_take 8 17 7 0 0 (v := ?vr11_9) rfl (by kernel_rfl) (by kernel_rfl) hWr11 (by kernel_rfl) (by kernel_rfl) (by kernel_rfl) (by kernel_rfl) (by kernel_rfl) (by kernel_rfl) (fun _ _ _ _ h => h) (by kernel_rfl) ?hyr11_9 (by omega) hH ?_
  case hyr11_9 => (intro w' hSw; clear hSw; go_simp; try (with_reducible rfl))
  simp only [List.set_cons_zero, List.set_cons_succ]
  refine U_take 9 18 6 0 0 (v := ?vr11_10) rfl (by kernel_rfl) (by kernel_rfl) hWr11 (by kernel_rfl) (by kernel_rfl) (by kernel_rfl) (by kernel_rfl) (by kernel_rfl) (by kernel_rfl) (fun _ _ _ _ h => h) (by kernel_rfl) ?hyr11_10 (by omega) hH ?_
  case hyr11_10 => (intro w' hSw; replace hSw := S2o0 hSw; (try dsimp only at hSw); have q0 := hSw; have qa0_s0 := (q0).s0; have qa0_s1 := (q0).s1; have qa0_s2 := (q0).s2; obtain ⟨qa0_0, qa0_1, qa0_2, qa0_3, qa0_4, qa0_5, qa0_6, qa0_7, qa0_8, qa0_9⟩ := cells_ct0 (q0).cl HIx.out.1 HIx.out.2; obtain ⟨b0_0, b0_1, b0_2, b0_3, b0_4, b0_5⟩ := cells_rw (q0).rl hir HR.out; go_simp; try (with_reducible rfl))
  simp only [List.set_cons_zero, List.set_cons_succ]
  refine U_take 10 19 5 0 0 (v := ?vr11_11) rfl (by kernel_rfl) (by kernel_rfl) hWr11 (by kernel_rfl) (by kernel_rfl) (by kernel_rfl) (by kernel_rfl) (by kernel_rfl) (by kernel_rfl) (fun _ _ _ _ h => h) (by kernel_rfl) ?hyr11_11 (by omega) hH ?_
  case hyr11_11 => (intro w' hSw; clear hSw; go_simp; try (with_reducible rfl))
  simp only [List.set_cons_zero, List.set_cons_succ]
  refine U_take 11 20 4 0 0 (v := ?vr11_12) rfl (by kernel_rfl) (by kernel_rfl) hWr11 (by kernel_rfl) (by kernel_rfl) (by kernel_rfl) (by kernel_rfl) (by kernel_rfl) (by kernel_rfl) (fun _ _ _ _ h => h) (by kernel_rfl) ?hyr11_12 (by omega) hH ?_
  case hyr11_12 => (intro w' hSw; clear hSw; go_simp; try (with_reducible rfl))
  simp only [List.set_cons_zero, List.set_cons_succ]
  refine U_take 12 21 3 0 0 (v := ?vr11_13) rfl (by kernel_rfl) (by kernel_rfl) hWr11 (by kernel_rfl) (by kernel_rfl) (by kernel_rfl) (by kernel_rfl) (by kernel_rfl) (by kernel_rfl) (fun _ _ _ _ h => h) (by kernel_rfl) ?hyr11_13 (by omega) hH ?_
  case hyr11_13 => (intro w' hSw; replace hSw := S2o0 hSw; (try dsimp only at hSw); have q0 := hSw; have qa0_s0 := (q0).s0; have qa0_s1 := (q0).s1; have qa0_s2 := (q0).s2; obtain ⟨qa0_0, qa0_1, qa0_2, qa0_3, qa0_4, qa0_5, qa0_6, qa0_7, qa0_8, qa0_9⟩ := cells_ct0 (q0).cl HIx.out.1 HIx.out.2; obtain ⟨b0_0, b0_1, b0_2, b0_3, b0_4, b0_5⟩ := cells_rw (q0).rl hir HR.out; go_simp; try (with_reducible rfl))
  simp only [List.set_cons_zero, List.set_cons_succ]
  refine wpAnyU_ready (rs := [13]) (by kernel_rfl) (by simp) ?_
  refine AllReadyU.cons 0 (by kernel_rfl) (o := _) rfl (fun K hK => ?_) AllReadyU.nil
  try clear hb
  have hG := hH
  replace hG := S2o0 hG; (try dsimp only at hG); have q0 := hG
  go_simp
  refine hK.out _ _ ?hsr11_14 (fun hH2 => ?hrr11_14)
  case hsr11_14 => exact S2i0 (by have hG := hH; replace hG := S2o0 hG; (try dsimp only at hG); have q0 := hG; exact q0.alloc _)
  clear hK K hH
  have hH := hH2
  clear hH2
  try simp only [Act.put, List.setIfInBounds_toArray, List.set_cons_zero, List.set_cons_succ]
  have hR : Rz ((w.alloc (.cells #[.int .i64 0, .int .i64 0, .int .i64 0, .int .i64 0, .int .i64 0, .int .i64 0] 54)).drew) w.heap.size := Rz.drew (Rz.here w 54)
  obtain ⟨gR, hgR⟩ : ∃ g, g = w.heap.size := ⟨_, rfl⟩
  have hlR : w.heap.size ≤ gR := by rw [hgR]; have h9 := q0.gr.size; exact h9
  rw [← hgR] at hR
  try rw [← hgR]
  clear hgR q0
  generalize (w.alloc (.cells #[.int .i64 0, .int .i64 0, .int .i64 0, .int .i64 0, .int .i64 0, .int .i64 0] 54)).drew = wx13 at *
  refine U_take 14 4 1 0 0 (v := ?vr11_15) rfl (by kernel_rfl) (by kernel_rfl) hWr11 (by kernel_rfl) (by kernel_rfl) (by kernel_rfl) (by kernel_rfl) (by kernel_rfl) (by kernel_rfl) (fun _ _ _ _ h => h) (by kernel_rfl) ?hyr11_15 (by omega) hH ?_
  case hyr11_15 => (intro w' hSw; clear hSw; go_simp; try (with_reducible rfl))
  simp only [List.set_cons_zero, List.set_cons_succ]
  refine wpAnyU_ready (rs := [15]) (by kernel_rfl) (by simp) ?_
  refine AllReadyU.cons 1 (by kernel_rfl) (o := _) rfl (fun K hK => ?_) AllReadyU.nil
  try clear hb
  have hG := hH
  replace hG := S2o0 hG; (try dsimp only at hG); have fq0 := hG
  have HSR := hid fq0
  obtain ⟨z0, z1, z2, z3, z4, z5, y0, y1, y2, y3, y4, y5⟩ := hR.all
  have yf := hR.free
  clear hG fq0
  go_simp
  refine hK.out _ _ ?hsr11_16 (fun hH2 => ?hrr11_16)
  case hsr11_16 => exact S2i1
  clear hK K hH
  have hH := hH2
  clear hH2
  try simp only [Act.put, List.setIfInBounds_toArray, List.set_cons_zero, List.set_cons_succ]
  refine wpAnyU_done (by kernel_rfl) ?_ _ _
  refine NoPanic.normal ?_
  obtain ⟨w5, hw5⟩ : ∃ w5, w5 = (((((wx13.setCell ⟨gR, 0, none⟩ (.int .i64 r.t1)).setCell ⟨gR, 1, none⟩ (.int .i64 r.t2)).setCell ⟨gR, 2, none⟩ (.int .i64 r.ease)).setCell ⟨gR, 3, none⟩ (.int .i64 r.slip)).setCell ⟨gR, 4, none⟩ (.int .i64 r.lift)).setCell ⟨gR, 5, none⟩ (.int .i64 r.bound) := ⟨_, rfl⟩
  have HNR : ∀ y ∈ L, ∀ bx off, y.A = some ⟨bx, off, none⟩ → bx ≠ gR := fun y hy bx off e => by have h9 := HLO.out y hy bx off e; omega
  have HSR5 := hid ((((((HSR.out.off (o := 0) (v := .int .i64 r.t1) hlR HNR).off (o := 1) (v := .int .i64 r.t2) hlR HNR).off (o := 2) (v := .int .i64 r.ease) hlR HNR).off (o := 3) (v := .int .i64 r.slip) hlR HNR).off (o := 4) (v := .int .i64 r.lift) hlR HNR).off (o := 5) (v := .int .i64 r.bound) hlR HNR)
  have HRG := hid (show Rg w5 gR r.t1 r.t2 r.ease r.slip r.lift r.bound by rw [hw5]; exact ⟨by go_simp, by go_simp, by go_simp, by go_simp, by go_simp, by go_simp, fun j => by go_simp⟩)
  rw [← hw5] at HSR5
  clear HSR y0 y1 y2 y3 y4 y5 yf
  have HSR := HSR5
  clear HSR5
  try clear hH
  go_upto_region 1 with fail
  rw [← hw5]
  clear hw5
  obtain ⟨rr0, rr1, rr2, rr3, rr4, rr5, rrf⟩ := HRG.out
  by_cases hz : r.slip = 0
  · have HS9 : Hid (slipQ (L.map valB) x r = (L.map valB, x)) := by show slipQ _ _ _ = _; unfold slipQ; rw [if_pos hz]
    have hzb0 : (r.slip != 0) = false := by simp [hz]
    clear hz
    go_upto_region 6 with fail
    clear rr0 rr1 rr2 rr3 rr4 rr5 rrf hzb0
    obtain ⟨rr0, rr1, rr2, rr3, rr4, rr5, rrf⟩ := HRG.out
    by_cases hz : r.ease = 0
    · have HQ9 : Hid (roundQ (L.map valB) x r = (L.map valB, x)) := by show roundQ _ _ _ = _; unfold roundQ; rw [HS9.out]; show easeQ (L.map valB) x r = _; unfold easeQ; rw [if_pos hz]
      have hzb : (r.ease != 0) = false := by simp [hz]
      clear hz
      have HB9 := hid HSR.out
      clear HRG HSR
      go_wp2
      exact bodyPost_ret (v := .tuple #[]) (by simp [results, Try.results19, go_sem]) rfl ⟨L, C, rfl, HB9.out, by rw [HQ9.out], by rw [HQ9.out]; exact HC0.out⟩
    have hzb : (r.ease != 0) = true := by simp [hz]
    obtain ⟨s1, hs1⟩ : ∃ z, z = subF (speedX (qB (L.map valB) x.b) x.px x.py) (speedX (qB (L.map valB) x.a) x.px x.py) := ⟨_, rfl⟩
    obtain ⟨s2, hs2⟩ : ∃ z, z = subF (speedY (qB (L.map valB) x.b) x.px x.py) (speedY (qB (L.map valB) x.a) x.px x.py) := ⟨_, rfl⟩
    have HSPD : Hid (∀ w', Sr w gs g gc gq cap cc cq L C R w' → Calls Try.prog 32 #[.pointer (some ⟨gs, 0, none⟩), ctV x] w' (Ret (vecV s1 s2) w')) := fun w' hr => by rw [hs1, hs2]; exact sspeed_calls cap gs g ka kb L x w' hr.bl HVL.out hr.s0 HGS.out hab HKL.out.1 HKL.out.2.1 HXx.out.1 HXx.out.2 HKL.out.2.2
    have HPSH : Hid (∀ w' j1 j2, Sr w gs g gc gq cap cc cq L C R w' → (-1099511627776 ≤ j1 ∧ j1 ≤ 1099511627776) → (-1099511627776 ≤ j2 ∧ j2 ≤ 1099511627776) → Calls Try.prog 16 #[.pointer (some ⟨gs, 0, none⟩), ctV x, vecV j1 j2] w' (RetPush g L (pushX (L.map valB) x j1 j2) w')) := fun w' j1 j2 hr h1 h2 => spush_calls cap gs g ka kb L x j1 j2 w' hr.bl HVL.out hr.s0 HGS.out hab HKL.out.1 HKL.out.2.1 HXx.out.1 HXx.out.2 HKL.out.2.2 h1 h2
    have hrel : ∀ v1 v2, relV (L.map valB) x v1 v2 = dotF s1 s2 v1 v2 := fun v1 v2 => by unfold relV pulV; rw [hs1, hs2]
    obtain ⟨vz, hvz⟩ : ∃ z, z = dotF s1 s2 x.nx x.ny := ⟨_, rfl⟩
    have HDOT := hid (vdot_calls s1 s2 x.nx x.ny)
    rw [← hvz] at HDOT
    obtain ⟨sb, hsb⟩ : ∃ z, z = subF r.lift vz := ⟨_, rfl⟩
    have HSB := hid (fsub_calls r.lift vz)
    rw [← hsb] at HSB
    obtain ⟨qd, hqd⟩ : ∃ z, z = divF sb r.ease := ⟨_, rfl⟩
    have HOV := hid (sover_calls sb r.ease)
    rw [← hqd] at HOV
    obtain ⟨ad, had⟩ : ∃ z, z = addF x.push qd := ⟨_, rfl⟩
    have HAD := hid (fadd_calls x.push qd)
    rw [← had] at HAD
    obtain ⟨sl, hsl⟩ : ∃ z, z = max 0 ad := ⟨_, rfl⟩
    have hrmax : ∀ (ts : Array TypeId) (t : TypeId) (w : World), (Builtin.max_ ts t #[.int .i64 0, .int .i64 ad]).run Try.prog w = .ok (.int .i64 sl) w := fun ts t w => by rw [run_max_int2, show (if ad > 0 then ad else 0) = sl by rw [hsl]; split <;> omega]
    have hcl : pressZ (L.map valB) x r = sl := by unfold pressZ; rw [hrel, ← hvz, ← hsb, ← hqd, ← had, hsl]
    obtain ⟨ds, hds⟩ : ∃ z, z = subF sl x.push := ⟨_, rfl⟩
    have HSD := hid (fsub_calls sl x.push)
    rw [← hds] at HSD
    obtain ⟨j1, hj1⟩ : ∃ z, z = mulF x.nx ds := ⟨_, rfl⟩
    obtain ⟨j2, hj2⟩ : ∃ z, z = mulF x.ny ds := ⟨_, rfl⟩
    have HSC := hid (vscale_calls x.nx x.ny ds)
    rw [← hj1, ← hj2] at HSC
    have HJB : Hid ((-1099511627776 ≤ j1 ∧ j1 ≤ 1099511627776) ∧ (-1099511627776 ≤ j2 ∧ j2 ≤ 1099511627776)) := by rw [hj1, hj2]; exact ⟨mulF_bd _ _, mulF_bd _ _⟩
    have HQ9 : Hid (easeQ (L.map valB) x r = (pushX (L.map valB) x j1 j2, { x with push := sl })) := by have h9 : easeQ (L.map valB) x r = (pushX (L.map valB) x (mulF x.nx (subF (pressZ (L.map valB) x r) x.push)) (mulF x.ny (subF (pressZ (L.map valB) x r) x.push)), { x with push := pressZ (L.map valB) x r }) := (by unfold easeQ; rw [if_neg hz]); rw [h9, hcl, ← hds, ← hj1, ← hj2] <;> rfl
    clear hs1 hs2 hrel hvz hsb hqd had hsl hcl hds hj1 hj2 hz
    go_upto_region 7 with fail
    clear rr0 rr1 rr2 rr3 rr4 rr5 rrf
    refine wp_region_noPanic ?_
    refine wp_region_U (S := (S2 (fun w' => Sr w gs g gc gq cap cc cq L C R w' ∧ Rg w' gR r.t1 r.t2 r.ease r.slip r.lift r.bound))) (T := (fun _ => 0)) (by kernel_rfl) (S2i0 ⟨HSR.out.drew, HRG.out.drew⟩) (fun hH => ?_)
    have hWr4 : Weaker (S2 (fun w' => Sr w gs g gc gq cap cc cq L C R w' ∧ Rg w' gR r.t1 r.t2 r.ease r.slip r.lift r.bound)) := weaker2 _
    refine U_take 0 74 22 0 0 (v := ?vr4_1) rfl (by kernel_rfl) (by kernel_rfl) hWr4 (by kernel_rfl) (by kernel_rfl) (by kernel_rfl) (by kernel_rfl) (by kernel_rfl) (by kernel_rfl) (fun _ _ _ _ h => h) (by kernel_rfl) ?hyr4_1 (by omega) hH ?_
    case hyr4_1 => (intro w' hSw; clear hSw; go_simp; try (with_reducible rfl))
    simp only [List.set_cons_zero, List.set_cons_succ]
    refine U_take 1 75 21 0 0 (v := ?vr4_2) rfl (by kernel_rfl) (by kernel_rfl) hWr4 (by kernel_rfl) (by kernel_rfl) (by kernel_rfl) (by kernel_rfl) (by kernel_rfl) (by kernel_rfl) (fun _ _ _ _ h => h) (by kernel_rfl) ?hyr4_2 (by omega) hH ?_
    case hyr4_2 => (intro w' hSw; clear hSw; go_simp; try (with_reducible rfl))
    simp only [List.set_cons_zero, List.set_cons_succ]
    refine U_take 2 76 20 0 0 (v := ?vr4_3) rfl (by kernel_rfl) (by kernel_rfl) hWr4 (by kernel_rfl) (by kernel_rfl) (by kernel_rfl) (by kernel_rfl) (by kernel_rfl) (by kernel_rfl) (fun _ _ _ _ h => h) (by kernel_rfl) ?hyr4_3 (by omega) hH ?_
    case hyr4_3 => (intro w' hSw; clear hSw; go_simp; try (with_reducible rfl))
    simp only [List.set_cons_zero, List.set_cons_succ]
    refine U_take 3 77 19 0 0 (v := ?vr4_4) rfl (by kernel_rfl) (by kernel_rfl) hWr4 (by kernel_rfl) (by kernel_rfl) (by kernel_rfl) (by kernel_rfl) (by kernel_rfl) (by kernel_rfl) (fun _ _ _ _ h => h) (by kernel_rfl) ?hyr4_4 (by omega) hH ?_
    case hyr4_4 => (intro w' hSw; replace hSw := S2o0 hSw; (try dsimp only at hSw); have q0 := hSw.1; have q1 := hSw.2; have qa0_s0 := (q0).s0; have qa0_s1 := (q0).s1; have qa0_s2 := (q0).s2; obtain ⟨qa0_0, qa0_1, qa0_2, qa0_3, qa0_4, qa0_5, qa0_6, qa0_7, qa0_8, qa0_9⟩ := cells_ct0 (q0).cl HIx.out.1 HIx.out.2; obtain ⟨b0_0, b0_1, b0_2, b0_3, b0_4, b0_5⟩ := cells_rw (q0).rl hir HR.out; obtain ⟨r1_0, r1_1, r1_2, r1_3, r1_4, r1_5, r1_f⟩ := id q1; go_simp; try (with_reducible rfl))
    simp only [List.set_cons_zero, List.set_cons_succ]
    refine U_take 4 78 18 0 0 (v := ?vr4_5) rfl (by kernel_rfl) (by kernel_rfl) hWr4 (by kernel_rfl) (by kernel_rfl) (by kernel_rfl) (by kernel_rfl) (by kernel_rfl) (by kernel_rfl) (fun _ _ _ _ h => h) (by kernel_rfl) ?hyr4_5 (by omega) hH ?_
    case hyr4_5 => (intro w' hSw; clear hSw; go_simp; try (with_reducible rfl))
    simp only [List.set_cons_zero, List.set_cons_succ]
    refine U_take 5 79 17 0 0 (v := ?vr4_6) rfl (by kernel_rfl) (by kernel_rfl) hWr4 (by kernel_rfl) (by kernel_rfl) (by kernel_rfl) (by kernel_rfl) (by kernel_rfl) (by kernel_rfl) (fun _ _ _ _ h => h) (by kernel_rfl) ?hyr4_6 (by omega) hH ?_
    case hyr4_6 => (intro w' hSw; replace hSw := S2o0 hSw; (try dsimp only at hSw); have q0 := hSw.1; have q1 := hSw.2; have qa0_s0 := (q0).s0; have qa0_s1 := (q0).s1; have qa0_s2 := (q0).s2; obtain ⟨qa0_0, qa0_1, qa0_2, qa0_3, qa0_4, qa0_5, qa0_6, qa0_7, qa0_8, qa0_9⟩ := cells_ct0 (q0).cl HIx.out.1 HIx.out.2; obtain ⟨b0_0, b0_1, b0_2, b0_3, b0_4, b0_5⟩ := cells_rw (q0).rl hir HR.out; obtain ⟨r1_0, r1_1, r1_2, r1_3, r1_4, r1_5, r1_f⟩ := id q1; go_simp; try (with_reducible rfl))
    simp only [List.set_cons_zero, List.set_cons_succ]
    refine U_take 6 80 16 0 0 (v := ?vr4_7) rfl (by kernel_rfl) (by kernel_rfl) hWr4 (by kernel_rfl) (by kernel_rfl) (by kernel_rfl) (by kernel_rfl) (by kernel_rfl) (by kernel_rfl) (fun _ _ _ _ h => h) (by kernel_rfl) ?hyr4_7 (by omega) hH ?_
    case hyr4_7 => (intro w' hSw; clear hSw; go_simp; try (with_reducible rfl))
    simp only [List.set_cons_zero, List.set_cons_succ]
    refine U_take 7 81 15 0 0 (v := ?vr4_8) rfl (by kernel_rfl) (by kernel_rfl) hWr4 (by kernel_rfl) (by kernel_rfl) (by kernel_rfl) (by kernel_rfl) (by kernel_rfl) (by kernel_rfl) (fun _ _ _ _ h => h) (by kernel_rfl) ?hyr4_8 (by omega) hH ?_
    case hyr4_8 => (intro w' hSw; clear hSw; go_simp; try (with_reducible rfl))
    simp only [List.set_cons_zero, List.set_cons_succ]
    refine U_take 8 82 14 0 0 (v := ?vr4_9) rfl (by kernel_rfl) (by kernel_rfl) hWr4 (by kernel_rfl) (by kernel_rfl) (by kernel_rfl) (by kernel_rfl) (by kernel_rfl) (by kernel_rfl) (fun _ _ _ _ h => h) (by kernel_rfl) ?hyr4_9 (by omega) hH ?_
    case hyr4_9 => (intro w' hSw; clear hSw; go_simp; try (with_reducible rfl))
    simp only [List.set_cons_zero, List.set_cons_succ]
    refine U_take 9 83 13 0 0 (v := ?vr4_10) rfl (by kernel_rfl) (by kernel_rfl) hWr4 (by kernel_rfl) (by kernel_rfl) (by kernel_rfl) (by kernel_rfl) (by kernel_rfl) (by kernel_rfl) (fun _ _ _ _ h => h) (by kernel_rfl) ?hyr4_10 (by omega) hH ?_
    case hyr4_10 => (intro w' hSw; replace hSw := S2o0 hSw; (try dsimp only at hSw); have q0 := hSw.1; have q1 := hSw.2; have qa0_s0 := (q0).s0; have qa0_s1 := (q0).s1; have qa0_s2 := (q0).s2; obtain ⟨qa0_0, qa0_1, qa0_2, qa0_3, qa0_4, qa0_5, qa0_6, qa0_7, qa0_8, qa0_9⟩ := cells_ct0 (q0).cl HIx.out.1 HIx.out.2; obtain ⟨b0_0, b0_1, b0_2, b0_3, b0_4, b0_5⟩ := cells_rw (q0).rl hir HR.out; obtain ⟨r1_0, r1_1, r1_2, r1_3, r1_4, r1_5, r1_f⟩ := id q1; go_simp; try (with_reducible rfl))
    simp only [List.set_cons_zero, List.set_cons_succ]
    refine U_take 11 85 12 0 0 (v := ?vr4_11) rfl (by kernel_rfl) (by kernel_rfl) hWr4 (by kernel_rfl) (by kernel_rfl) (by kernel_rfl) (by kernel_rfl) (by kernel_rfl) (by kernel_rfl) (fun _ _ _ _ h => h) (by kernel_rfl) ?hyr4_11 (by omega) hH ?_
    case hyr4_11 => (intro w' hSw; clear hSw; go_simp; try (with_reducible rfl))
    simp only [List.set_cons_zero, List.set_cons_succ]
    refine U_take 12 86 11 0 0 (v := ?vr4_12) rfl (by kernel_rfl) (by kernel_rfl) hWr4 (by kernel_rfl) (by kernel_rfl) (by kernel_rfl) (by kernel_rfl) (by kernel_rfl) (by kernel_rfl) (fun _ _ _ _ h => h) (by kernel_rfl) ?hyr4_12 (by omega) hH ?_
    case hyr4_12 => (intro w' hSw; clear hSw; go_simp; try (with_reducible rfl))
    simp only [List.set_cons_zero, List.set_cons_succ]
    refine U_take 13 87 10 0 0 (v := ?vr4_13) rfl (by kernel_rfl) (by kernel_rfl) hWr4 (by kernel_rfl) (by kernel_rfl) (by kernel_rfl) (by kernel_rfl) (by kernel_rfl) (by kernel_rfl) (fun _ _ _ _ h => h) (by kernel_rfl) ?hyr4_13 (by omega) hH ?_
    case hyr4_13 => (intro w' hSw; clear hSw; go_simp; try (with_reducible rfl))
    simp only [List.set_cons_zero, List.set_cons_succ]
    refine U_take 14 88 9 0 0 (v := ?vr4_14) rfl (by kernel_rfl) (by kernel_rfl) hWr4 (by kernel_rfl) (by kernel_rfl) (by kernel_rfl) (by kernel_rfl) (by kernel_rfl) (by kernel_rfl) (fun _ _ _ _ h => h) (by kernel_rfl) ?hyr4_14 (by omega) hH ?_
    case hyr4_14 => (intro w' hSw; replace hSw := S2o0 hSw; (try dsimp only at hSw); have q0 := hSw.1; have q1 := hSw.2; have qa0_s0 := (q0).s0; have qa0_s1 := (q0).s1; have qa0_s2 := (q0).s2; obtain ⟨qa0_0, qa0_1, qa0_2, qa0_3, qa0_4, qa0_5, qa0_6, qa0_7, qa0_8, qa0_9⟩ := cells_ct0 (q0).cl HIx.out.1 HIx.out.2; obtain ⟨b0_0, b0_1, b0_2, b0_3, b0_4, b0_5⟩ := cells_rw (q0).rl hir HR.out; obtain ⟨r1_0, r1_1, r1_2, r1_3, r1_4, r1_5, r1_f⟩ := id q1; go_simp; try (with_reducible rfl))
    simp only [List.set_cons_zero, List.set_cons_succ]
    refine U_take 17 91 8 0 0 (v := ?vr4_15) rfl (by kernel_rfl) (by kernel_rfl) hWr4 (by kernel_rfl) (by kernel_rfl) (by kernel_rfl) (by kernel_rfl) (by kernel_rfl) (by kernel_rfl) (fun _ _ _ _ h => h) (by kernel_rfl) ?hyr4_15 (by omega) hH ?_
    case hyr4_15 => (intro w' hSw; clear hSw; go_simp; try (with_reducible rfl))
    simp only [List.set_cons_zero, List.set_cons_succ]
    refine U_take 18 92 7 0 0 (v := ?vr4_16) rfl (by kernel_rfl) (by kernel_rfl) hWr4 (by kernel_rfl) (by kernel_rfl) (by kernel_rfl) (by kernel_rfl) (by kernel_rfl) (by kernel_rfl) (fun _ _ _ _ h => h) (by kernel_rfl) ?hyr4_16 (by omega) hH ?_
    case hyr4_16 => (intro w' hSw; replace hSw := S2o0 hSw; (try dsimp only at hSw); have q0 := hSw.1; have q1 := hSw.2; have qa0_s0 := (q0).s0; have qa0_s1 := (q0).s1; have qa0_s2 := (q0).s2; obtain ⟨qa0_0, qa0_1, qa0_2, qa0_3, qa0_4, qa0_5, qa0_6, qa0_7, qa0_8, qa0_9⟩ := cells_ct0 (q0).cl HIx.out.1 HIx.out.2; obtain ⟨b0_0, b0_1, b0_2, b0_3, b0_4, b0_5⟩ := cells_rw (q0).rl hir HR.out; obtain ⟨r1_0, r1_1, r1_2, r1_3, r1_4, r1_5, r1_f⟩ := id q1; go_simp; try (with_reducible rfl))
    simp only [List.set_cons_zero, List.set_cons_succ]
    refine wpAnyU_ready (rs := [10]) (by kernel_rfl) (by simp) ?_
    refine AllReadyU.cons 0 (by kernel_rfl) (o := _) rfl (fun K hK => ?_) AllReadyU.nil
    try clear hb
    have hG := hH
    replace hG := S2o0 hG; (try dsimp only at hG); have fq0 := hG.1; have fq1 := hG.2
    have HRX := hid fq0
    clear hG fq0 fq1
    go_simp
    (go_at_call 32; refine (HSPD.out _ HRX.out).mono ?_; rintro e wn ⟨rfl, hb⟩)
    refine hK.out _ _ ?hsr4_17 (fun hH2 => ?hrr4_17)
    case hsr4_17 => exact S2i0 (by have hG := hH; replace hG := S2o0 hG; (try dsimp only at hG); have q0 := hG.1; have q1 := hG.2; exact ⟨keepSr hb q0, keepRg hb q1⟩)
    clear hK K hH
    have hH := hH2
    clear hH2
    try simp only [Act.put, List.setIfInBounds_toArray, List.set_cons_zero, List.set_cons_succ]
    clear HRX
    refine wpAnyU_ready (rs := [15]) (by kernel_rfl) (by simp) ?_
    refine AllReadyU.cons 0 (by kernel_rfl) (o := _) rfl (fun K hK => ?_) AllReadyU.nil
    try clear hb
    go_simp
    (go_at_call 31; refine (HDOT.out _).mono ?_; rintro e wn ⟨rfl, hb⟩)
    refine hK.out _ _ ?hsr4_18 (fun hH2 => ?hrr4_18)
    case hsr4_18 => exact S2i0 (by have hG := hH; replace hG := S2o0 hG; (try dsimp only at hG); have q0 := hG.1; have q1 := hG.2; exact ⟨keepSr hb q0, keepRg hb q1⟩)
    clear hK K hH
    have hH := hH2
    clear hH2
    try simp only [Act.put, List.setIfInBounds_toArray, List.set_cons_zero, List.set_cons_succ]
    refine wpAnyU_ready (rs := [16]) (by kernel_rfl) (by simp) ?_
    refine AllReadyU.cons 0 (by kernel_rfl) (o := _) rfl (fun K hK => ?_) AllReadyU.nil
    try clear hb
    go_simp
    (go_at_call 23; refine (HSB.out _).mono ?_; rintro e wn ⟨rfl, hb⟩)
    refine hK.out _ _ ?hsr4_19 (fun hH2 => ?hrr4_19)
    case hsr4_19 => exact S2i0 (by have hG := hH; replace hG := S2o0 hG; (try dsimp only at hG); have q0 := hG.1; have q1 := hG.2; exact ⟨keepSr hb q0, keepRg hb q1⟩)
    clear hK K hH
    have hH := hH2
    clear hH2
    try simp only [Act.put, List.setIfInBounds_toArray, List.set_cons_zero, List.set_cons_succ]
    refine wpAnyU_ready (rs := [19]) (by kernel_rfl) (by simp) ?_
    refine AllReadyU.cons 0 (by kernel_rfl) (o := _) rfl (fun K hK => ?_) AllReadyU.nil
    try clear hb
    go_simp
    (go_at_call 30; refine (HOV.out _).mono ?_; rintro e wn ⟨rfl, hb⟩)
    refine hK.out _ _ ?hsr4_20 (fun hH2 => ?hrr4_20)
    case hsr4_20 => exact S2i0 (by have hG := hH; replace hG := S2o0 hG; (try dsimp only at hG); have q0 := hG.1; have q1 := hG.2; exact ⟨keepSr hb q0, keepRg hb q1⟩)
    clear hK K hH
    have hH := hH2
    clear hH2
    try simp only [Act.put, List.setIfInBounds_toArray, List.set_cons_zero, List.set_cons_succ]
    refine wpAnyU_ready (rs := [20]) (by kernel_rfl) (by simp) ?_
    refine AllReadyU.cons 0 (by kernel_rfl) (o := _) rfl (fun K hK => ?_) AllReadyU.nil
    try clear hb
    go_simp
    (go_at_call 24; refine (HAD.out _).mono ?_; rintro e wn ⟨rfl, hb⟩)
    refine hK.out _ _ ?hsr4_21 (fun hH2 => ?hrr4_21)
    case hsr4_21 => exact S2i0 (by have hG := hH; replace hG := S2o0 hG; (try dsimp only at hG); have q0 := hG.1; have q1 := hG.2; exact ⟨keepSr hb q0, keepRg hb q1⟩)
    clear hK K hH
    have hH := hH2
    clear hH2
    try simp only [Act.put, List.setIfInBounds_toArray, List.set_cons_zero, List.set_cons_succ]
    refine U_take 21 95 1 0 0 (v := ?vr4_22) rfl (by kernel_rfl) (by kernel_rfl) hWr4 (by kernel_rfl) (by kernel_rfl) (by kernel_rfl) (by kernel_rfl) (by kernel_rfl) (by kernel_rfl) (fun _ _ _ _ h => h) (by kernel_rfl) ?hyr4_22 (by omega) hH ?_
    case hyr4_22 => (intro w' hSw; clear hSw; go_simp; try (with_reducible rfl))
    simp only [List.set_cons_zero, List.set_cons_succ]
    refine U_take 22 8 0 0 0 (v := ?vr4_23) rfl (by kernel_rfl) (by kernel_rfl) hWr4 (by kernel_rfl) (by kernel_rfl) (by kernel_rfl) (by kernel_rfl) (by kernel_rfl) (by kernel_rfl) (fun _ _ _ _ h => h) (by kernel_rfl) ?hyr4_23 (by omega) hH ?_
    case hyr4_23 => (intro w' hSw; clear hSw; go_simp; try (with_reducible rfl))
    simp only [List.set_cons_zero, List.set_cons_succ]
    refine wpAnyU_done (by kernel_rfl) ?_ _ _
    refine NoPanic.normal ?_
    clear hWr4
    replace hH := S2o0 hH
    (try dsimp only at hH)
    have t0 := hH.1
    have t1 := hH.2
    replace HSR := hid t0
    replace HRG := hid t1
    clear t0 t1
    try clear hH hb
    go_upto_region 8 with fail
    refine wp_region_noPanic ?_
    refine wp_region_U (S := (S2 (fun w' => Sr w gs g gc gq cap cc cq L C R w' ∧ Rg w' gR r.t1 r.t2 r.ease r.slip r.lift r.bound))) (T := (fun j => [0, 0, 0, 0, 0, 0, 0, 0, 0, 0, 0, 0, 0, 0, 0, 1].getD j 0)) (by kernel_rfl) (S2i0 ⟨HSR.out.drew, HRG.out.drew⟩) (fun hH => ?_)
    have hWr5 : Weaker (S2 (fun w' => Sr w gs g gc gq cap cc cq L C R w' ∧ Rg w' gR r.t1 r.t2 r.ease r.slip r.lift r.bound)) := weaker2 _
    refine U_take 0 96 15 0 0 (v := ?vr5_1) rfl (by kernel_rfl) (by kernel_rfl) hWr5 (by kernel_rfl) (by kernel_rfl) (by kernel_rfl) (by kernel_rfl) (by kernel_rfl) (by kernel_rfl) (fun _ _ _ _ h => h) (by kernel_rfl) ?hyr5_1 (by omega) hH ?_
    case hyr5_1 => (intro w' hSw; clear hSw; go_simp; try (with_reducible rfl))
    simp only [List.set_cons_zero, List.set_cons_succ]
    refine U_take 1 97 14 0 0 (v := ?vr5_2) rfl (by kernel_rfl) (by kernel_rfl) hWr5 (by kernel_rfl) (by kernel_rfl) (by kernel_rfl) (by kernel_rfl) (by kernel_rfl) (by kernel_rfl) (fun _ _ _ _ h => h) (by kernel_rfl) ?hyr5_2 (by omega) hH ?_
    case hyr5_2 => (intro w' hSw; clear hSw; go_simp; try (with_reducible rfl))
    simp only [List.set_cons_zero, List.set_cons_succ]
    refine U_take 2 98 13 0 0 (v := ?vr5_3) rfl (by kernel_rfl) (by kernel_rfl) hWr5 (by kernel_rfl) (by kernel_rfl) (by kernel_rfl) (by kernel_rfl) (by kernel_rfl) (by kernel_rfl) (fun _ _ _ _ h => h) (by kernel_rfl) ?hyr5_3 (by omega) hH ?_
    case hyr5_3 => (intro w' hSw; clear hSw; go_simp; try (with_reducible rfl))
    simp only [List.set_cons_zero, List.set_cons_succ]
    refine U_take 3 99 12 0 0 (v := ?vr5_4) rfl (by kernel_rfl) (by kernel_rfl) hWr5 (by kernel_rfl) (by kernel_rfl) (by kernel_rfl) (by kernel_rfl) (by kernel_rfl) (by kernel_rfl) (fun _ _ _ _ h => h) (by kernel_rfl) ?hyr5_4 (by omega) hH ?_
    case hyr5_4 => (intro w' hSw; replace hSw := S2o0 hSw; (try dsimp only at hSw); have q0 := hSw.1; have q1 := hSw.2; have qa0_s0 := (q0).s0; have qa0_s1 := (q0).s1; have qa0_s2 := (q0).s2; obtain ⟨qa0_0, qa0_1, qa0_2, qa0_3, qa0_4, qa0_5, qa0_6, qa0_7, qa0_8, qa0_9⟩ := cells_ct0 (q0).cl HIx.out.1 HIx.out.2; obtain ⟨b0_0, b0_1, b0_2, b0_3, b0_4, b0_5⟩ := cells_rw (q0).rl hir HR.out; obtain ⟨r1_0, r1_1, r1_2, r1_3, r1_4, r1_5, r1_f⟩ := id q1; go_simp; try (with_reducible rfl))
    simp only [List.set_cons_zero, List.set_cons_succ]
    refine U_take 4 100 11 0 0 (v := ?vr5_5) rfl (by kernel_rfl) (by kernel_rfl) hWr5 (by kernel_rfl) (by kernel_rfl) (by kernel_rfl) (by kernel_rfl) (by kernel_rfl) (by kernel_rfl) (fun _ _ _ _ h => h) (by kernel_rfl) ?hyr5_5 (by omega) hH ?_
    case hyr5_5 => (intro w' hSw; clear hSw; go_simp; try (with_reducible rfl))
    simp only [List.set_cons_zero, List.set_cons_succ]
    refine U_take 5 101 10 0 0 (v := ?vr5_6) rfl (by kernel_rfl) (by kernel_rfl) hWr5 (by kernel_rfl) (by kernel_rfl) (by kernel_rfl) (by kernel_rfl) (by kernel_rfl) (by kernel_rfl) (fun _ _ _ _ h => h) (by kernel_rfl) ?hyr5_6 (by omega) hH ?_
    case hyr5_6 => (intro w' hSw; clear hSw; go_simp; try (with_reducible rfl))
    simp only [List.set_cons_zero, List.set_cons_succ]
    refine U_take 6 102 9 0 0 (v := ?vr5_7) rfl (by kernel_rfl) (by kernel_rfl) hWr5 (by kernel_rfl) (by kernel_rfl) (by kernel_rfl) (by kernel_rfl) (by kernel_rfl) (by kernel_rfl) (fun _ _ _ _ h => h) (by kernel_rfl) ?hyr5_7 (by omega) hH ?_
    case hyr5_7 => (intro w' hSw; clear hSw; go_simp; try (with_reducible rfl))
    simp only [List.set_cons_zero, List.set_cons_succ]
    refine U_take 7 103 8 0 0 (v := ?vr5_8) rfl (by kernel_rfl) (by kernel_rfl) hWr5 (by kernel_rfl) (by kernel_rfl) (by kernel_rfl) (by kernel_rfl) (by kernel_rfl) (by kernel_rfl) (fun _ _ _ _ h => h) (by kernel_rfl) ?hyr5_8 (by omega) hH ?_
    case hyr5_8 => (intro w' hSw; replace hSw := S2o0 hSw; (try dsimp only at hSw); have q0 := hSw.1; have q1 := hSw.2; have qa0_s0 := (q0).s0; have qa0_s1 := (q0).s1; have qa0_s2 := (q0).s2; obtain ⟨qa0_0, qa0_1, qa0_2, qa0_3, qa0_4, qa0_5, qa0_6, qa0_7, qa0_8, qa0_9⟩ := cells_ct0 (q0).cl HIx.out.1 HIx.out.2; obtain ⟨b0_0, b0_1, b0_2, b0_3, b0_4, b0_5⟩ := cells_rw (q0).rl hir HR.out; obtain ⟨r1_0, r1_1, r1_2, r1_3, r1_4, r1_5, r1_f⟩ := id q1; go_simp; try (with_reducible rfl))
    simp only [List.set_cons_zero, List.set_cons_succ]
    refine U_take 8 104 7 0 0 (v := ?vr5_9) rfl (by kernel_rfl) (by kernel_rfl) hWr5 (by kernel_rfl) (by kernel_rfl) (by kernel_rfl) (by kernel_rfl) (by kernel_rfl) (by kernel_rfl) (fun _ _ _ _ h => h) (by kernel_rfl) ?hyr5_9 (by omega) hH ?_
    case hyr5_9 => (intro w' hSw; clear hSw; go_simp; try (with_reducible rfl))
    simp only [List.set_cons_zero, List.set_cons_succ]
    refine U_take 9 105 6 0 0 (v := ?vr5_10) rfl (by kernel_rfl) (by kernel_rfl) hWr5 (by kernel_rfl) (by kernel_rfl) (by kernel_rfl) (by kernel_rfl) (by kernel_rfl) (by kernel_rfl) (fun _ _ _ _ h => h) (by kernel_rfl) ?hyr5_10 (by omega) hH ?_
    case hyr5_10 => (intro w' hSw; clear hSw; go_simp; try (with_reducible rfl))
    simp only [List.set_cons_zero, List.set_cons_succ]
    refine U_take 10 106 5 0 0 (v := ?vr5_11) rfl (by kernel_rfl) (by kernel_rfl) hWr5 (by kernel_rfl) (by kernel_rfl) (by kernel_rfl) (by kernel_rfl) (by kernel_rfl) (by kernel_rfl) (fun _ _ _ _ h => h) (by kernel_rfl) ?hyr5_11 (by omega) hH ?_
    case hyr5_11 => (intro w' hSw; clear hSw; go_simp; try (with_reducible rfl))
    simp only [List.set_cons_zero, List.set_cons_succ]
    refine U_take 11 107 4 0 0 (v := ?vr5_12) rfl (by kernel_rfl) (by kernel_rfl) hWr5 (by kernel_rfl) (by kernel_rfl) (by kernel_rfl) (by kernel_rfl) (by kernel_rfl) (by kernel_rfl) (fun _ _ _ _ h => h) (by kernel_rfl) ?hyr5_12 (by omega) hH ?_
    case hyr5_12 => (intro w' hSw; clear hSw; go_simp; try (with_reducible rfl))
    simp only [List.set_cons_zero, List.set_cons_succ]
    refine U_take 12 108 3 0 0 (v := ?vr5_13) rfl (by kernel_rfl) (by kernel_rfl) hWr5 (by kernel_rfl) (by kernel_rfl) (by kernel_rfl) (by kernel_rfl) (by kernel_rfl) (by kernel_rfl) (fun _ _ _ _ h => h) (by kernel_rfl) ?hyr5_13 (by omega) hH ?_
    case hyr5_13 => (intro w' hSw; replace hSw := S2o0 hSw; (try dsimp only at hSw); have q0 := hSw.1; have q1 := hSw.2; have qa0_s0 := (q0).s0; have qa0_s1 := (q0).s1; have qa0_s2 := (q0).s2; obtain ⟨qa0_0, qa0_1, qa0_2, qa0_3, qa0_4, qa0_5, qa0_6, qa0_7, qa0_8, qa0_9⟩ := cells_ct0 (q0).cl HIx.out.1 HIx.out.2; obtain ⟨b0_0, b0_1, b0_2, b0_3, b0_4, b0_5⟩ := cells_rw (q0).rl hir HR.out; obtain ⟨r1_0, r1_1, r1_2, r1_3, r1_4, r1_5, r1_f⟩ := id q1; go_simp; try (with_reducible rfl))
    simp only [List.set_cons_zero, List.set_cons_succ]
    refine wpAnyU_ready (rs := [13]) (by kernel_rfl) (by simp) ?_
    refine AllReadyU.cons 0 (by kernel_rfl) (o := _) rfl (fun K hK => ?_) AllReadyU.nil
    try clear hb
    go_simp
    (go_at_call 23; refine (HSD.out _).mono ?_; rintro e wn ⟨rfl, hb⟩)
    refine hK.out _ _ ?hsr5_14 (fun hH2 => ?hrr5_14)
    case hsr5_14 => exact S2i0 (by have hG := hH; replace hG := S2o0 hG; (try dsimp only at hG); have q0 := hG.1; have q1 := hG.2; exact ⟨keepSr hb q0, keepRg hb q1⟩)
    clear hK K hH
    have hH := hH2
    clear hH2
    try simp only [Act.put, List.setIfInBounds_toArray, List.set_cons_zero, List.set_cons_succ]
    refine wpAnyU_ready (rs := [14]) (by kernel_rfl) (by simp) ?_
    refine AllReadyU.cons 0 (by kernel_rfl) (o := _) rfl (fun K hK => ?_) AllReadyU.nil
    try clear hb
    go_simp
    (go_at_call 18; refine (HSC.out _).mono ?_; rintro e wn ⟨rfl, hb⟩)
    refine hK.out _ _ ?hsr5_15 (fun hH2 => ?hrr5_15)
    case hsr5_15 => exact S2i0 (by have hG := hH; replace hG := S2o0 hG; (try dsimp only at hG); have q0 := hG.1; have q1 := hG.2; exact ⟨keepSr hb q0, keepRg hb q1⟩)
    clear hK K hH
    have hH := hH2
    clear hH2
    try simp only [Act.put, List.setIfInBounds_toArray, List.set_cons_zero, List.set_cons_succ]
    refine wpAnyU_ready (rs := [15]) (by kernel_rfl) (by simp) ?_
    refine AllReadyU.cons 1 (by kernel_rfl) (o := _) rfl (fun K hK => ?_) AllReadyU.nil
    try clear hb
    have hG := hH
    replace hG := S2o0 hG; (try dsimp only at hG); have fq0 := hG.1; have fq1 := hG.2
    replace HSR := hid fq0
    replace HRG := hid fq1
    clear hG fq0 fq1
    go_simp
    (go_at_call 16; refine (HPSH.out _ _ _ HSR.out HJB.out.1 HJB.out.2).mono ?_; rintro e wp ⟨L9, rfl, hbl2, hm2, hg2, hnw2⟩)
    refine hK.out _ _ ?hsr5_16 (fun hH2 => ?hrr5_16)
    case hsr5_16 => exact S2i1
    clear hK K hH
    have hH := hH2
    clear hH2
    try simp only [Act.put, List.setIfInBounds_toArray, List.set_cons_zero, List.set_cons_succ]
    have hl1 : L9.length = L.length := by have h9 := congrArg List.length hm2; rw [List.length_map, (pushX_like (by rw [List.length_map]; exact HOKx.out) j1 j2).len, List.length_map] at h9; exact h9
    have HVN : Hid (∀ y ∈ L9, bodyE y.b y.l = 0) := by have h9 := pushX_like (Q := L.map valB) (x := x) (by rw [List.length_map]; exact HOKx.out) j1 j2; rw [← hm2] at h9; exact like_valid h9 HVL.out
    have HLN := hid hl1
    have HM2 := hid hm2
    replace HSR := hid (HSR.out.push hbl2 hl1 hg2 hnw2)
    replace HRG := hid (HRG.out.next hg2 (by have h9 := HSR.out.lt.1; omega))
    clear hl1 hbl2 hm2 hg2 hnw2
    refine wpAnyU_done (by kernel_rfl) ?_ _ _
    refine NoPanic.normal ?_
    go_upto_region 9 with fail
    obtain ⟨a0, a1, a2, a3, a4, a5, a6, a7, a8, a9⟩ := cells_ct0 HSR.out.cl HIx.out.1 HIx.out.2
    have af := HSR.out.cf
    obtain ⟨ws, hws⟩ : ∃ ws, ws = wp.setCell ⟨gc, i * 10 + 8, none⟩ (.int .i64 sl) := ⟨_, rfl⟩
    obtain ⟨x9, hx9⟩ : ∃ z : Ct, z = { x with push := sl } := ⟨_, rfl⟩
    obtain ⟨C9, hC9⟩ : ∃ z : List Ct, z = C.set i x9 := ⟨_, rfl⟩
    have HSR2 := hid (HSR.out.setpush HIx.out.1 HIx.out.2 sl)
    rw [← hx9, ← hC9, ← hws] at HSR2
    have HRG2 := hid (HRG.out.next (grown_setCell wp gc (i * 10 + 8) (.int .i64 sl)) (by have h9 := HSR.out.lt.2.1; omega))
    rw [← hws] at HRG2
    have HIx9 : Hid (i < C9.length ∧ C9[i]? = some x9) := by have h9 := HIx.out.1; rw [hC9]; exact ⟨by rw [List.length_set]; exact h9, List.getElem?_set_self h9⟩
    have HXx9 : Hid (x9.a = ka ∧ x9.b = kb) := by rw [hx9]; exact HXx.out
    have HVL9 := HVN
    have HKL9 : Hid (ka < L9.length ∧ kb < L9.length ∧ L9.length ≤ 64) := by rw [HLN.out]; exact HKL.out
    have HEQease : Hid (easeQ (L.map valB) x r = (L9.map valB, x9)) := by rw [HQ9.out, HM2.out, hx9]; rfl
    have HCC9 : Hid (C9 = C.set i x9) := hC9
    have HKL9L := HLN
    clear HSR HRG HQ9 HM2 HSPD HPSH HSD HSC HJB HVN HLN hx9 hC9
    have HSR := HSR2
    have HRG := HRG2
    clear HSR2 HRG2
    have HQ9 : Hid (roundQ (L.map valB) x r = (L9.map valB, x9)) := by show roundQ _ _ _ = _; unfold roundQ; rw [HS9.out]; exact HEQease.out
    have HB9 := hid HSR.out
    clear HRG HSR
    go_wp2
    rw [← hws]
    exact bodyPost_ret (v := .tuple #[]) (by simp [results, Try.results19, go_sem]) rfl ⟨L9, C9, rfl, HB9.out, by rw [HQ9.out], by rw [HQ9.out]; exact HCC9.out⟩
  have hzb0 : (r.slip != 0) = true := by simp [hz]
  obtain ⟨s1, hs1⟩ : ∃ z, z = subF (speedX (qB (L.map valB) x.b) x.px x.py) (speedX (qB (L.map valB) x.a) x.px x.py) := ⟨_, rfl⟩
  obtain ⟨s2, hs2⟩ : ∃ z, z = subF (speedY (qB (L.map valB) x.b) x.px x.py) (speedY (qB (L.map valB) x.a) x.px x.py) := ⟨_, rfl⟩
  have HSPD : Hid (∀ w', Sr w gs g gc gq cap cc cq L C R w' → Calls Try.prog 32 #[.pointer (some ⟨gs, 0, none⟩), ctV x] w' (Ret (vecV s1 s2) w')) := fun w' hr => by rw [hs1, hs2]; exact sspeed_calls cap gs g ka kb L x w' hr.bl HVL.out hr.s0 HGS.out hab HKL.out.1 HKL.out.2.1 HXx.out.1 HXx.out.2 HKL.out.2.2
  have HPSH : Hid (∀ w' j1 j2, Sr w gs g gc gq cap cc cq L C R w' → (-1099511627776 ≤ j1 ∧ j1 ≤ 1099511627776) → (-1099511627776 ≤ j2 ∧ j2 ≤ 1099511627776) → Calls Try.prog 16 #[.pointer (some ⟨gs, 0, none⟩), ctV x, vecV j1 j2] w' (RetPush g L (pushX (L.map valB) x j1 j2) w')) := fun w' j1 j2 hr h1 h2 => spush_calls cap gs g ka kb L x j1 j2 w' hr.bl HVL.out hr.s0 HGS.out hab HKL.out.1 HKL.out.2.1 HXx.out.1 HXx.out.2 HKL.out.2.2 h1 h2
  have hrel : ∀ v1 v2, relV (L.map valB) x v1 v2 = dotF s1 s2 v1 v2 := fun v1 v2 => by unfold relV pulV; rw [hs1, hs2]
  obtain ⟨mo, hmo⟩ : ∃ z, z = mulF r.bound x.push := ⟨_, rfl⟩
  have HMO := hid (fmul_calls r.bound x.push)
  rw [← hmo] at HMO
  have hmob : 0 ≤ mo ∧ mo ≤ 1099511627776 := by rw [hmo]; exact ⟨mulF_nnS HBN.out HOKx.out.2.2.2.2.1.1, (mulF_bd _ _).2⟩
  obtain ⟨vz, hvz⟩ : ∃ z, z = dotF s1 s2 r.t1 r.t2 := ⟨_, rfl⟩
  have HDOT := hid (vdot_calls s1 s2 r.t1 r.t2)
  rw [← hvz] at HDOT
  obtain ⟨qd, hqd⟩ : ∃ z, z = divF vz r.slip := ⟨_, rfl⟩
  have HOV := hid (sover_calls vz r.slip)
  rw [← hqd] at HOV
  obtain ⟨sv, hsv⟩ : ∃ z, z = subF x.sli qd := ⟨_, rfl⟩
  have HSB := hid (fsub_calls x.sli qd)
  rw [← hsv] at HSB
  have hwm : IntKind.i64.wrap (-mo) = -mo := IntWalk.i64_in _ (by omega)
  obtain ⟨mx, hmx⟩ : ∃ z, z = max sv (-mo) := ⟨_, rfl⟩
  obtain ⟨sl, hsl⟩ : ∃ z, z = min mx mo := ⟨_, rfl⟩
  have hrmax : ∀ (ts : Array TypeId) (t : TypeId) (w : World), (Builtin.max_ ts t #[.int .i64 sv, .int .i64 (-mo)]).run Try.prog w = .ok (.int .i64 mx) w := fun ts t w => by rw [run_max_int2, show (if -mo > sv then -mo else sv) = mx by rw [hmx]; split <;> omega]
  have hrmin : ∀ (ts : Array TypeId) (t : TypeId) (w : World), (Builtin.min_ ts t #[.int .i64 mx, .int .i64 mo]).run Try.prog w = .ok (.int .i64 sl) w := fun ts t w => by rw [run_min_int2, show (if mo < mx then mo else mx) = sl by rw [hsl]; split <;> omega]
  have hcl : slideZ (L.map valB) x r = sl := by unfold slideZ; rw [hrel, ← hvz, ← hqd, ← hsv, ← hmo, hsl, hmx]; unfold clampN; split <;> (try split) <;> omega
  obtain ⟨ds, hds⟩ : ∃ z, z = subF sl x.sli := ⟨_, rfl⟩
  have HSD := hid (fsub_calls sl x.sli)
  rw [← hds] at HSD
  obtain ⟨j1, hj1⟩ : ∃ z, z = mulF r.t1 ds := ⟨_, rfl⟩
  obtain ⟨j2, hj2⟩ : ∃ z, z = mulF r.t2 ds := ⟨_, rfl⟩
  have HSC := hid (vscale_calls r.t1 r.t2 ds)
  rw [← hj1, ← hj2] at HSC
  have HJB : Hid ((-1099511627776 ≤ j1 ∧ j1 ≤ 1099511627776) ∧ (-1099511627776 ≤ j2 ∧ j2 ≤ 1099511627776)) := by rw [hj1, hj2]; exact ⟨mulF_bd _ _, mulF_bd _ _⟩
  have HQ9 : Hid (slipQ (L.map valB) x r = (pushX (L.map valB) x j1 j2, { x with sli := sl })) := by have h9 : slipQ (L.map valB) x r = (pushX (L.map valB) x (mulF r.t1 (subF (slideZ (L.map valB) x r) x.sli)) (mulF r.t2 (subF (slideZ (L.map valB) x r) x.sli)), { x with sli := slideZ (L.map valB) x r }) := (by unfold slipQ; rw [if_neg hz]); rw [h9, hcl, ← hds, ← hj1, ← hj2] <;> rfl
  clear hs1 hs2 hrel hmo hmob hvz hqd hsv hmx hsl hcl hds hj1 hj2 hz
  go_upto_region 2 with fail
  clear rr0 rr1 rr2 rr3 rr4 rr5 rrf
  refine wp_region_noPanic ?_
  refine wp_region_U (S := (S2 (fun w' => Sr w gs g gc gq cap cc cq L C R w' ∧ Rg w' gR r.t1 r.t2 r.ease r.slip r.lift r.bound))) (T := (fun _ => 0)) (by kernel_rfl) (S2i0 ⟨HSR.out.drew, HRG.out.drew⟩) (fun hH => ?_)
  have hWr8 : Weaker (S2 (fun w' => Sr w gs g gc gq cap cc cq L C R w' ∧ Rg w' gR r.t1 r.t2 r.ease r.slip r.lift r.bound)) := weaker2 _
  refine U_take 0 25 7 0 0 (v := ?vr8_1) rfl (by kernel_rfl) (by kernel_rfl) hWr8 (by kernel_rfl) (by kernel_rfl) (by kernel_rfl) (by kernel_rfl) (by kernel_rfl) (by kernel_rfl) (fun _ _ _ _ h => h) (by kernel_rfl) ?hyr8_1 (by omega) hH ?_
  case hyr8_1 => (intro w' hSw; clear hSw; go_simp; try (with_reducible rfl))
  simp only [List.set_cons_zero, List.set_cons_succ]
  refine U_take 1 26 6 0 0 (v := ?vr8_2) rfl (by kernel_rfl) (by kernel_rfl) hWr8 (by kernel_rfl) (by kernel_rfl) (by kernel_rfl) (by kernel_rfl) (by kernel_rfl) (by kernel_rfl) (fun _ _ _ _ h => h) (by kernel_rfl) ?hyr8_2 (by omega) hH ?_
  case hyr8_2 => (intro w' hSw; replace hSw := S2o0 hSw; (try dsimp only at hSw); have q0 := hSw.1; have q1 := hSw.2; have qa0_s0 := (q0).s0; have qa0_s1 := (q0).s1; have qa0_s2 := (q0).s2; obtain ⟨qa0_0, qa0_1, qa0_2, qa0_3, qa0_4, qa0_5, qa0_6, qa0_7, qa0_8, qa0_9⟩ := cells_ct0 (q0).cl HIx.out.1 HIx.out.2; obtain ⟨b0_0, b0_1, b0_2, b0_3, b0_4, b0_5⟩ := cells_rw (q0).rl hir HR.out; obtain ⟨r1_0, r1_1, r1_2, r1_3, r1_4, r1_5, r1_f⟩ := id q1; go_simp; try (with_reducible rfl))
  simp only [List.set_cons_zero, List.set_cons_succ]
  refine U_take 2 27 5 0 0 (v := ?vr8_3) rfl (by kernel_rfl) (by kernel_rfl) hWr8 (by kernel_rfl) (by kernel_rfl) (by kernel_rfl) (by kernel_rfl) (by kernel_rfl) (by kernel_rfl) (fun _ _ _ _ h => h) (by kernel_rfl) ?hyr8_3 (by omega) hH ?_
  case hyr8_3 => (intro w' hSw; clear hSw; go_simp; try (with_reducible rfl))
  simp only [List.set_cons_zero, List.set_cons_succ]
  refine U_take 3 28 4 0 0 (v := ?vr8_4) rfl (by kernel_rfl) (by kernel_rfl) hWr8 (by kernel_rfl) (by kernel_rfl) (by kernel_rfl) (by kernel_rfl) (by kernel_rfl) (by kernel_rfl) (fun _ _ _ _ h => h) (by kernel_rfl) ?hyr8_4 (by omega) hH ?_
  case hyr8_4 => (intro w' hSw; clear hSw; go_simp; try (with_reducible rfl))
  simp only [List.set_cons_zero, List.set_cons_succ]
  refine U_take 4 29 3 0 0 (v := ?vr8_5) rfl (by kernel_rfl) (by kernel_rfl) hWr8 (by kernel_rfl) (by kernel_rfl) (by kernel_rfl) (by kernel_rfl) (by kernel_rfl) (by kernel_rfl) (fun _ _ _ _ h => h) (by kernel_rfl) ?hyr8_5 (by omega) hH ?_
  case hyr8_5 => (intro w' hSw; clear hSw; go_simp; try (with_reducible rfl))
  simp only [List.set_cons_zero, List.set_cons_succ]
  refine U_take 5 30 2 0 0 (v := ?vr8_6) rfl (by kernel_rfl) (by kernel_rfl) hWr8 (by kernel_rfl) (by kernel_rfl) (by kernel_rfl) (by kernel_rfl) (by kernel_rfl) (by kernel_rfl) (fun _ _ _ _ h => h) (by kernel_rfl) ?hyr8_6 (by omega) hH ?_
  case hyr8_6 => (intro w' hSw; replace hSw := S2o0 hSw; (try dsimp only at hSw); have q0 := hSw.1; have q1 := hSw.2; have qa0_s0 := (q0).s0; have qa0_s1 := (q0).s1; have qa0_s2 := (q0).s2; obtain ⟨qa0_0, qa0_1, qa0_2, qa0_3, qa0_4, qa0_5, qa0_6, qa0_7, qa0_8, qa0_9⟩ := cells_ct0 (q0).cl HIx.out.1 HIx.out.2; obtain ⟨b0_0, b0_1, b0_2, b0_3, b0_4, b0_5⟩ := cells_rw (q0).rl hir HR.out; obtain ⟨r1_0, r1_1, r1_2, r1_3, r1_4, r1_5, r1_f⟩ := id q1; go_simp; try (with_reducible rfl))
  simp only [List.set_cons_zero, List.set_cons_succ]
  refine wpAnyU_ready (rs := [6]) (by kernel_rfl) (by simp) ?_
  refine AllReadyU.cons 0 (by kernel_rfl) (o := _) rfl (fun K hK => ?_) AllReadyU.nil
  try clear hb
  go_simp
  (go_at_call 22; refine (HMO.out _).mono ?_; rintro e wn ⟨rfl, hb⟩)
  refine hK.out _ _ ?hsr8_7 (fun hH2 => ?hrr8_7)
  case hsr8_7 => exact S2i0 (by have hG := hH; replace hG := S2o0 hG; (try dsimp only at hG); have q0 := hG.1; have q1 := hG.2; exact ⟨keepSr hb q0, keepRg hb q1⟩)
  clear hK K hH
  have hH := hH2
  clear hH2
  try simp only [Act.put, List.setIfInBounds_toArray, List.set_cons_zero, List.set_cons_succ]
  refine U_take 7 6 0 0 0 (v := ?vr8_8) rfl (by kernel_rfl) (by kernel_rfl) hWr8 (by kernel_rfl) (by kernel_rfl) (by kernel_rfl) (by kernel_rfl) (by kernel_rfl) (by kernel_rfl) (fun _ _ _ _ h => h) (by kernel_rfl) ?hyr8_8 (by omega) hH ?_
  case hyr8_8 => (intro w' hSw; clear hSw; go_simp; try (with_reducible rfl))
  simp only [List.set_cons_zero, List.set_cons_succ]
  refine wpAnyU_done (by kernel_rfl) ?_ _ _
  refine NoPanic.normal ?_
  clear hWr8
  replace hH := S2o0 hH
  (try dsimp only at hH)
  have t0 := hH.1
  have t1 := hH.2
  replace HSR := hid t0
  replace HRG := hid t1
  clear t0 t1
  try clear hH hb
  go_upto_region 3 with fail
  refine wp_region_noPanic ?_
  refine wp_region_U (S := (S2 (fun w' => Sr w gs g gc gq cap cc cq L C R w' ∧ Rg w' gR r.t1 r.t2 r.ease r.slip r.lift r.bound))) (T := (fun _ => 0)) (by kernel_rfl) (S2i0 ⟨HSR.out.drew, HRG.out.drew⟩) (fun hH => ?_)
  have hWr9 : Weaker (S2 (fun w' => Sr w gs g gc gq cap cc cq L C R w' ∧ Rg w' gR r.t1 r.t2 r.ease r.slip r.lift r.bound)) := weaker2 _
  refine U_take 0 32 21 0 0 (v := ?vr9_1) rfl (by kernel_rfl) (by kernel_rfl) hWr9 (by kernel_rfl) (by kernel_rfl) (by kernel_rfl) (by kernel_rfl) (by kernel_rfl) (by kernel_rfl) (fun _ _ _ _ h => h) (by kernel_rfl) ?hyr9_1 (by omega) hH ?_
  case hyr9_1 => (intro w' hSw; clear hSw; go_simp; try (with_reducible rfl))
  simp only [List.set_cons_zero, List.set_cons_succ]
  refine U_take 1 33 20 0 0 (v := ?vr9_2) rfl (by kernel_rfl) (by kernel_rfl) hWr9 (by kernel_rfl) (by kernel_rfl) (by kernel_rfl) (by kernel_rfl) (by kernel_rfl) (by kernel_rfl) (fun _ _ _ _ h => h) (by kernel_rfl) ?hyr9_2 (by omega) hH ?_
  case hyr9_2 => (intro w' hSw; clear hSw; go_simp; try (with_reducible rfl))
  simp only [List.set_cons_zero, List.set_cons_succ]
  refine U_take 2 34 19 0 0 (v := ?vr9_3) rfl (by kernel_rfl) (by kernel_rfl) hWr9 (by kernel_rfl) (by kernel_rfl) (by kernel_rfl) (by kernel_rfl) (by kernel_rfl) (by kernel_rfl) (fun _ _ _ _ h => h) (by kernel_rfl) ?hyr9_3 (by omega) hH ?_
  case hyr9_3 => (intro w' hSw; clear hSw; go_simp; try (with_reducible rfl))
  simp only [List.set_cons_zero, List.set_cons_succ]
  refine U_take 3 35 18 0 0 (v := ?vr9_4) rfl (by kernel_rfl) (by kernel_rfl) hWr9 (by kernel_rfl) (by kernel_rfl) (by kernel_rfl) (by kernel_rfl) (by kernel_rfl) (by kernel_rfl) (fun _ _ _ _ h => h) (by kernel_rfl) ?hyr9_4 (by omega) hH ?_
  case hyr9_4 => (intro w' hSw; replace hSw := S2o0 hSw; (try dsimp only at hSw); have q0 := hSw.1; have q1 := hSw.2; have qa0_s0 := (q0).s0; have qa0_s1 := (q0).s1; have qa0_s2 := (q0).s2; obtain ⟨qa0_0, qa0_1, qa0_2, qa0_3, qa0_4, qa0_5, qa0_6, qa0_7, qa0_8, qa0_9⟩ := cells_ct0 (q0).cl HIx.out.1 HIx.out.2; obtain ⟨b0_0, b0_1, b0_2, b0_3, b0_4, b0_5⟩ := cells_rw (q0).rl hir HR.out; obtain ⟨r1_0, r1_1, r1_2, r1_3, r1_4, r1_5, r1_f⟩ := id q1; go_simp; try (with_reducible rfl))
  simp only [List.set_cons_zero, List.set_cons_succ]
  refine U_take 4 36 17 0 0 (v := ?vr9_5) rfl (by kernel_rfl) (by kernel_rfl) hWr9 (by kernel_rfl) (by kernel_rfl) (by kernel_rfl) (by kernel_rfl) (by kernel_rfl) (by kernel_rfl) (fun _ _ _ _ h => h) (by kernel_rfl) ?hyr9_5 (by omega) hH ?_
  case hyr9_5 => (intro w' hSw; clear hSw; go_simp; try (with_reducible rfl))
  simp only [List.set_cons_zero, List.set_cons_succ]
  refine U_take 5 37 16 0 0 (v := ?vr9_6) rfl (by kernel_rfl) (by kernel_rfl) hWr9 (by kernel_rfl) (by kernel_rfl) (by kernel_rfl) (by kernel_rfl) (by kernel_rfl) (by kernel_rfl) (fun _ _ _ _ h => h) (by kernel_rfl) ?hyr9_6 (by omega) hH ?_
  case hyr9_6 => (intro w' hSw; clear hSw; go_simp; try (with_reducible rfl))
  simp only [List.set_cons_zero, List.set_cons_succ]
  refine U_take 6 38 15 0 0 (v := ?vr9_7) rfl (by kernel_rfl) (by kernel_rfl) hWr9 (by kernel_rfl) (by kernel_rfl) (by kernel_rfl) (by kernel_rfl) (by kernel_rfl) (by kernel_rfl) (fun _ _ _ _ h => h) (by kernel_rfl) ?hyr9_7 (by omega) hH ?_
  case hyr9_7 => (intro w' hSw; clear hSw; go_simp; try (with_reducible rfl))
  simp only [List.set_cons_zero, List.set_cons_succ]
  refine U_take 7 39 14 0 0 (v := ?vr9_8) rfl (by kernel_rfl) (by kernel_rfl) hWr9 (by kernel_rfl) (by kernel_rfl) (by kernel_rfl) (by kernel_rfl) (by kernel_rfl) (by kernel_rfl) (fun _ _ _ _ h => h) (by kernel_rfl) ?hyr9_8 (by omega) hH ?_
  case hyr9_8 => (intro w' hSw; replace hSw := S2o0 hSw; (try dsimp only at hSw); have q0 := hSw.1; have q1 := hSw.2; have qa0_s0 := (q0).s0; have qa0_s1 := (q0).s1; have qa0_s2 := (q0).s2; obtain ⟨qa0_0, qa0_1, qa0_2, qa0_3, qa0_4, qa0_5, qa0_6, qa0_7, qa0_8, qa0_9⟩ := cells_ct0 (q0).cl HIx.out.1 HIx.out.2; obtain ⟨b0_0, b0_1, b0_2, b0_3, b0_4, b0_5⟩ := cells_rw (q0).rl hir HR.out; obtain ⟨r1_0, r1_1, r1_2, r1_3, r1_4, r1_5, r1_f⟩ := id q1; go_simp; try (with_reducible rfl))
  simp only [List.set_cons_zero, List.set_cons_succ]
  refine U_take 9 41 13 0 0 (v := ?vr9_9) rfl (by kernel_rfl) (by kernel_rfl) hWr9 (by kernel_rfl) (by kernel_rfl) (by kernel_rfl) (by kernel_rfl) (by kernel_rfl) (by kernel_rfl) (fun _ _ _ _ h => h) (by kernel_rfl) ?hyr9_9 (by omega) hH ?_
  case hyr9_9 => (intro w' hSw; clear hSw; go_simp; try (with_reducible rfl))
  simp only [List.set_cons_zero, List.set_cons_succ]
  refine U_take 10 42 12 0 0 (v := ?vr9_10) rfl (by kernel_rfl) (by kernel_rfl) hWr9 (by kernel_rfl) (by kernel_rfl) (by kernel_rfl) (by kernel_rfl) (by kernel_rfl) (by kernel_rfl) (fun _ _ _ _ h => h) (by kernel_rfl) ?hyr9_10 (by omega) hH ?_
  case hyr9_10 => (intro w' hSw; replace hSw := S2o0 hSw; (try dsimp only at hSw); have q0 := hSw.1; have q1 := hSw.2; have qa0_s0 := (q0).s0; have qa0_s1 := (q0).s1; have qa0_s2 := (q0).s2; obtain ⟨qa0_0, qa0_1, qa0_2, qa0_3, qa0_4, qa0_5, qa0_6, qa0_7, qa0_8, qa0_9⟩ := cells_ct0 (q0).cl HIx.out.1 HIx.out.2; obtain ⟨b0_0, b0_1, b0_2, b0_3, b0_4, b0_5⟩ := cells_rw (q0).rl hir HR.out; obtain ⟨r1_0, r1_1, r1_2, r1_3, r1_4, r1_5, r1_f⟩ := id q1; go_simp; try (with_reducible rfl))
  simp only [List.set_cons_zero, List.set_cons_succ]
  refine U_take 12 44 11 0 0 (v := ?vr9_11) rfl (by kernel_rfl) (by kernel_rfl) hWr9 (by kernel_rfl) (by kernel_rfl) (by kernel_rfl) (by kernel_rfl) (by kernel_rfl) (by kernel_rfl) (fun _ _ _ _ h => h) (by kernel_rfl) ?hyr9_11 (by omega) hH ?_
  case hyr9_11 => (intro w' hSw; clear hSw; go_simp; try (with_reducible rfl))
  simp only [List.set_cons_zero, List.set_cons_succ]
  refine U_take 13 45 10 0 0 (v := ?vr9_12) rfl (by kernel_rfl) (by kernel_rfl) hWr9 (by kernel_rfl) (by kernel_rfl) (by kernel_rfl) (by kernel_rfl) (by kernel_rfl) (by kernel_rfl) (fun _ _ _ _ h => h) (by kernel_rfl) ?hyr9_12 (by omega) hH ?_
  case hyr9_12 => (intro w' hSw; replace hSw := S2o0 hSw; (try dsimp only at hSw); have q0 := hSw.1; have q1 := hSw.2; have qa0_s0 := (q0).s0; have qa0_s1 := (q0).s1; have qa0_s2 := (q0).s2; obtain ⟨qa0_0, qa0_1, qa0_2, qa0_3, qa0_4, qa0_5, qa0_6, qa0_7, qa0_8, qa0_9⟩ := cells_ct0 (q0).cl HIx.out.1 HIx.out.2; obtain ⟨b0_0, b0_1, b0_2, b0_3, b0_4, b0_5⟩ := cells_rw (q0).rl hir HR.out; obtain ⟨r1_0, r1_1, r1_2, r1_3, r1_4, r1_5, r1_f⟩ := id q1; go_simp; try (with_reducible rfl))
  simp only [List.set_cons_zero, List.set_cons_succ]
  refine U_take 16 48 9 0 0 (v := ?vr9_13) rfl (by kernel_rfl) (by kernel_rfl) hWr9 (by kernel_rfl) (by kernel_rfl) (by kernel_rfl) (by kernel_rfl) (by kernel_rfl) (by kernel_rfl) (fun _ _ _ _ h => h) (by kernel_rfl) ?hyr9_13 (by omega) hH ?_
  case hyr9_13 => (intro w' hSw; clear hSw; go_simp; try (with_reducible rfl))
  simp only [List.set_cons_zero, List.set_cons_succ]
  refine U_take 17 49 8 0 0 (v := ?vr9_14) rfl (by kernel_rfl) (by kernel_rfl) hWr9 (by kernel_rfl) (by kernel_rfl) (by kernel_rfl) (by kernel_rfl) (by kernel_rfl) (by kernel_rfl) (fun _ _ _ _ h => h) (by kernel_rfl) ?hyr9_14 (by omega) hH ?_
  case hyr9_14 => (intro w' hSw; clear hSw; go_simp; try (with_reducible rfl))
  simp only [List.set_cons_zero, List.set_cons_succ]
  refine U_take 19 51 7 0 0 (v := ?vr9_15) rfl (by kernel_rfl) (by kernel_rfl) hWr9 (by kernel_rfl) (by kernel_rfl) (by kernel_rfl) (by kernel_rfl) (by kernel_rfl) (by kernel_rfl) (fun _ _ _ _ h => h) (by kernel_rfl) ?hyr9_15 (by omega) hH ?_
  case hyr9_15 => (intro w' hSw; clear hSw; go_simp; try (with_reducible rfl))
  simp only [List.set_cons_zero, List.set_cons_succ]
  refine wpAnyU_ready (rs := [8]) (by kernel_rfl) (by simp) ?_
  refine AllReadyU.cons 0 (by kernel_rfl) (o := _) rfl (fun K hK => ?_) AllReadyU.nil
  try clear hb
  have hG := hH
  replace hG := S2o0 hG; (try dsimp only at hG); have fq0 := hG.1; have fq1 := hG.2
  have HRX := hid fq0
  clear hG fq0 fq1
  go_simp
  (go_at_call 32; refine (HSPD.out _ HRX.out).mono ?_; rintro e wn ⟨rfl, hb⟩)
  refine hK.out _ _ ?hsr9_16 (fun hH2 => ?hrr9_16)
  case hsr9_16 => exact S2i0 (by have hG := hH; replace hG := S2o0 hG; (try dsimp only at hG); have q0 := hG.1; have q1 := hG.2; exact ⟨keepSr hb q0, keepRg hb q1⟩)
  clear hK K hH
  have hH := hH2
  clear hH2
  try simp only [Act.put, List.setIfInBounds_toArray, List.set_cons_zero, List.set_cons_succ]
  clear HRX
  refine wpAnyU_ready (rs := [11]) (by kernel_rfl) (by simp) ?_
  refine AllReadyU.cons 0 (by kernel_rfl) (o := _) rfl (fun K hK => ?_) AllReadyU.nil
  try clear hb
  go_simp
  (go_at_call 31; refine (HDOT.out _).mono ?_; rintro e wn ⟨rfl, hb⟩)
  refine hK.out _ _ ?hsr9_17 (fun hH2 => ?hrr9_17)
  case hsr9_17 => exact S2i0 (by have hG := hH; replace hG := S2o0 hG; (try dsimp only at hG); have q0 := hG.1; have q1 := hG.2; exact ⟨keepSr hb q0, keepRg hb q1⟩)
  clear hK K hH
  have hH := hH2
  clear hH2
  try simp only [Act.put, List.setIfInBounds_toArray, List.set_cons_zero, List.set_cons_succ]
  refine wpAnyU_ready (rs := [14]) (by kernel_rfl) (by simp) ?_
  refine AllReadyU.cons 0 (by kernel_rfl) (o := _) rfl (fun K hK => ?_) AllReadyU.nil
  try clear hb
  go_simp
  (go_at_call 30; refine (HOV.out _).mono ?_; rintro e wn ⟨rfl, hb⟩)
  refine hK.out _ _ ?hsr9_18 (fun hH2 => ?hrr9_18)
  case hsr9_18 => exact S2i0 (by have hG := hH; replace hG := S2o0 hG; (try dsimp only at hG); have q0 := hG.1; have q1 := hG.2; exact ⟨keepSr hb q0, keepRg hb q1⟩)
  clear hK K hH
  have hH := hH2
  clear hH2
  try simp only [Act.put, List.setIfInBounds_toArray, List.set_cons_zero, List.set_cons_succ]
  refine wpAnyU_ready (rs := [15]) (by kernel_rfl) (by simp) ?_
  refine AllReadyU.cons 0 (by kernel_rfl) (o := _) rfl (fun K hK => ?_) AllReadyU.nil
  try clear hb
  go_simp
  (go_at_call 23; refine (HSB.out _).mono ?_; rintro e wn ⟨rfl, hb⟩)
  refine hK.out _ _ ?hsr9_19 (fun hH2 => ?hrr9_19)
  case hsr9_19 => exact S2i0 (by have hG := hH; replace hG := S2o0 hG; (try dsimp only at hG); have q0 := hG.1; have q1 := hG.2; exact ⟨keepSr hb q0, keepRg hb q1⟩)
  clear hK K hH
  have hH := hH2
  clear hH2
  try simp only [Act.put, List.setIfInBounds_toArray, List.set_cons_zero, List.set_cons_succ]
  refine U_take 18 50 2 0 0 (v := ?vr9_20) rfl (by kernel_rfl) (by kernel_rfl) hWr9 (by kernel_rfl) (by kernel_rfl) (by kernel_rfl) (by kernel_rfl) (by kernel_rfl) (by kernel_rfl) (fun _ _ _ _ h => h) (by kernel_rfl) ?hyr9_20 (by omega) hH ?_
  case hyr9_20 => (intro w' hSw; clear hSw; go_simp; try (with_reducible rfl))
  simp only [List.set_cons_zero, List.set_cons_succ]
  refine U_take 20 52 1 0 0 (v := ?vr9_21) rfl (by kernel_rfl) (by kernel_rfl) hWr9 (by kernel_rfl) (by kernel_rfl) (by kernel_rfl) (by kernel_rfl) (by kernel_rfl) (by kernel_rfl) (fun _ _ _ _ h => h) (by kernel_rfl) ?hyr9_21 (by omega) hH ?_
  case hyr9_21 => (intro w' hSw; clear hSw; go_simp; try (with_reducible rfl))
  simp only [List.set_cons_zero, List.set_cons_succ]
  refine U_take 21 7 0 0 0 (v := ?vr9_22) rfl (by kernel_rfl) (by kernel_rfl) hWr9 (by kernel_rfl) (by kernel_rfl) (by kernel_rfl) (by kernel_rfl) (by kernel_rfl) (by kernel_rfl) (fun _ _ _ _ h => h) (by kernel_rfl) ?hyr9_22 (by omega) hH ?_
  case hyr9_22 => (intro w' hSw; clear hSw; go_simp; try (with_reducible rfl))
  simp only [List.set_cons_zero, List.set_cons_succ]
  refine wpAnyU_done (by kernel_rfl) ?_ _ _
  refine NoPanic.normal ?_
  clear hWr9
  replace hH := S2o0 hH
  (try dsimp only at hH)
  have t0 := hH.1
  have t1 := hH.2
  replace HSR := hid t0
  replace HRG := hid t1
  clear t0 t1
  try clear hH hb
  go_upto_region 4 with fail
  refine wp_region_noPanic ?_
  refine wp_region_U (S := (S2 (fun w' => Sr w gs g gc gq cap cc cq L C R w' ∧ Rg w' gR r.t1 r.t2 r.ease r.slip r.lift r.bound))) (T := (fun j => [0, 0, 0, 0, 0, 0, 0, 0, 0, 0, 0, 0, 0, 1].getD j 0)) (by kernel_rfl) (S2i0 ⟨HSR.out.drew, HRG.out.drew⟩) (fun hH => ?_)
  have hWr10 : Weaker (S2 (fun w' => Sr w gs g gc gq cap cc cq L C R w' ∧ Rg w' gR r.t1 r.t2 r.ease r.slip r.lift r.bound)) := weaker2 _
  refine U_take 0 53 13 0 0 (v := ?vr10_1) rfl (by kernel_rfl) (by kernel_rfl) hWr10 (by kernel_rfl) (by kernel_rfl) (by kernel_rfl) (by kernel_rfl) (by kernel_rfl) (by kernel_rfl) (fun _ _ _ _ h => h) (by kernel_rfl) ?hyr10_1 (by omega) hH ?_
  case hyr10_1 => (intro w' hSw; clear hSw; go_simp; try (with_reducible rfl))
  simp only [List.set_cons_zero, List.set_cons_succ]
  refine U_take 1 54 12 0 0 (v := ?vr10_2) rfl (by kernel_rfl) (by kernel_rfl) hWr10 (by kernel_rfl) (by kernel_rfl) (by kernel_rfl) (by kernel_rfl) (by kernel_rfl) (by kernel_rfl) (fun _ _ _ _ h => h) (by kernel_rfl) ?hyr10_2 (by omega) hH ?_
  case hyr10_2 => (intro w' hSw; clear hSw; go_simp; try (with_reducible rfl))
  simp only [List.set_cons_zero, List.set_cons_succ]
  refine U_take 2 55 11 0 0 (v := ?vr10_3) rfl (by kernel_rfl) (by kernel_rfl) hWr10 (by kernel_rfl) (by kernel_rfl) (by kernel_rfl) (by kernel_rfl) (by kernel_rfl) (by kernel_rfl) (fun _ _ _ _ h => h) (by kernel_rfl) ?hyr10_3 (by omega) hH ?_
  case hyr10_3 => (intro w' hSw; clear hSw; go_simp; try (with_reducible rfl))
  simp only [List.set_cons_zero, List.set_cons_succ]
  refine U_take 3 56 10 0 0 (v := ?vr10_4) rfl (by kernel_rfl) (by kernel_rfl) hWr10 (by kernel_rfl) (by kernel_rfl) (by kernel_rfl) (by kernel_rfl) (by kernel_rfl) (by kernel_rfl) (fun _ _ _ _ h => h) (by kernel_rfl) ?hyr10_4 (by omega) hH ?_
  case hyr10_4 => (intro w' hSw; replace hSw := S2o0 hSw; (try dsimp only at hSw); have q0 := hSw.1; have q1 := hSw.2; have qa0_s0 := (q0).s0; have qa0_s1 := (q0).s1; have qa0_s2 := (q0).s2; obtain ⟨qa0_0, qa0_1, qa0_2, qa0_3, qa0_4, qa0_5, qa0_6, qa0_7, qa0_8, qa0_9⟩ := cells_ct0 (q0).cl HIx.out.1 HIx.out.2; obtain ⟨b0_0, b0_1, b0_2, b0_3, b0_4, b0_5⟩ := cells_rw (q0).rl hir HR.out; obtain ⟨r1_0, r1_1, r1_2, r1_3, r1_4, r1_5, r1_f⟩ := id q1; go_simp; try (with_reducible rfl))
  simp only [List.set_cons_zero, List.set_cons_succ]
  refine U_take 4 57 9 0 0 (v := ?vr10_5) rfl (by kernel_rfl) (by kernel_rfl) hWr10 (by kernel_rfl) (by kernel_rfl) (by kernel_rfl) (by kernel_rfl) (by kernel_rfl) (by kernel_rfl) (fun _ _ _ _ h => h) (by kernel_rfl) ?hyr10_5 (by omega) hH ?_
  case hyr10_5 => (intro w' hSw; clear hSw; go_simp; try (with_reducible rfl))
  simp only [List.set_cons_zero, List.set_cons_succ]
  refine U_take 5 58 8 0 0 (v := ?vr10_6) rfl (by kernel_rfl) (by kernel_rfl) hWr10 (by kernel_rfl) (by kernel_rfl) (by kernel_rfl) (by kernel_rfl) (by kernel_rfl) (by kernel_rfl) (fun _ _ _ _ h => h) (by kernel_rfl) ?hyr10_6 (by omega) hH ?_
  case hyr10_6 => (intro w' hSw; replace hSw := S2o0 hSw; (try dsimp only at hSw); have q0 := hSw.1; have q1 := hSw.2; have qa0_s0 := (q0).s0; have qa0_s1 := (q0).s1; have qa0_s2 := (q0).s2; obtain ⟨qa0_0, qa0_1, qa0_2, qa0_3, qa0_4, qa0_5, qa0_6, qa0_7, qa0_8, qa0_9⟩ := cells_ct0 (q0).cl HIx.out.1 HIx.out.2; obtain ⟨b0_0, b0_1, b0_2, b0_3, b0_4, b0_5⟩ := cells_rw (q0).rl hir HR.out; obtain ⟨r1_0, r1_1, r1_2, r1_3, r1_4, r1_5, r1_f⟩ := id q1; go_simp; try (with_reducible rfl))
  simp only [List.set_cons_zero, List.set_cons_succ]
  refine U_take 6 59 7 0 0 (v := ?vr10_7) rfl (by kernel_rfl) (by kernel_rfl) hWr10 (by kernel_rfl) (by kernel_rfl) (by kernel_rfl) (by kernel_rfl) (by kernel_rfl) (by kernel_rfl) (fun _ _ _ _ h => h) (by kernel_rfl) ?hyr10_7 (by omega) hH ?_
  case hyr10_7 => (intro w' hSw; clear hSw; go_simp; try (with_reducible rfl))
  simp only [List.set_cons_zero, List.set_cons_succ]
  refine U_take 7 60 6 0 0 (v := ?vr10_8) rfl (by kernel_rfl) (by kernel_rfl) hWr10 (by kernel_rfl) (by kernel_rfl) (by kernel_rfl) (by kernel_rfl) (by kernel_rfl) (by kernel_rfl) (fun _ _ _ _ h => h) (by kernel_rfl) ?hyr10_8 (by omega) hH ?_
  case hyr10_8 => (intro w' hSw; clear hSw; go_simp; try (with_reducible rfl))
  simp only [List.set_cons_zero, List.set_cons_succ]
  refine U_take 8 61 5 0 0 (v := ?vr10_9) rfl (by kernel_rfl) (by kernel_rfl) hWr10 (by kernel_rfl) (by kernel_rfl) (by kernel_rfl) (by kernel_rfl) (by kernel_rfl) (by kernel_rfl) (fun _ _ _ _ h => h) (by kernel_rfl) ?hyr10_9 (by omega) hH ?_
  case hyr10_9 => (intro w' hSw; clear hSw; go_simp; try (with_reducible rfl))
  simp only [List.set_cons_zero, List.set_cons_succ]
  refine U_take 9 62 4 0 0 (v := ?vr10_10) rfl (by kernel_rfl) (by kernel_rfl) hWr10 (by kernel_rfl) (by kernel_rfl) (by kernel_rfl) (by kernel_rfl) (by kernel_rfl) (by kernel_rfl) (fun _ _ _ _ h => h) (by kernel_rfl) ?hyr10_10 (by omega) hH ?_
  case hyr10_10 => (intro w' hSw; clear hSw; go_simp; try (with_reducible rfl))
  simp only [List.set_cons_zero, List.set_cons_succ]
  refine U_take 10 63 3 0 0 (v := ?vr10_11) rfl (by kernel_rfl) (by kernel_rfl) hWr10 (by kernel_rfl) (by kernel_rfl) (by kernel_rfl) (by kernel_rfl) (by kernel_rfl) (by kernel_rfl) (fun _ _ _ _ h => h) (by kernel_rfl) ?hyr10_11 (by omega) hH ?_
  case hyr10_11 => (intro w' hSw; replace hSw := S2o0 hSw; (try dsimp only at hSw); have q0 := hSw.1; have q1 := hSw.2; have qa0_s0 := (q0).s0; have qa0_s1 := (q0).s1; have qa0_s2 := (q0).s2; obtain ⟨qa0_0, qa0_1, qa0_2, qa0_3, qa0_4, qa0_5, qa0_6, qa0_7, qa0_8, qa0_9⟩ := cells_ct0 (q0).cl HIx.out.1 HIx.out.2; obtain ⟨b0_0, b0_1, b0_2, b0_3, b0_4, b0_5⟩ := cells_rw (q0).rl hir HR.out; obtain ⟨r1_0, r1_1, r1_2, r1_3, r1_4, r1_5, r1_f⟩ := id q1; go_simp; try (with_reducible rfl))
  simp only [List.set_cons_zero, List.set_cons_succ]
  refine wpAnyU_ready (rs := [11]) (by kernel_rfl) (by simp) ?_
  refine AllReadyU.cons 0 (by kernel_rfl) (o := _) rfl (fun K hK => ?_) AllReadyU.nil
  try clear hb
  go_simp
  (go_at_call 23; refine (HSD.out _).mono ?_; rintro e wn ⟨rfl, hb⟩)
  refine hK.out _ _ ?hsr10_12 (fun hH2 => ?hrr10_12)
  case hsr10_12 => exact S2i0 (by have hG := hH; replace hG := S2o0 hG; (try dsimp only at hG); have q0 := hG.1; have q1 := hG.2; exact ⟨keepSr hb q0, keepRg hb q1⟩)
  clear hK K hH
  have hH := hH2
  clear hH2
  try simp only [Act.put, List.setIfInBounds_toArray, List.set_cons_zero, List.set_cons_succ]
  refine wpAnyU_ready (rs := [12]) (by kernel_rfl) (by simp) ?_
  refine AllReadyU.cons 0 (by kernel_rfl) (o := _) rfl (fun K hK => ?_) AllReadyU.nil
  try clear hb
  go_simp
  (go_at_call 18; refine (HSC.out _).mono ?_; rintro e wn ⟨rfl, hb⟩)
  refine hK.out _ _ ?hsr10_13 (fun hH2 => ?hrr10_13)
  case hsr10_13 => exact S2i0 (by have hG := hH; replace hG := S2o0 hG; (try dsimp only at hG); have q0 := hG.1; have q1 := hG.2; exact ⟨keepSr hb q0, keepRg hb q1⟩)
  clear hK K hH
  have hH := hH2
  clear hH2
  try simp only [Act.put, List.setIfInBounds_toArray, List.set_cons_zero, List.set_cons_succ]
  refine wpAnyU_ready (rs := [13]) (by kernel_rfl) (by simp) ?_
  refine AllReadyU.cons 1 (by kernel_rfl) (o := _) rfl (fun K hK => ?_) AllReadyU.nil
  try clear hb
  have hG := hH
  replace hG := S2o0 hG; (try dsimp only at hG); have fq0 := hG.1; have fq1 := hG.2
  replace HSR := hid fq0
  replace HRG := hid fq1
  clear hG fq0 fq1
  go_simp
  (go_at_call 16; refine (HPSH.out _ _ _ HSR.out HJB.out.1 HJB.out.2).mono ?_; rintro e wp ⟨L8, rfl, hbl2, hm2, hg2, hnw2⟩)
  refine hK.out _ _ ?hsr10_14 (fun hH2 => ?hrr10_14)
  case hsr10_14 => exact S2i1
  clear hK K hH
  have hH := hH2
  clear hH2
  try simp only [Act.put, List.setIfInBounds_toArray, List.set_cons_zero, List.set_cons_succ]
  have hl1 : L8.length = L.length := by have h9 := congrArg List.length hm2; rw [List.length_map, (pushX_like (by rw [List.length_map]; exact HOKx.out) j1 j2).len, List.length_map] at h9; exact h9
  have HVN : Hid (∀ y ∈ L8, bodyE y.b y.l = 0) := by have h9 := pushX_like (Q := L.map valB) (x := x) (by rw [List.length_map]; exact HOKx.out) j1 j2; rw [← hm2] at h9; exact like_valid h9 HVL.out
  have HLN := hid hl1
  have HM2 := hid hm2
  replace HSR := hid (HSR.out.push hbl2 hl1 hg2 hnw2)
  replace HRG := hid (HRG.out.next hg2 (by have h9 := HSR.out.lt.1; omega))
  clear hl1 hbl2 hm2 hg2 hnw2
  refine wpAnyU_done (by kernel_rfl) ?_ _ _
  refine NoPanic.normal ?_
  go_upto_region 5 with fail
  obtain ⟨a0, a1, a2, a3, a4, a5, a6, a7, a8, a9⟩ := cells_ct0 HSR.out.cl HIx.out.1 HIx.out.2
  have af := HSR.out.cf
  obtain ⟨ws, hws⟩ : ∃ ws, ws = wp.setCell ⟨gc, i * 10 + 9, none⟩ (.int .i64 sl) := ⟨_, rfl⟩
  obtain ⟨x8, hx8⟩ : ∃ z : Ct, z = { x with sli := sl } := ⟨_, rfl⟩
  obtain ⟨C8, hC8⟩ : ∃ z : List Ct, z = C.set i x8 := ⟨_, rfl⟩
  have HSR2 := hid (HSR.out.setsli HIx.out.1 HIx.out.2 sl)
  rw [← hx8, ← hC8, ← hws] at HSR2
  have HRG2 := hid (HRG.out.next (grown_setCell wp gc (i * 10 + 9) (.int .i64 sl)) (by have h9 := HSR.out.lt.2.1; omega))
  rw [← hws] at HRG2
  have HIx8 : Hid (i < C8.length ∧ C8[i]? = some x8) := by have h9 := HIx.out.1; rw [hC8]; exact ⟨by rw [List.length_set]; exact h9, List.getElem?_set_self h9⟩
  have HXx8 : Hid (x8.a = ka ∧ x8.b = kb) := by rw [hx8]; exact HXx.out
  have HVL8 := HVN
  have HKL8 : Hid (ka < L8.length ∧ kb < L8.length ∧ L8.length ≤ 64) := by rw [HLN.out]; exact HKL.out
  have HEQslip : Hid (slipQ (L.map valB) x r = (L8.map valB, x8)) := by rw [HQ9.out, HM2.out, hx8]; rfl
  have HCC8 : Hid (C8 = C.set i x8) := hC8
  have HKL8L := HLN
  clear HSR HRG HQ9 HM2 HSPD HPSH HSD HSC HJB HVN HLN hx8 hC8
  have HSR := HSR2
  have HRG := HRG2
  clear HSR2 HRG2
  have HOKx8 : Hid (CtOk L8.length x8) := by have h9 := slipQ_ok (Q := L.map valB) (r := r) HOKx.out HBN.out; rw [HEQslip.out] at h9; rw [show L8.length = L.length from HKL8L.out]; exact h9
  go_upto_region 6 with fail
  rw [← hws]
  clear hws a0 a1 a2 a3 a4 a5 a6 a7 a8 a9 af
  obtain ⟨rr0, rr1, rr2, rr3, rr4, rr5, rrf⟩ := HRG.out
  by_cases hz : r.ease = 0
  · have HQ9 : Hid (roundQ (L.map valB) x r = (L8.map valB, x8)) := by show roundQ _ _ _ = _; unfold roundQ; rw [HEQslip.out]; show easeQ (L8.map valB) x8 r = _; unfold easeQ; rw [if_pos hz]
    have hzb : (r.ease != 0) = false := by simp [hz]
    clear hz
    have HB9 := hid HSR.out
    clear HRG HSR
    go_wp2
    exact bodyPost_ret (v := .tuple #[]) (by simp [results, Try.results19, go_sem]) rfl ⟨L8, C8, rfl, HB9.out, by rw [HQ9.out], by rw [HQ9.out]; exact HCC8.out⟩
  have hzb : (r.ease != 0) = true := by simp [hz]
  obtain ⟨s1, hs1⟩ : ∃ z, z = subF (speedX (qB (L8.map valB) x8.b) x8.px x8.py) (speedX (qB (L8.map valB) x8.a) x8.px x8.py) := ⟨_, rfl⟩
  obtain ⟨s2, hs2⟩ : ∃ z, z = subF (speedY (qB (L8.map valB) x8.b) x8.px x8.py) (speedY (qB (L8.map valB) x8.a) x8.px x8.py) := ⟨_, rfl⟩
  have HSPD : Hid (∀ w', Sr w gs g gc gq cap cc cq L8 C8 R w' → Calls Try.prog 32 #[.pointer (some ⟨gs, 0, none⟩), ctV x8] w' (Ret (vecV s1 s2) w')) := fun w' hr => by rw [hs1, hs2]; exact sspeed_calls cap gs g ka kb L8 x8 w' hr.bl HVL8.out hr.s0 HGS.out hab HKL8.out.1 HKL8.out.2.1 HXx8.out.1 HXx8.out.2 HKL8.out.2.2
  have HPSH : Hid (∀ w' j1 j2, Sr w gs g gc gq cap cc cq L8 C8 R w' → (-1099511627776 ≤ j1 ∧ j1 ≤ 1099511627776) → (-1099511627776 ≤ j2 ∧ j2 ≤ 1099511627776) → Calls Try.prog 16 #[.pointer (some ⟨gs, 0, none⟩), ctV x8, vecV j1 j2] w' (RetPush g L8 (pushX (L8.map valB) x8 j1 j2) w')) := fun w' j1 j2 hr h1 h2 => spush_calls cap gs g ka kb L8 x8 j1 j2 w' hr.bl HVL8.out hr.s0 HGS.out hab HKL8.out.1 HKL8.out.2.1 HXx8.out.1 HXx8.out.2 HKL8.out.2.2 h1 h2
  have hrel : ∀ v1 v2, relV (L8.map valB) x8 v1 v2 = dotF s1 s2 v1 v2 := fun v1 v2 => by unfold relV pulV; rw [hs1, hs2]
  obtain ⟨vz, hvz⟩ : ∃ z, z = dotF s1 s2 x8.nx x8.ny := ⟨_, rfl⟩
  have HDOT := hid (vdot_calls s1 s2 x8.nx x8.ny)
  rw [← hvz] at HDOT
  obtain ⟨sb, hsb⟩ : ∃ z, z = subF r.lift vz := ⟨_, rfl⟩
  have HSB := hid (fsub_calls r.lift vz)
  rw [← hsb] at HSB
  obtain ⟨qd, hqd⟩ : ∃ z, z = divF sb r.ease := ⟨_, rfl⟩
  have HOV := hid (sover_calls sb r.ease)
  rw [← hqd] at HOV
  obtain ⟨ad, had⟩ : ∃ z, z = addF x8.push qd := ⟨_, rfl⟩
  have HAD := hid (fadd_calls x8.push qd)
  rw [← had] at HAD
  obtain ⟨sl, hsl⟩ : ∃ z, z = max 0 ad := ⟨_, rfl⟩
  have hrmax : ∀ (ts : Array TypeId) (t : TypeId) (w : World), (Builtin.max_ ts t #[.int .i64 0, .int .i64 ad]).run Try.prog w = .ok (.int .i64 sl) w := fun ts t w => by rw [run_max_int2, show (if ad > 0 then ad else 0) = sl by rw [hsl]; split <;> omega]
  have hcl : pressZ (L8.map valB) x8 r = sl := by unfold pressZ; rw [hrel, ← hvz, ← hsb, ← hqd, ← had, hsl]
  obtain ⟨ds, hds⟩ : ∃ z, z = subF sl x8.push := ⟨_, rfl⟩
  have HSD := hid (fsub_calls sl x8.push)
  rw [← hds] at HSD
  obtain ⟨j1, hj1⟩ : ∃ z, z = mulF x8.nx ds := ⟨_, rfl⟩
  obtain ⟨j2, hj2⟩ : ∃ z, z = mulF x8.ny ds := ⟨_, rfl⟩
  have HSC := hid (vscale_calls x8.nx x8.ny ds)
  rw [← hj1, ← hj2] at HSC
  have HJB : Hid ((-1099511627776 ≤ j1 ∧ j1 ≤ 1099511627776) ∧ (-1099511627776 ≤ j2 ∧ j2 ≤ 1099511627776)) := by rw [hj1, hj2]; exact ⟨mulF_bd _ _, mulF_bd _ _⟩
  have HQ9 : Hid (easeQ (L8.map valB) x8 r = (pushX (L8.map valB) x8 j1 j2, { x8 with push := sl })) := by have h9 : easeQ (L8.map valB) x8 r = (pushX (L8.map valB) x8 (mulF x8.nx (subF (pressZ (L8.map valB) x8 r) x8.push)) (mulF x8.ny (subF (pressZ (L8.map valB) x8 r) x8.push)), { x8 with push := pressZ (L8.map valB) x8 r }) := (by unfold easeQ; rw [if_neg hz]); rw [h9, hcl, ← hds, ← hj1, ← hj2] <;> rfl
  clear hs1 hs2 hrel hvz hsb hqd had hsl hcl hds hj1 hj2 hz
  go_upto_region 7 with fail
  clear rr0 rr1 rr2 rr3 rr4 rr5 rrf
  refine wp_region_noPanic ?_
  refine wp_region_U (S := (S2 (fun w' => Sr w gs g gc gq cap cc cq L8 C8 R w' ∧ Rg w' gR r.t1 r.t2 r.ease r.slip r.lift r.bound))) (T := (fun _ => 0)) (by kernel_rfl) (S2i0 ⟨HSR.out.drew, HRG.out.drew⟩) (fun hH => ?_)
  have hWr6 : Weaker (S2 (fun w' => Sr w gs g gc gq cap cc cq L8 C8 R w' ∧ Rg w' gR r.t1 r.t2 r.ease r.slip r.lift r.bound)) := weaker2 _
  refine U_take 0 74 22 0 0 (v := ?vr6_1) rfl (by kernel_rfl) (by kernel_rfl) hWr6 (by kernel_rfl) (by kernel_rfl) (by kernel_rfl) (by kernel_rfl) (by kernel_rfl) (by kernel_rfl) (fun _ _ _ _ h => h) (by kernel_rfl) ?hyr6_1 (by omega) hH ?_
  case hyr6_1 => (intro w' hSw; clear hSw; go_simp; try (with_reducible rfl))
  simp only [List.set_cons_zero, List.set_cons_succ]
  refine U_take 1 75 21 0 0 (v := ?vr6_2) rfl (by kernel_rfl) (by kernel_rfl) hWr6 (by kernel_rfl) (by kernel_rfl) (by kernel_rfl) (by kernel_rfl) (by kernel_rfl) (by kernel_rfl) (fun _ _ _ _ h => h) (by kernel_rfl) ?hyr6_2 (by omega) hH ?_
  case hyr6_2 => (intro w' hSw; clear hSw; go_simp; try (with_reducible rfl))
  simp only [List.set_cons_zero, List.set_cons_succ]
  refine U_take 2 76 20 0 0 (v := ?vr6_3) rfl (by kernel_rfl) (by kernel_rfl) hWr6 (by kernel_rfl) (by kernel_rfl) (by kernel_rfl) (by kernel_rfl) (by kernel_rfl) (by kernel_rfl) (fun _ _ _ _ h => h) (by kernel_rfl) ?hyr6_3 (by omega) hH ?_
  case hyr6_3 => (intro w' hSw; clear hSw; go_simp; try (with_reducible rfl))
  simp only [List.set_cons_zero, List.set_cons_succ]
  refine U_take 3 77 19 0 0 (v := ?vr6_4) rfl (by kernel_rfl) (by kernel_rfl) hWr6 (by kernel_rfl) (by kernel_rfl) (by kernel_rfl) (by kernel_rfl) (by kernel_rfl) (by kernel_rfl) (fun _ _ _ _ h => h) (by kernel_rfl) ?hyr6_4 (by omega) hH ?_
  case hyr6_4 => (intro w' hSw; replace hSw := S2o0 hSw; (try dsimp only at hSw); have q0 := hSw.1; have q1 := hSw.2; have qa0_s0 := (q0).s0; have qa0_s1 := (q0).s1; have qa0_s2 := (q0).s2; obtain ⟨qa0_0, qa0_1, qa0_2, qa0_3, qa0_4, qa0_5, qa0_6, qa0_7, qa0_8, qa0_9⟩ := cells_ct0 (q0).cl HIx8.out.1 HIx8.out.2; obtain ⟨b0_0, b0_1, b0_2, b0_3, b0_4, b0_5⟩ := cells_rw (q0).rl hir HR.out; obtain ⟨r1_0, r1_1, r1_2, r1_3, r1_4, r1_5, r1_f⟩ := id q1; go_simp; try (with_reducible rfl))
  simp only [List.set_cons_zero, List.set_cons_succ]
  refine U_take 4 78 18 0 0 (v := ?vr6_5) rfl (by kernel_rfl) (by kernel_rfl) hWr6 (by kernel_rfl) (by kernel_rfl) (by kernel_rfl) (by kernel_rfl) (by kernel_rfl) (by kernel_rfl) (fun _ _ _ _ h => h) (by kernel_rfl) ?hyr6_5 (by omega) hH ?_
  case hyr6_5 => (intro w' hSw; clear hSw; go_simp; try (with_reducible rfl))
  simp only [List.set_cons_zero, List.set_cons_succ]
  refine U_take 5 79 17 0 0 (v := ?vr6_6) rfl (by kernel_rfl) (by kernel_rfl) hWr6 (by kernel_rfl) (by kernel_rfl) (by kernel_rfl) (by kernel_rfl) (by kernel_rfl) (by kernel_rfl) (fun _ _ _ _ h => h) (by kernel_rfl) ?hyr6_6 (by omega) hH ?_
  case hyr6_6 => (intro w' hSw; replace hSw := S2o0 hSw; (try dsimp only at hSw); have q0 := hSw.1; have q1 := hSw.2; have qa0_s0 := (q0).s0; have qa0_s1 := (q0).s1; have qa0_s2 := (q0).s2; obtain ⟨qa0_0, qa0_1, qa0_2, qa0_3, qa0_4, qa0_5, qa0_6, qa0_7, qa0_8, qa0_9⟩ := cells_ct0 (q0).cl HIx8.out.1 HIx8.out.2; obtain ⟨b0_0, b0_1, b0_2, b0_3, b0_4, b0_5⟩ := cells_rw (q0).rl hir HR.out; obtain ⟨r1_0, r1_1, r1_2, r1_3, r1_4, r1_5, r1_f⟩ := id q1; go_simp; try (with_reducible rfl))
  simp only [List.set_cons_zero, List.set_cons_succ]
  refine U_take 6 80 16 0 0 (v := ?vr6_7) rfl (by kernel_rfl) (by kernel_rfl) hWr6 (by kernel_rfl) (by kernel_rfl) (by kernel_rfl) (by kernel_rfl) (by kernel_rfl) (by kernel_rfl) (fun _ _ _ _ h => h) (by kernel_rfl) ?hyr6_7 (by omega) hH ?_
  case hyr6_7 => (intro w' hSw; clear hSw; go_simp; try (with_reducible rfl))
  simp only [List.set_cons_zero, List.set_cons_succ]
  refine U_take 7 81 15 0 0 (v := ?vr6_8) rfl (by kernel_rfl) (by kernel_rfl) hWr6 (by kernel_rfl) (by kernel_rfl) (by kernel_rfl) (by kernel_rfl) (by kernel_rfl) (by kernel_rfl) (fun _ _ _ _ h => h) (by kernel_rfl) ?hyr6_8 (by omega) hH ?_
  case hyr6_8 => (intro w' hSw; clear hSw; go_simp; try (with_reducible rfl))
  simp only [List.set_cons_zero, List.set_cons_succ]
  refine U_take 8 82 14 0 0 (v := ?vr6_9) rfl (by kernel_rfl) (by kernel_rfl) hWr6 (by kernel_rfl) (by kernel_rfl) (by kernel_rfl) (by kernel_rfl) (by kernel_rfl) (by kernel_rfl) (fun _ _ _ _ h => h) (by kernel_rfl) ?hyr6_9 (by omega) hH ?_
  case hyr6_9 => (intro w' hSw; clear hSw; go_simp; try (with_reducible rfl))
  simp only [List.set_cons_zero, List.set_cons_succ]
  refine U_take 9 83 13 0 0 (v := ?vr6_10) rfl (by kernel_rfl) (by kernel_rfl) hWr6 (by kernel_rfl) (by kernel_rfl) (by kernel_rfl) (by kernel_rfl) (by kernel_rfl) (by kernel_rfl) (fun _ _ _ _ h => h) (by kernel_rfl) ?hyr6_10 (by omega) hH ?_
  case hyr6_10 => (intro w' hSw; replace hSw := S2o0 hSw; (try dsimp only at hSw); have q0 := hSw.1; have q1 := hSw.2; have qa0_s0 := (q0).s0; have qa0_s1 := (q0).s1; have qa0_s2 := (q0).s2; obtain ⟨qa0_0, qa0_1, qa0_2, qa0_3, qa0_4, qa0_5, qa0_6, qa0_7, qa0_8, qa0_9⟩ := cells_ct0 (q0).cl HIx8.out.1 HIx8.out.2; obtain ⟨b0_0, b0_1, b0_2, b0_3, b0_4, b0_5⟩ := cells_rw (q0).rl hir HR.out; obtain ⟨r1_0, r1_1, r1_2, r1_3, r1_4, r1_5, r1_f⟩ := id q1; go_simp; try (with_reducible rfl))
  simp only [List.set_cons_zero, List.set_cons_succ]
  refine U_take 11 85 12 0 0 (v := ?vr6_11) rfl (by kernel_rfl) (by kernel_rfl) hWr6 (by kernel_rfl) (by kernel_rfl) (by kernel_rfl) (by kernel_rfl) (by kernel_rfl) (by kernel_rfl) (fun _ _ _ _ h => h) (by kernel_rfl) ?hyr6_11 (by omega) hH ?_
  case hyr6_11 => (intro w' hSw; clear hSw; go_simp; try (with_reducible rfl))
  simp only [List.set_cons_zero, List.set_cons_succ]
  refine U_take 12 86 11 0 0 (v := ?vr6_12) rfl (by kernel_rfl) (by kernel_rfl) hWr6 (by kernel_rfl) (by kernel_rfl) (by kernel_rfl) (by kernel_rfl) (by kernel_rfl) (by kernel_rfl) (fun _ _ _ _ h => h) (by kernel_rfl) ?hyr6_12 (by omega) hH ?_
  case hyr6_12 => (intro w' hSw; clear hSw; go_simp; try (with_reducible rfl))
  simp only [List.set_cons_zero, List.set_cons_succ]
  refine U_take 13 87 10 0 0 (v := ?vr6_13) rfl (by kernel_rfl) (by kernel_rfl) hWr6 (by kernel_rfl) (by kernel_rfl) (by kernel_rfl) (by kernel_rfl) (by kernel_rfl) (by kernel_rfl) (fun _ _ _ _ h => h) (by kernel_rfl) ?hyr6_13 (by omega) hH ?_
  case hyr6_13 => (intro w' hSw; clear hSw; go_simp; try (with_reducible rfl))
  simp only [List.set_cons_zero, List.set_cons_succ]
  refine U_take 14 88 9 0 0 (v := ?vr6_14) rfl (by kernel_rfl) (by kernel_rfl) hWr6 (by kernel_rfl) (by kernel_rfl) (by kernel_rfl) (by kernel_rfl) (by kernel_rfl) (by kernel_rfl) (fun _ _ _ _ h => h) (by kernel_rfl) ?hyr6_14 (by omega) hH ?_
  case hyr6_14 => (intro w' hSw; replace hSw := S2o0 hSw; (try dsimp only at hSw); have q0 := hSw.1; have q1 := hSw.2; have qa0_s0 := (q0).s0; have qa0_s1 := (q0).s1; have qa0_s2 := (q0).s2; obtain ⟨qa0_0, qa0_1, qa0_2, qa0_3, qa0_4, qa0_5, qa0_6, qa0_7, qa0_8, qa0_9⟩ := cells_ct0 (q0).cl HIx8.out.1 HIx8.out.2; obtain ⟨b0_0, b0_1, b0_2, b0_3, b0_4, b0_5⟩ := cells_rw (q0).rl hir HR.out; obtain ⟨r1_0, r1_1, r1_2, r1_3, r1_4, r1_5, r1_f⟩ := id q1; go_simp; try (with_reducible rfl))
  simp only [List.set_cons_zero, List.set_cons_succ]
  refine U_take 17 91 8 0 0 (v := ?vr6_15) rfl (by kernel_rfl) (by kernel_rfl) hWr6 (by kernel_rfl) (by kernel_rfl) (by kernel_rfl) (by kernel_rfl) (by kernel_rfl) (by kernel_rfl) (fun _ _ _ _ h => h) (by kernel_rfl) ?hyr6_15 (by omega) hH ?_
  case hyr6_15 => (intro w' hSw; clear hSw; go_simp; try (with_reducible rfl))
  simp only [List.set_cons_zero, List.set_cons_succ]
  refine U_take 18 92 7 0 0 (v := ?vr6_16) rfl (by kernel_rfl) (by kernel_rfl) hWr6 (by kernel_rfl) (by kernel_rfl) (by kernel_rfl) (by kernel_rfl) (by kernel_rfl) (by kernel_rfl) (fun _ _ _ _ h => h) (by kernel_rfl) ?hyr6_16 (by omega) hH ?_
  case hyr6_16 => (intro w' hSw; replace hSw := S2o0 hSw; (try dsimp only at hSw); have q0 := hSw.1; have q1 := hSw.2; have qa0_s0 := (q0).s0; have qa0_s1 := (q0).s1; have qa0_s2 := (q0).s2; obtain ⟨qa0_0, qa0_1, qa0_2, qa0_3, qa0_4, qa0_5, qa0_6, qa0_7, qa0_8, qa0_9⟩ := cells_ct0 (q0).cl HIx8.out.1 HIx8.out.2; obtain ⟨b0_0, b0_1, b0_2, b0_3, b0_4, b0_5⟩ := cells_rw (q0).rl hir HR.out; obtain ⟨r1_0, r1_1, r1_2, r1_3, r1_4, r1_5, r1_f⟩ := id q1; go_simp; try (with_reducible rfl))
  simp only [List.set_cons_zero, List.set_cons_succ]
  refine wpAnyU_ready (rs := [10]) (by kernel_rfl) (by simp) ?_
  refine AllReadyU.cons 0 (by kernel_rfl) (o := _) rfl (fun K hK => ?_) AllReadyU.nil
  try clear hb
  have hG := hH
  replace hG := S2o0 hG; (try dsimp only at hG); have fq0 := hG.1; have fq1 := hG.2
  have HRX := hid fq0
  clear hG fq0 fq1
  go_simp
  (go_at_call 32; refine (HSPD.out _ HRX.out).mono ?_; rintro e wn ⟨rfl, hb⟩)
  refine hK.out _ _ ?hsr6_17 (fun hH2 => ?hrr6_17)
  case hsr6_17 => exact S2i0 (by have hG := hH; replace hG := S2o0 hG; (try dsimp only at hG); have q0 := hG.1; have q1 := hG.2; exact ⟨keepSr hb q0, keepRg hb q1⟩)
  clear hK K hH
  have hH := hH2
  clear hH2
  try simp only [Act.put, List.setIfInBounds_toArray, List.set_cons_zero, List.set_cons_succ]
  clear HRX
  refine wpAnyU_ready (rs := [15]) (by kernel_rfl) (by simp) ?_
  refine AllReadyU.cons 0 (by kernel_rfl) (o := _) rfl (fun K hK => ?_) AllReadyU.nil
  try clear hb
  go_simp
  (go_at_call 31; refine (HDOT.out _).mono ?_; rintro e wn ⟨rfl, hb⟩)
  refine hK.out _ _ ?hsr6_18 (fun hH2 => ?hrr6_18)
  case hsr6_18 => exact S2i0 (by have hG := hH; replace hG := S2o0 hG; (try dsimp only at hG); have q0 := hG.1; have q1 := hG.2; exact ⟨keepSr hb q0, keepRg hb q1⟩)
  clear hK K hH
  have hH := hH2
  clear hH2
  try simp only [Act.put, List.setIfInBounds_toArray, List.set_cons_zero, List.set_cons_succ]
  refine wpAnyU_ready (rs := [16]) (by kernel_rfl) (by simp) ?_
  refine AllReadyU.cons 0 (by kernel_rfl) (o := _) rfl (fun K hK => ?_) AllReadyU.nil
  try clear hb
  go_simp
  (go_at_call 23; refine (HSB.out _).mono ?_; rintro e wn ⟨rfl, hb⟩)
  refine hK.out _ _ ?hsr6_19 (fun hH2 => ?hrr6_19)
  case hsr6_19 => exact S2i0 (by have hG := hH; replace hG := S2o0 hG; (try dsimp only at hG); have q0 := hG.1; have q1 := hG.2; exact ⟨keepSr hb q0, keepRg hb q1⟩)
  clear hK K hH
  have hH := hH2
  clear hH2
  try simp only [Act.put, List.setIfInBounds_toArray, List.set_cons_zero, List.set_cons_succ]
  refine wpAnyU_ready (rs := [19]) (by kernel_rfl) (by simp) ?_
  refine AllReadyU.cons 0 (by kernel_rfl) (o := _) rfl (fun K hK => ?_) AllReadyU.nil
  try clear hb
  go_simp
  (go_at_call 30; refine (HOV.out _).mono ?_; rintro e wn ⟨rfl, hb⟩)
  refine hK.out _ _ ?hsr6_20 (fun hH2 => ?hrr6_20)
  case hsr6_20 => exact S2i0 (by have hG := hH; replace hG := S2o0 hG; (try dsimp only at hG); have q0 := hG.1; have q1 := hG.2; exact ⟨keepSr hb q0, keepRg hb q1⟩)
  clear hK K hH
  have hH := hH2
  clear hH2
  try simp only [Act.put, List.setIfInBounds_toArray, List.set_cons_zero, List.set_cons_succ]
  refine wpAnyU_ready (rs := [20]) (by kernel_rfl) (by simp) ?_
  refine AllReadyU.cons 0 (by kernel_rfl) (o := _) rfl (fun K hK => ?_) AllReadyU.nil
  try clear hb
  go_simp
  (go_at_call 24; refine (HAD.out _).mono ?_; rintro e wn ⟨rfl, hb⟩)
  refine hK.out _ _ ?hsr6_21 (fun hH2 => ?hrr6_21)
  case hsr6_21 => exact S2i0 (by have hG := hH; replace hG := S2o0 hG; (try dsimp only at hG); have q0 := hG.1; have q1 := hG.2; exact ⟨keepSr hb q0, keepRg hb q1⟩)
  clear hK K hH
  have hH := hH2
  clear hH2
  try simp only [Act.put, List.setIfInBounds_toArray, List.set_cons_zero, List.set_cons_succ]
  refine U_take 21 95 1 0 0 (v := ?vr6_22) rfl (by kernel_rfl) (by kernel_rfl) hWr6 (by kernel_rfl) (by kernel_rfl) (by kernel_rfl) (by kernel_rfl) (by kernel_rfl) (by kernel_rfl) (fun _ _ _ _ h => h) (by kernel_rfl) ?hyr6_22 (by omega) hH ?_
  case hyr6_22 => (intro w' hSw; clear hSw; go_simp; try (with_reducible rfl))
  simp only [List.set_cons_zero, List.set_cons_succ]
  refine U_take 22 8 0 0 0 (v := ?vr6_23) rfl (by kernel_rfl) (by kernel_rfl) hWr6 (by kernel_rfl) (by kernel_rfl) (by kernel_rfl) (by kernel_rfl) (by kernel_rfl) (by kernel_rfl) (fun _ _ _ _ h => h) (by kernel_rfl) ?hyr6_23 (by omega) hH ?_
  case hyr6_23 => (intro w' hSw; clear hSw; go_simp; try (with_reducible rfl))
  simp only [List.set_cons_zero, List.set_cons_succ]
  refine wpAnyU_done (by kernel_rfl) ?_ _ _
  refine NoPanic.normal ?_
  clear hWr6
  replace hH := S2o0 hH
  (try dsimp only at hH)
  have t0 := hH.1
  have t1 := hH.2
  replace HSR := hid t0
  replace HRG := hid t1
  clear t0 t1
  try clear hH hb
  go_upto_region 8 with fail
  refine wp_region_noPanic ?_
  refine wp_region_U (S := (S2 (fun w' => Sr w gs g gc gq cap cc cq L8 C8 R w' ∧ Rg w' gR r.t1 r.t2 r.ease r.slip r.lift r.bound))) (T := (fun j => [0, 0, 0, 0, 0, 0, 0, 0, 0, 0, 0, 0, 0, 0, 0, 1].getD j 0)) (by kernel_rfl) (S2i0 ⟨HSR.out.drew, HRG.out.drew⟩) (fun hH => ?_)
  have hWr7 : Weaker (S2 (fun w' => Sr w gs g gc gq cap cc cq L8 C8 R w' ∧ Rg w' gR r.t1 r.t2 r.ease r.slip r.lift r.bound)) := weaker2 _
  refine U_take 0 96 15 0 0 (v := ?vr7_1) rfl (by kernel_rfl) (by kernel_rfl) hWr7 (by kernel_rfl) (by kernel_rfl) (by kernel_rfl) (by kernel_rfl) (by kernel_rfl) (by kernel_rfl) (fun _ _ _ _ h => h) (by kernel_rfl) ?hyr7_1 (by omega) hH ?_
  case hyr7_1 => (intro w' hSw; clear hSw; go_simp; try (with_reducible rfl))
  simp only [List.set_cons_zero, List.set_cons_succ]
  refine U_take 1 97 14 0 0 (v := ?vr7_2) rfl (by kernel_rfl) (by kernel_rfl) hWr7 (by kernel_rfl) (by kernel_rfl) (by kernel_rfl) (by kernel_rfl) (by kernel_rfl) (by kernel_rfl) (fun _ _ _ _ h => h) (by kernel_rfl) ?hyr7_2 (by omega) hH ?_
  case hyr7_2 => (intro w' hSw; clear hSw; go_simp; try (with_reducible rfl))
  simp only [List.set_cons_zero, List.set_cons_succ]
  refine U_take 2 98 13 0 0 (v := ?vr7_3) rfl (by kernel_rfl) (by kernel_rfl) hWr7 (by kernel_rfl) (by kernel_rfl) (by kernel_rfl) (by kernel_rfl) (by kernel_rfl) (by kernel_rfl) (fun _ _ _ _ h => h) (by kernel_rfl) ?hyr7_3 (by omega) hH ?_
  case hyr7_3 => (intro w' hSw; clear hSw; go_simp; try (with_reducible rfl))
  simp only [List.set_cons_zero, List.set_cons_succ]
  refine U_take 3 99 12 0 0 (v := ?vr7_4) rfl (by kernel_rfl) (by kernel_rfl) hWr7 (by kernel_rfl) (by kernel_rfl) (by kernel_rfl) (by kernel_rfl) (by kernel_rfl) (by kernel_rfl) (fun _ _ _ _ h => h) (by kernel_rfl) ?hyr7_4 (by omega) hH ?_
  case hyr7_4 => (intro w' hSw; replace hSw := S2o0 hSw; (try dsimp only at hSw); have q0 := hSw.1; have q1 := hSw.2; have qa0_s0 := (q0).s0; have qa0_s1 := (q0).s1; have qa0_s2 := (q0).s2; obtain ⟨qa0_0, qa0_1, qa0_2, qa0_3, qa0_4, qa0_5, qa0_6, qa0_7, qa0_8, qa0_9⟩ := cells_ct0 (q0).cl HIx8.out.1 HIx8.out.2; obtain ⟨b0_0, b0_1, b0_2, b0_3, b0_4, b0_5⟩ := cells_rw (q0).rl hir HR.out; obtain ⟨r1_0, r1_1, r1_2, r1_3, r1_4, r1_5, r1_f⟩ := id q1; go_simp; try (with_reducible rfl))
  simp only [List.set_cons_zero, List.set_cons_succ]
  refine U_take 4 100 11 0 0 (v := ?vr7_5) rfl (by kernel_rfl) (by kernel_rfl) hWr7 (by kernel_rfl) (by kernel_rfl) (by kernel_rfl) (by kernel_rfl) (by kernel_rfl) (by kernel_rfl) (fun _ _ _ _ h => h) (by kernel_rfl) ?hyr7_5 (by omega) hH ?_
  case hyr7_5 => (intro w' hSw; clear hSw; go_simp; try (with_reducible rfl))
  simp only [List.set_cons_zero, List.set_cons_succ]
  refine U_take 5 101 10 0 0 (v := ?vr7_6) rfl (by kernel_rfl) (by kernel_rfl) hWr7 (by kernel_rfl) (by kernel_rfl) (by kernel_rfl) (by kernel_rfl) (by kernel_rfl) (by kernel_rfl) (fun _ _ _ _ h => h) (by kernel_rfl) ?hyr7_6 (by omega) hH ?_
  case hyr7_6 => (intro w' hSw; clear hSw; go_simp; try (with_reducible rfl))
  simp only [List.set_cons_zero, List.set_cons_succ]
  refine U_take 6 102 9 0 0 (v := ?vr7_7) rfl (by kernel_rfl) (by kernel_rfl) hWr7 (by kernel_rfl) (by kernel_rfl) (by kernel_rfl) (by kernel_rfl) (by kernel_rfl) (by kernel_rfl) (fun _ _ _ _ h => h) (by kernel_rfl) ?hyr7_7 (by omega) hH ?_
  case hyr7_7 => (intro w' hSw; clear hSw; go_simp; try (with_reducible rfl))
  simp only [List.set_cons_zero, List.set_cons_succ]
  refine U_take 7 103 8 0 0 (v := ?vr7_8) rfl (by kernel_rfl) (by kernel_rfl) hWr7 (by kernel_rfl) (by kernel_rfl) (by kernel_rfl) (by kernel_rfl) (by kernel_rfl) (by kernel_rfl) (fun _ _ _ _ h => h) (by kernel_rfl) ?hyr7_8 (by omega) hH ?_
  case hyr7_8 => (intro w' hSw; replace hSw := S2o0 hSw; (try dsimp only at hSw); have q0 := hSw.1; have q1 := hSw.2; have qa0_s0 := (q0).s0; have qa0_s1 := (q0).s1; have qa0_s2 := (q0).s2; obtain ⟨qa0_0, qa0_1, qa0_2, qa0_3, qa0_4, qa0_5, qa0_6, qa0_7, qa0_8, qa0_9⟩ := cells_ct0 (q0).cl HIx8.out.1 HIx8.out.2; obtain ⟨b0_0, b0_1, b0_2, b0_3, b0_4, b0_5⟩ := cells_rw (q0).rl hir HR.out; obtain ⟨r1_0, r1_1, r1_2, r1_3, r1_4, r1_5, r1_f⟩ := id q1; go_simp; try (with_reducible rfl))
  simp only [List.set_cons_zero, List.set_cons_succ]
  refine U_take 8 104 7 0 0 (v := ?vr7_9) rfl (by kernel_rfl) (by kernel_rfl) hWr7 (by kernel_rfl) (by kernel_rfl) (by kernel_rfl) (by kernel_rfl) (by kernel_rfl) (by kernel_rfl) (fun _ _ _ _ h => h) (by kernel_rfl) ?hyr7_9 (by omega) hH ?_
  case hyr7_9 => (intro w' hSw; clear hSw; go_simp; try (with_reducible rfl))
  simp only [List.set_cons_zero, List.set_cons_succ]
  refine U_take 9 105 6 0 0 (v := ?vr7_10) rfl (by kernel_rfl) (by kernel_rfl) hWr7 (by kernel_rfl) (by kernel_rfl) (by kernel_rfl) (by kernel_rfl) (by kernel_rfl) (by kernel_rfl) (fun _ _ _ _ h => h) (by kernel_rfl) ?hyr7_10 (by omega) hH ?_
  case hyr7_10 => (intro w' hSw; clear hSw; go_simp; try (with_reducible rfl))
  simp only [List.set_cons_zero, List.set_cons_succ]
  refine U_take 10 106 5 0 0 (v := ?vr7_11) rfl (by kernel_rfl) (by kernel_rfl) hWr7 (by kernel_rfl) (by kernel_rfl) (by kernel_rfl) (by kernel_rfl) (by kernel_rfl) (by kernel_rfl) (fun _ _ _ _ h => h) (by kernel_rfl) ?hyr7_11 (by omega) hH ?_
  case hyr7_11 => (intro w' hSw; clear hSw; go_simp; try (with_reducible rfl))
  simp only [List.set_cons_zero, List.set_cons_succ]
  refine U_take 11 107 4 0 0 (v := ?vr7_12) rfl (by kernel_rfl) (by kernel_rfl) hWr7 (by kernel_rfl) (by kernel_rfl) (by kernel_rfl) (by kernel_rfl) (by kernel_rfl) (by kernel_rfl) (fun _ _ _ _ h => h) (by kernel_rfl) ?hyr7_12 (by omega) hH ?_
  case hyr7_12 => (intro w' hSw; clear hSw; go_simp; try (with_reducible rfl))
  simp only [List.set_cons_zero, List.set_cons_succ]
  refine U_take 12 108 3 0 0 (v := ?vr7_13) rfl (by kernel_rfl) (by kernel_rfl) hWr7 (by kernel_rfl) (by kernel_rfl) (by kernel_rfl) (by kernel_rfl) (by kernel_rfl) (by kernel_rfl) (fun _ _ _ _ h => h) (by kernel_rfl) ?hyr7_13 (by omega) hH ?_
  case hyr7_13 => (intro w' hSw; replace hSw := S2o0 hSw; (try dsimp only at hSw); have q0 := hSw.1; have q1 := hSw.2; have qa0_s0 := (q0).s0; have qa0_s1 := (q0).s1; have qa0_s2 := (q0).s2; obtain ⟨qa0_0, qa0_1, qa0_2, qa0_3, qa0_4, qa0_5, qa0_6, qa0_7, qa0_8, qa0_9⟩ := cells_ct0 (q0).cl HIx8.out.1 HIx8.out.2; obtain ⟨b0_0, b0_1, b0_2, b0_3, b0_4, b0_5⟩ := cells_rw (q0).rl hir HR.out; obtain ⟨r1_0, r1_1, r1_2, r1_3, r1_4, r1_5, r1_f⟩ := id q1; go_simp; try (with_reducible rfl))
  simp only [List.set_cons_zero, List.set_cons_succ]
  refine wpAnyU_ready (rs := [13]) (by kernel_rfl) (by simp) ?_
  refine AllReadyU.cons 0 (by kernel_rfl) (o := _) rfl (fun K hK => ?_) AllReadyU.nil
  try clear hb
  go_simp
  (go_at_call 23; refine (HSD.out _).mono ?_; rintro e wn ⟨rfl, hb⟩)
  refine hK.out _ _ ?hsr7_14 (fun hH2 => ?hrr7_14)
  case hsr7_14 => exact S2i0 (by have hG := hH; replace hG := S2o0 hG; (try dsimp only at hG); have q0 := hG.1; have q1 := hG.2; exact ⟨keepSr hb q0, keepRg hb q1⟩)
  clear hK K hH
  have hH := hH2
  clear hH2
  try simp only [Act.put, List.setIfInBounds_toArray, List.set_cons_zero, List.set_cons_succ]
  refine wpAnyU_ready (rs := [14]) (by kernel_rfl) (by simp) ?_
  refine AllReadyU.cons 0 (by kernel_rfl) (o := _) rfl (fun K hK => ?_) AllReadyU.nil
  try clear hb
  go_simp
  (go_at_call 18; refine (HSC.out _).mono ?_; rintro e wn ⟨rfl, hb⟩)
  refine hK.out _ _ ?hsr7_15 (fun hH2 => ?hrr7_15)
  case hsr7_15 => exact S2i0 (by have hG := hH; replace hG := S2o0 hG; (try dsimp only at hG); have q0 := hG.1; have q1 := hG.2; exact ⟨keepSr hb q0, keepRg hb q1⟩)
  clear hK K hH
  have hH := hH2
  clear hH2
  try simp only [Act.put, List.setIfInBounds_toArray, List.set_cons_zero, List.set_cons_succ]
  refine wpAnyU_ready (rs := [15]) (by kernel_rfl) (by simp) ?_
  refine AllReadyU.cons 1 (by kernel_rfl) (o := _) rfl (fun K hK => ?_) AllReadyU.nil
  try clear hb
  have hG := hH
  replace hG := S2o0 hG; (try dsimp only at hG); have fq0 := hG.1; have fq1 := hG.2
  replace HSR := hid fq0
  replace HRG := hid fq1
  clear hG fq0 fq1
  go_simp
  (go_at_call 16; refine (HPSH.out _ _ _ HSR.out HJB.out.1 HJB.out.2).mono ?_; rintro e wp ⟨L9, rfl, hbl2, hm2, hg2, hnw2⟩)
  refine hK.out _ _ ?hsr7_16 (fun hH2 => ?hrr7_16)
  case hsr7_16 => exact S2i1
  clear hK K hH
  have hH := hH2
  clear hH2
  try simp only [Act.put, List.setIfInBounds_toArray, List.set_cons_zero, List.set_cons_succ]
  have hl1 : L9.length = L8.length := by have h9 := congrArg List.length hm2; rw [List.length_map, (pushX_like (by rw [List.length_map]; exact HOKx8.out) j1 j2).len, List.length_map] at h9; exact h9
  have HVN : Hid (∀ y ∈ L9, bodyE y.b y.l = 0) := by have h9 := pushX_like (Q := L8.map valB) (x := x8) (by rw [List.length_map]; exact HOKx8.out) j1 j2; rw [← hm2] at h9; exact like_valid h9 HVL8.out
  have HLN := hid hl1
  have HM2 := hid hm2
  replace HSR := hid (HSR.out.push hbl2 hl1 hg2 hnw2)
  replace HRG := hid (HRG.out.next hg2 (by have h9 := HSR.out.lt.1; omega))
  clear hl1 hbl2 hm2 hg2 hnw2
  refine wpAnyU_done (by kernel_rfl) ?_ _ _
  refine NoPanic.normal ?_
  go_upto_region 9 with fail
  obtain ⟨a0, a1, a2, a3, a4, a5, a6, a7, a8, a9⟩ := cells_ct0 HSR.out.cl HIx8.out.1 HIx8.out.2
  have af := HSR.out.cf
  obtain ⟨ws, hws⟩ : ∃ ws, ws = wp.setCell ⟨gc, i * 10 + 8, none⟩ (.int .i64 sl) := ⟨_, rfl⟩
  obtain ⟨x9, hx9⟩ : ∃ z : Ct, z = { x8 with push := sl } := ⟨_, rfl⟩
  obtain ⟨C9, hC9⟩ : ∃ z : List Ct, z = C8.set i x9 := ⟨_, rfl⟩
  have HSR2 := hid (HSR.out.setpush HIx8.out.1 HIx8.out.2 sl)
  rw [← hx9, ← hC9, ← hws] at HSR2
  have HRG2 := hid (HRG.out.next (grown_setCell wp gc (i * 10 + 8) (.int .i64 sl)) (by have h9 := HSR.out.lt.2.1; omega))
  rw [← hws] at HRG2
  have HIx9 : Hid (i < C9.length ∧ C9[i]? = some x9) := by have h9 := HIx8.out.1; rw [hC9]; exact ⟨by rw [List.length_set]; exact h9, List.getElem?_set_self h9⟩
  have HXx9 : Hid (x9.a = ka ∧ x9.b = kb) := by rw [hx9]; exact HXx8.out
  have HVL9 := HVN
  have HKL9 : Hid (ka < L9.length ∧ kb < L9.length ∧ L9.length ≤ 64) := by rw [HLN.out]; exact HKL8.out
  have HEQease : Hid (easeQ (L8.map valB) x8 r = (L9.map valB, x9)) := by rw [HQ9.out, HM2.out, hx9]; rfl
  have HCC9 : Hid (C9 = C8.set i x9) := hC9
  have HKL9L8 := HLN
  clear HSR HRG HQ9 HM2 HSPD HPSH HSD HSC HJB HVN HLN hx9 hC9
  have HSR := HSR2
  have HRG := HRG2
  clear HSR2 HRG2
  have HQ9 : Hid (roundQ (L.map valB) x r = (L9.map valB, x9)) := by show roundQ _ _ _ = _; unfold roundQ; rw [HEQslip.out]; exact HEQease.out
  have HB9 := hid HSR.out
  clear HRG HSR
  go_wp2
  rw [← hws]
  exact bodyPost_ret (v := .tuple #[]) (by simp [results, Try.results19, go_sem]) rfl ⟨L9, C9, rfl, HB9.out, by rw [HQ9.out], by rw [HQ9.out]; exact (HCC9.out.trans (by rw [HCC8.out, List.set_set]))⟩
end
end Go.Proofs.Ytkiiehobphkmgaa
