/- Parts of a proof: contracts and laws. -/
import Derived.Test.YtbajmekmpgfpeaaB36
import Derived.Test.YtbajmekmpgfpeaaB20
namespace Go.Proofs.Ytbajmekmpgfpeaa
section
set_option linter.unusedVariables false
set_option linter.unusedSimpArgs false
open Go.RowKit
set_option maxRecDepth 100000 in
theorem run_eqVJ (x y u v : Int) (w : World) : (Op.equalIn 10000 24 (.agg #[.int .i64 x, .int .i64 y]) (.agg #[.int .i64 u, .int .i64 v])).run Try.prog w = .ok (x == u && y == v) w := by
  have hS : Try.prog.underlying 24 = some (.struct (Try.prog.fieldsOf 24)) := by kernel_rfl
  have hp : Try.prog.stoodInHeld 24 = false := by kernel_rfl
  rw [show (10000 : Nat) = 9999 + 1 from rfl, run_equalIn_agg w 9999 24 _ _ hS hp]
  simp only [Program.fieldsOf, Try.underlying24]
  go_simp
  by_cases h1 : x = u <;> by_cases h2 : y = v <;> simp [h1, h2]
theorem jointQ_zero {Q : List QB} {x : Jt} {st : Int} (h : x.len = 0) : jointQ Q x st = pullX (pullX Q x 65536 0 (jdX Q x) st) x 0 65536 (jdY Q x) st := by unfold jointQ; rw [if_pos h]
theorem jointQ_same {Q : List QB} {x : Jt} {st : Int} (h : ¬ x.len = 0) (h0 : jdX Q x = 0 ∧ jdY Q x = 0) : jointQ Q x st = pullX Q x 65536 0 (lenV (jdX Q x) (jdY Q x) - x.len) st := by unfold jointQ wayX wayY; rw [if_neg h, if_pos h0, if_pos h0]
theorem jointQ_way {Q : List QB} {x : Jt} {st : Int} (h : ¬ x.len = 0) (h0 : ¬ (jdX Q x = 0 ∧ jdY Q x = 0)) : jointQ Q x st = pullX Q x (unitX (jdX Q x) (jdY Q x)) (unitY (jdX Q x) (jdY Q x)) (lenV (jdX Q x) (jdY Q x) - x.len) st := by unfold jointQ wayX wayY; rw [if_neg h, if_neg h0, if_neg h0]
theorem lenV_zero : lenV 0 0 = 0 := by kernel_rfl
def runE (L : List BE) (J : List Jt) (st r : Int) : Int := if jointsE L J ≠ 0 then jointsE L J else if st < 1 ∨ 65536 < st ∨ r < 0 ∨ 32 < r then 1 else 0
def runQ (L : List BE) (J : List Jt) (st r : Int) : List QB := if runE L J st r = 0 then roundsQ (L.map valB) J st r.toNat else []
def RetRun (E : Int) (Q : List QB) (w : World) (e : Ending) (w' : World) : Prop := ∃ (A : Option Addr) (n c : Nat) (L' : List BE), e = .returned (.tuple #[.slice A n c, .int .i64 E]) ∧ SlB w' A n c L' ∧ L'.map valB = Q ∧ Below w.heap.size w w'

structure Vg (w : World) (g : Nat) (x y : Int) : Prop where
  a : w.cell? ⟨g, 0, none⟩ = some (.int .i64 x)
  b : w.cell? ⟨g, 1, none⟩ = some (.int .i64 y)
theorem keepVg {w w' : World} {g : Nat} {x y : Int} (hb : Below w.heap.size w w') (h : Vg w g x y) : Vg w' g x y := ⟨keepCell hb h.a, keepCell hb h.b⟩
theorem Vg.drew {w : World} {g : Nat} {x y : Int} (h : Vg w g x y) : Vg w.drew g x y := ⟨h.a, h.b⟩
theorem Vg.next {w w' : World} {g k : Nat} {x y : Int} (h : Vg w g x y) (hg : w.grownBy w' (some k)) (hne : g ≠ k) : Vg w' g x y :=
  ⟨(World.cell?_of_block (hg.block g (lt_of_cell h.a) (by simpa using hne))).trans h.a, (World.cell?_of_block (hg.block g (lt_of_cell h.a) (by simpa using hne))).trans h.b⟩
structure Jg (w : World) (g : Nat) (x : Jt) : Prop where
  c0 : w.cell? ⟨g, 0, none⟩ = some (.int .i64 x.a)
  c1 : w.cell? ⟨g, 1, none⟩ = some (.int .i64 x.b)
  c2 : w.cell? ⟨g, 2, none⟩ = some (.int .i64 x.p1)
  c3 : w.cell? ⟨g, 3, none⟩ = some (.int .i64 x.p2)
  c4 : w.cell? ⟨g, 4, none⟩ = some (.int .i64 x.q1)
  c5 : w.cell? ⟨g, 5, none⟩ = some (.int .i64 x.q2)
  c6 : w.cell? ⟨g, 6, none⟩ = some (.int .i64 x.len)
theorem keepJg {w w' : World} {g : Nat} {x : Jt} (hb : Below w.heap.size w w') (h : Jg w g x) : Jg w' g x :=
  ⟨keepCell hb h.c0, keepCell hb h.c1, keepCell hb h.c2, keepCell hb h.c3, keepCell hb h.c4, keepCell hb h.c5, keepCell hb h.c6⟩
theorem Jg.alloc {w : World} {g : Nat} {x : Jt} (h : Jg w g x) (o : Obj) : Jg (w.alloc o) g x := keepJg ((Below.refl _ _).alloc (Nat.le_refl _) _) h
theorem Vg.alloc {w : World} {g : Nat} {x y : Int} (h : Vg w g x y) (o : Obj) : Vg (w.alloc o) g x y := keepVg ((Below.refl _ _).alloc (Nat.le_refl _) _) h
theorem Jg.drew {w : World} {g : Nat} {x : Jt} (h : Jg w g x) : Jg w.drew g x := keepJg (Below.refl _ _).drew h
theorem Jg.next {w w' : World} {g k : Nat} {x : Jt} (h : Jg w g x) (hg : w.grownBy w' (some k)) (hne : g ≠ k) : Jg w' g x :=
  have e := hg.block g (lt_of_cell h.c0) (by simpa using hne)
  ⟨(World.cell?_of_block e).trans h.c0, (World.cell?_of_block e).trans h.c1, (World.cell?_of_block e).trans h.c2, (World.cell?_of_block e).trans h.c3, (World.cell?_of_block e).trans h.c4, (World.cell?_of_block e).trans h.c5, (World.cell?_of_block e).trans h.c6⟩

structure RJ (w0 : World) (s : Value) (L' : List BE) (w : World) : Prop where
  own : OwnE layB 27 w w0.heap.size s L'
  co : ∀ x ∈ L', Sl w x.A x.n x.c x.l ∧ x.l ≠ [] ∧ ∀ bx off, x.A = some ⟨bx, off, none⟩ → w0.heap.size ≤ bx ∧ some bx ≠ s.ownBlock
  bel : Below w0.heap.size w0 w
theorem keepRJ {w0 : World} {s : Value} {L' : List BE} {w w' : World} (hb : Below w.heap.size w w') (h : RJ w0 s L' w) : RJ w0 s L' w' :=
  ⟨h.own.below hb, fun x hx => ⟨(h.co x hx).1.below hb, (h.co x hx).2⟩, keepBelow hb h.bel⟩
theorem sl_grownR {w w' : World} {A : Option Addr} {n c : Nat} {l : List V} {row : Option Nat} (h : Sl w A n c l) (hg : w.grownBy w' row) (hne : ∀ b off, A = some ⟨b, off, none⟩ → some b ≠ row) : Sl w' A n c l := by
  cases row with
  | none => exact h.below ⟨hg.os, hg.tape, hg.output, hg.size, fun k hk => hg.block k hk (by simp)⟩
  | some g => exact h.grown hg (fun b off e => fun e2 => hne b off e (by rw [e2]))
theorem sl_lt {w : World} {A : Option Addr} {n c : Nat} {l : List V} (h : Sl w A n c l) (hl : l ≠ []) : ∀ bx off, A = some ⟨bx, off, none⟩ → bx < w.heap.size := fun bx off e => by
  obtain ⟨b', off', e', hc⟩ := h.at_ hl
  rw [e] at e'; cases e'; exact hc.lt
theorem RJ.set {w0 wb : World} {s : Value} {L' : List BE} {w : World} (hb : RJ w0 s L' wb) (h : RJ w0 s L' w) {k o : Nat} {v : Value} (hk : wb.heap.size ≤ k) : RJ w0 s L' (w.setCell ⟨k, o, none⟩ v) := by
  have hs := hb.bel.size
  refine ⟨h.own.off (fun j hj => by have := (hb.own.lt hj).2; omega) o v, fun x hx => ?_, h.bel.setCell (p := ⟨k, o, none⟩) (by show w0.heap.size ≤ k; omega) _⟩
  obtain ⟨h1, h2, h3⟩ := h.co x hx
  exact ⟨h1.setAt (fun bx off e => by have := sl_lt (hb.co x hx).1 h2 bx off e; omega), h2, h3⟩
theorem RJ.push {w0 wb : World} {s s' : Value} {L' : List BE} {w w7 : World} {o : Obj} {y : BE} (hb : RJ w0 s L' wb) (h : RJ w0 s L' w) (hS : Sl w y.A y.n y.c y.l) (hl : y.l ≠ []) (hf : ∀ bx off, y.A = some ⟨bx, off, none⟩ → wb.heap.size ≤ bx)
    (ho : OwnE layB 27 w7 w0.heap.size s' (L' ++ [y])) (hg : (w.alloc o).grownBy w7 s.ownBlock) (hat : s'.ownBlock = s.ownBlock ∨ s'.ownBlock = some (w.alloc o).heap.size) : RJ w0 s' (L' ++ [y]) w7 := by
  have hsb := hb.bel.size
  have hsw := h.bel.size
  have hsa : (w.alloc o).heap.size = w.heap.size + 1 := by simp
  have hga : w.grownBy (w.alloc o) s.ownBlock := World.grownBy_alloc _ _ _
  have hg7 : w.grownBy w7 s.ownBlock := grown_trans hga hg
  have nblk : ∀ {z : BE}, Sl w z.A z.n z.c z.l → z.l ≠ [] → (∀ bx off, z.A = some ⟨bx, off, none⟩ → some bx ≠ s.ownBlock) → ∀ bx off, z.A = some ⟨bx, off, none⟩ → some bx ≠ s'.ownBlock := fun {z} hs hne hno bx off e e2 => by
    have := sl_lt hs hne bx off e
    rcases hat with q | q
    · exact hno bx off e (e2.trans q)
    · rw [q, hsa] at e2; cases e2; omega
  have hnw : ∀ bx off, y.A = some ⟨bx, off, none⟩ → some bx ≠ s.ownBlock := fun bx off e e2 => by have := hf bx off e; have := (hb.own.lt e2.symm).2; omega
  refine ⟨ho, fun x hx => ?_, h.bel.grown hg7 (by omega) (fun k hk => (hb.own.lt hk).1)⟩
  rcases List.mem_append.1 hx with hx | hx
  · obtain ⟨h1, h2, h3⟩ := h.co x hx
    exact ⟨sl_grownR h1 hg7 (fun bx off e => (h3 bx off e).2), h2, fun bx off e => ⟨(h3 bx off e).1, nblk h1 h2 (fun bx off e => (h3 bx off e).2) bx off e⟩⟩
  · rw [List.mem_singleton.1 hx]
    exact ⟨sl_grownR hS hg7 hnw, hl, fun bx off e => ⟨by have := hf bx off e; omega, nblk hS hl hnw bx off e⟩⟩

def RV (w0 : World) (v : Value) (Q : List QB) (w : World) : Prop := ∃ L1 : List BE, L1.map valB = Q ∧ Below w0.heap.size w0 w ∧ ((v = .slice none 0 0 ∧ L1 = []) ∨ ∃ g cap, v = .slice (some ⟨g, 0, none⟩) L1.length cap ∧ w0.heap.size ≤ g ∧ L1.length ≤ cap ∧ cap ≤ maxLen ∧ BL w g L1)
theorem RJ.rv {w0 : World} {s : Value} {L' : List BE} {w : World} (h : RJ w0 s L' w) : RV w0 s (L'.map valB) w := by
  refine ⟨L', rfl, h.bel, ?_⟩
  rcases h.own.form with ⟨h1, h2⟩ | ⟨g, cap, hv, h1, h2, h3, h4, h5, h6⟩
  · exact .inl ⟨h1, h2⟩
  · refine .inr ⟨g, cap, hv, h1, h3, h4, ⟨h6, h5, fun x hx => (h.co x hx).1, fun x hx bx off e => fun e2 => ?_⟩⟩
    have := ((h.co x hx).2.2 bx off e).2
    rw [hv, e2] at this
    exact this rfl
theorem RV.ret {w0 : World} {v : Value} {Q : List QB} {w : World} (h : RV w0 v Q w) (hl : Q.length ≤ 64) : ∃ A n c L', v = .slice A n c ∧ SlB w A n c L' ∧ L'.map valB = Q ∧ Below w0.heap.size w0 w := by
  obtain ⟨L1, hq, hB, ⟨rfl, rfl⟩ | ⟨g, cap, rfl, h1, h2, h3, hbl⟩⟩ := h
  · exact ⟨none, 0, 0, [], rfl, ⟨SlE.nil _ _, fun x hx => by cases hx⟩, hq, hB⟩
  · exact ⟨_, _, _, L1, rfl, ⟨⟨rfl, h2, by unfold maxLen at h3; omega, fun _ => ⟨g, 0, rfl, hbl.cl⟩⟩, hbl.co⟩, hq, hB⟩

structure Rj (w0 : World) (B g : Nat) (L : List BE) (w : World) : Prop where
  bl : BL w g L
  bel : Below w0.heap.size w0 w
  ge : w0.heap.size ≤ g
  gB : g < B
  hi : ∀ y ∈ L, ∀ bx off, y.A = some ⟨bx, off, none⟩ → bx < B
  Bw : B ≤ w.heap.size
theorem keepRj {w0 : World} {B g : Nat} {L : List BE} {w w' : World} (hb : Below w.heap.size w w') (h : Rj w0 B g L w) : Rj w0 B g L w' :=
  ⟨keepBL hb h.bl, keepBelow hb h.bel, h.ge, h.gB, h.hi, Nat.le_trans h.Bw hb.size⟩
theorem Rj.drew {w0 : World} {B g : Nat} {L : List BE} {w : World} (h : Rj w0 B g L w) : Rj w0 B g L w.drew := keepRj (Below.refl _ _).drew h
theorem Rj.alloc {w0 : World} {B g : Nat} {L : List BE} {w : World} (h : Rj w0 B g L w) (o : Obj) : Rj w0 B g L (w.alloc o) := keepRj ((Below.refl _ _).alloc (Nat.le_refl _) _) h
theorem Rj.set {w0 : World} {B g : Nat} {L : List BE} {w : World} (h : Rj w0 B g L w) {k o : Nat} {v : Value} (hk : B ≤ k) : Rj w0 B g L (w.setCell ⟨k, o, none⟩ v) :=
  ⟨h.bl.off (by have := h.gB; omega) (fun y hy bx off e => by have := h.hi y hy bx off e; omega), h.bel.setCell (p := ⟨k, o, none⟩) (by show w0.heap.size ≤ k; have := h.gB; have := h.ge; omega) _, h.ge, h.gB, h.hi, by simp; exact h.Bw⟩
theorem Rj.of {w0 : World} {g : Nat} {L : List BE} {w : World} (h : BL w g L) (hB : Below w0.heap.size w0 w) (hg : w0.heap.size ≤ g) (hv : ∀ x ∈ L, bodyE x.b x.l = 0) : Rj w0 w.heap.size g L w :=
  ⟨h, hB, hg, h.cl.lt, fun y hy => sl_lt (h.co y hy) (fun e => by have := hv y hy; rw [e] at this; exact absurd (bodyE_zero this).1 (by decide)), Nat.le_refl _⟩
theorem Rj.next {w0 : World} {B g : Nat} {L : List BE} {w w' : World} (h : Rj w0 B g L w) (hg : w.grownBy w' (some g)) : Below w0.heap.size w0 w' := h.bel.trans (below_of_grown hg h.bel.size h.ge)
theorem Rj.slb {w0 : World} {B g cap : Nat} {L : List BE} {w : World} (h : Rj w0 B g L w) (h2 : L.length ≤ cap) (h3 : cap ≤ maxLen) : SlB w (some ⟨g, 0, none⟩) L.length cap L := ⟨⟨rfl, h2, by unfold maxLen at h3; omega, fun _ => ⟨g, 0, rfl, h.bl.cl⟩⟩, h.bl.co⟩
set_option maxRecDepth 100000 in
set_option maxHeartbeats 8000000 in
theorem jrun_calls (A B : Option Addr) (n c n' c' : Nat) (L : List BE) (J : List Jt) (st r : Int) (w : World) (hS : SlB w A n c L) (hJ : SlE layJ w B n' c' J) :
    Calls Try.prog 26 #[.slice A n c, .slice B n' c', .int .i64 st, .int .i64 r] w (RetRun (runE L J st r) (runQ L J st r) w) := by
  have hn := hS.sl.len
  have hcap := hS.sl.cap
  have hbig := hS.sl.big
  have hn' := hJ.len
  have hcap' := hJ.cap
  have hbig' := hJ.big
  subst hn hn'
  have HS := hid hS
  have HJ := hid hJ
  have HCK := hid (jcheck_calls A B L.length c J.length c' L J w hS hJ)
  clear hS hJ
  go_enter Try.func26, Try.ntmps26
  go_wp2_with fail
  refine HCK.out.mono ?_
  rintro e w1 ⟨rfl, hB1⟩
  clear HCK
  have HNIL : Hid (∀ (z : Int) (wx : World), z ≠ 0 → runE L J st r = z → Below w.heap.size w wx → RetRun (runE L J st r) (runQ L J st r) w (.returned (.tuple #[.slice none 0 0, .int .i64 z])) wx) := fun z wx hz he hb =>
    ⟨none, 0, 0, [], by rw [he], ⟨SlE.nil _ _, fun x hx => by cases hx⟩, by unfold runQ; rw [if_neg (by rw [he]; exact hz)]; rfl, hb⟩
  by_cases hE : jointsE L J = 0
  case neg =>
    have HR := hid (HNIL.out (jointsE L J) w1 hE (by unfold runE; rw [if_pos hE]) hB1)
    have hne : (jointsE L J != 0) = true := by simp [hE]
    generalize jointsE L J = z at *
    go_wp2
    exact bodyPost_ret (v := .tuple #[.slice none 0 0, .int .i64 z]) (by simp [results, Try.results26, go_sem]) rfl HR.out
  obtain ⟨hbe, hj32, hjs⟩ := jointsE_zero hE
  obtain ⟨h64, hval⟩ := bodiesE_zero hbe
  have HV := hid hval
  have HJS := hid hjs
  by_cases hbad : st < 1 ∨ 65536 < st ∨ r < 0 ∨ 32 < r
  · have HR := hid (HNIL.out 1 w1 (by decide) (by unfold runE; rw [if_neg (by simp [hE]), if_pos hbad]) hB1)
    rw [hE]
    clear hE hbe hval hjs HNIL
    by_cases c1 : st < 1
    · go_wp2
      exact bodyPost_ret (v := .tuple #[.slice none 0 0, .int .i64 1]) (by simp [results, Try.results26, go_sem]) rfl HR.out
    by_cases c2 : 65536 < st
    · go_wp2
      exact bodyPost_ret (v := .tuple #[.slice none 0 0, .int .i64 1]) (by simp [results, Try.results26, go_sem]) rfl HR.out
    by_cases c3 : r < 0
    · go_wp2
      exact bodyPost_ret (v := .tuple #[.slice none 0 0, .int .i64 1]) (by simp [results, Try.results26, go_sem]) rfl HR.out
    have c4 : 32 < r := by omega
    go_wp2
    exact bodyPost_ret (v := .tuple #[.slice none 0 0, .int .i64 1]) (by simp [results, Try.results26, go_sem]) rfl HR.out
  have c1 : ¬ st < 1 := fun h => hbad (.inl h)
  have c2 : ¬ 65536 < st := fun h => hbad (.inr (.inl h))
  have c3 : ¬ r < 0 := fun h => hbad (.inr (.inr (.inl h)))
  have c4 : ¬ 32 < r := fun h => hbad (.inr (.inr (.inr h)))
  have HRE : Hid (runE L J st r = 0) := by show _ = _; unfold runE; rw [if_neg (by simp [hE]), if_neg hbad]
  have HRQ : Hid (runQ L J st r = roundsQ (L.map valB) J st r.toNat) := by show _ = _; unfold runQ; rw [if_pos HRE.out]
  have HFJ : Hid (∀ x ∈ J, FitJ (L.map valB).length x) := fun x hx => by rw [List.length_map]; exact (jtE_zero (hjs x hx)).1
  rw [hE]
  clear hE hbe hval hjs HNIL hbad
  go_wp2
  have HC1 := hid c1
  have HC2 := hid c2
  clear c1 c2
  obtain ⟨rn, rfl⟩ : ∃ rn : Nat, r = rn := ⟨r.toNat, by omega⟩
  rw [Int.toNat_natCast] at HRQ
  have hrn : rn ≤ 32 := by omega
  clear c3 c4
  go_loopw [11, 43] (fun o i wr => ∃ (k : Nat) (L' : List BE), k ≤ L.length ∧ i = .int .i64 k ∧ RJ w o L' wr ∧ L'.map valB = (L.map valB).take k) (fun _ i _ => L.length - (intOf i).toNat)
  case atStart => exact ⟨0, [], Nat.zero_le _, rfl, ⟨OwnE.nil _ _ _ _, fun x hx => (by cases hx), hB1⟩, rfl⟩
  case round =>
    clear hB1
    obtain ⟨k, L', hk, rfl, hrj, hmp⟩ := hrel
    obtain ⟨wo, rfl⟩ : ∃ wo : World, wo = wr := ⟨_, rfl⟩
    obtain ⟨s0, rfl⟩ : ∃ s0 : Value, s0 = u11 := ⟨_, rfl⟩
    have HRJ := hid hrj
    have HMP := hid hmp
    clear hrj hmp
    by_cases hlt : k < L.length
    · obtain ⟨ba, off, hA, hC⟩ := (HS.out.below HRJ.out.bel).sl.at_ (by intro h; subst h; simp at hlt)
      subst hA
      obtain ⟨x, hx⟩ : ∃ x, x = L[k] := ⟨_, rfl⟩
      have hxm : x ∈ L := by rw [hx]; exact List.getElem_mem hlt
      have hxs : Sl wo x.A x.n x.c x.l := (HS.out.below HRJ.out.bel).co x hxm
      have hxv := (bodyE_zero (HV.out x hxm)).1
      have hx3 := checkE_len4 (shapeE_zero hxv)
      have HXN : Hid (x.l ≠ []) := fun e => by rw [e] at hxv; exact absurd hxv (by decide)
      obtain ⟨d0, d1, d2, d3, d4, d5, d6, d7, d8, d9, d10, d11, d12⟩ := cells_bd hC hlt hx
      have hbo := hC.lt
      have hlt' : (k : Int) < (L.length : Int) := by omega
      have hkw : IntKind.i64.wrap ((k : Int) + 1) = (k : Int) + 1 := IntWalk.i64_in _ (by omega)
      obtain ⟨wj, hwj⟩ : ∃ wj, wj = wo.alloc (.cells #[.int .i64 x.b.px, .int .i64 x.b.py, .int .i64 x.b.vx, .int .i64 x.b.vy, .int .i64 x.b.ang, .int .i64 x.b.spin, .int .i64 x.b.mass, .int .i64 x.b.iner, .int .i64 x.b.bounce, .int .i64 x.b.rub, .slice x.A x.n x.c, .bool x.b.asleep, .int .i64 x.b.calm] 27) := ⟨_, rfl⟩
      have HBJ := hid (show Below wo.heap.size wo wj by rw [hwj]; go_grown)
      have HK := hid (show BdAt wj wo.heap.size x.b x.A x.n x.c by rw [hwj]; exact BdAt.here wo x.b x.A x.n x.c _)
      have HCL := hid (clone_calls x.A x.n x.c x.l wj (hxs.below HBJ.out) (by omega))
      have HTK : Hid (L'.map valB ++ [valB x] = (L.map valB).take (k + 1)) := by
        show _ = _
        rw [HMP.out, List.take_add_one, List.getElem?_map, List.getElem?_eq_getElem hlt, ← hx]
        rfl
      have HLL : Hid (L'.length ≤ 64) := by
        have := congrArg List.length HMP.out
        simp at this
        show _ ≤ _
        omega
      clear hC hx hxs hxv hx3
      go_upto_region 10 with fail
      rw [← hwj]
      clear hwj d0 d1 d2 d3 d4 d5 d6 d7 d8 d9 d10 d11 d12 hbo
      obtain ⟨k0, k1, k2, k3, k4, k5, k6, k7, k8, k9, k10, k11, k12, kf⟩ := HK.out
      go_wp2_with fail
      refine HCL.out.mono ?_
      rintro e w3 ⟨A1, n1, c1, rfl, hs1, hf1, hb1⟩
      clear k0 k1 k2 k3 k4 k5 k6 k7 k8 k9 k10 k11 k12 kf HCL
      have HK3 := hid (keepBd hb1 HK.out)
      obtain ⟨w4, hw4⟩ : ∃ w4, w4 = w3.setCell ⟨wo.heap.size, 10, none⟩ (.slice A1 n1 c1) := ⟨_, rfl⟩
      have hjo : wo.heap.size < wj.heap.size := HK.out.lt
      have HF1 : Hid (∀ bx off, A1 = some ⟨bx, off, none⟩ → wo.heap.size < bx) := fun bx off e => by have := hf1 bx off e; omega
      have HK4 := hid (show BdAt w4 wo.heap.size x.b A1 n1 c1 by rw [hw4]; exact HK3.out.set_slice)
      have HS4 := hid (show Sl w4 A1 n1 c1 x.l by rw [hw4]; exact hs1.setAt (fun bx off e => by have := HF1.out bx off e; omega))
      have HR4 := hid (show RJ w s0 L' w4 by rw [hw4]; exact RJ.set HRJ.out (keepRJ hb1 (keepRJ HBJ.out HRJ.out)) (Nat.le_refl _))
      obtain ⟨k0, k1, k2, k3, k4, k5, k6, k7, k8, k9, k10, k11, k12, kf⟩ := HK3.out
      clear hs1 hf1 hb1 hjo HK HBJ
      go_upto_region 11 with fail
      rw [← hw4]
      clear hw4 k0 k1 k2 k3 k4 k5 k6 k7 k8 k9 k10 k11 k12 kf HK3
      obtain ⟨k0, k1, k2, k3, k4, k5, k6, k7, k8, k9, k10, k11, k12, kf⟩ := HK4.out
      clear HK4
      go_wp2_with (at_builtin; refine Hid.out ?_)
      refine hid ?_
      refine wpList_append_E tyBody rfl _ _ rfl w.heap.size _ _ rfl (HR4.out.own.alloc _) w4.heap.size 0 1 1 [⟨x.b, A1, n1, c1, x.l⟩] rfl rfl (cells_bd_one (BdAt.here w4 x.b A1 n1 c1 _)) ?c4 ?c5 ?c6 ?c7
      case c4 => have := HLL.out; simp; omega
      case c5 => have := HLL.out; simp; omega
      case c6 => have := HR4.out.bel.size; simp; omega
      case c7 =>
        intro v' w7 ho1 hg1 hat
        have HR7 := hid (RJ.push HRJ.out HR4.out (y := ⟨x.b, A1, n1, c1, x.l⟩) HS4.out HXN.out (fun bx off e => by have := HF1.out bx off e; omega) ho1 hg1 hat)
        clear ho1 hg1 hat k0 k1 k2 k3 k4 k5 k6 k7 k8 k9 k10 k11 k12 kf HS4 HR4
        go_wp2
        go_roundw
        case rel => exact ⟨k + 1, _, by omega, by go_num, HR7.out, by rw [List.map_append]; exact HTK.out⟩
        case measure => simp [intOf] <;> omega
    · have hkn : k = L.length := by omega
      subst hkn
      have HRV : Hid (RV w s0 (L.map valB) wo) := by
        have := HRJ.out.rv
        rw [HMP.out, List.take_of_length_le (by simp)] at this
        exact this
      clear HRJ HMP hlt hk
      go_wp2
      go_loopw [57] (fun i wr => ∃ k : Nat, k ≤ rn ∧ i = .int .i64 k ∧ RV w s0 (roundsQ (L.map valB) J st k) wr) (fun i _ => rn - (intOf i).toNat)
      case atStart => exact ⟨0, Nat.zero_le _, rfl, HRV.out⟩
      case round =>
        clear HRV
        obtain ⟨k, hk, rfl, hrv⟩ := hrel
        have HRV := hid hrv
        clear hrv
        obtain ⟨wa, rfl⟩ : ∃ wa : World, wa = wr := ⟨_, rfl⟩
        have hkw : IntKind.i64.wrap ((k : Int) + 1) = (k : Int) + 1 := IntWalk.i64_in _ (by omega)
        have HLK := hid (roundsQ_like HFJ.out st k)
        by_cases hlt : k < rn
        · have hlt' : (k : Int) < (rn : Int) := by omega
          have HRS : Hid (roundsQ (L.map valB) J st (k + 1) = jointsQ (roundsQ (L.map valB) J st k) J st J.length) := rfl
          obtain ⟨QK, hQK⟩ : ∃ q, q = roundsQ (L.map valB) J st k := ⟨_, rfl⟩
          rw [← hQK] at HRV HLK HRS
          clear hQK
          go_wp2
          go_loopw [61] (fun i wr => ∃ m : Nat, m ≤ J.length ∧ i = .int .i64 m ∧ RV w s0 (jointsQ QK J st m) wr) (fun i _ => J.length - (intOf i).toNat)
          case atStart => exact ⟨0, Nat.zero_le _, rfl, HRV.out⟩
          case round =>
            clear HRV
            obtain ⟨m, hm, rfl, hrv⟩ := hrel
            obtain ⟨wi, rfl⟩ : ∃ wi : World, wi = wr := ⟨_, rfl⟩
            have hmw : IntKind.i64.wrap ((m : Int) + 1) = (m : Int) + 1 := IntWalk.i64_in _ (by omega)
            by_cases hlt2 : m < J.length
            · have hlt2' : (m : Int) < (J.length : Int) := by omega
              obtain ⟨L1, hq, hB, hform⟩ := hrv
              have HLM := hid (HLK.out.trans (jointsQ_like (fun x hx => by rw [HLK.out.len]; exact HFJ.out x hx) st m))
              obtain ⟨bj, oj, hA, hCj⟩ := (HJ.out.below hB).at_ (by intro h; subst h; simp at hlt2)
              subst hA
              obtain ⟨x, hx⟩ : ∃ x, x = J[m] := ⟨_, rfl⟩
              have HST : Hid (jointsQ QK J st (m + 1) = jointQ (jointsQ QK J st m) x st) := jointsQ_succ (by rw [List.getElem?_eq_getElem hlt2, hx])
              have hxm : x ∈ J := by rw [hx]; exact List.getElem_mem hlt2
              obtain ⟨t0, t1, t2, t3, t4, t5, t6⟩ := cells_jt hCj hlt2 hx
              have hbj := hCj.lt
              rw [← hq] at HLM HST
              have hL1 : L1.length = L.length := by have := HLM.out.len; simpa using this
              have HLE : Hid (∀ L2 : List BE, L2.length = L1.length → L2.length ≤ 64) := fun L2 h => by omega
              obtain ⟨⟨hf1, hf2, hf3⟩, -, -, ⟨hf4, hf5⟩, -⟩ := jtE_zero (HJS.out x hxm)
              have HEZ : Hid (jointsE L1 [x] = 0) := like_joint HLM.out h64 HV.out (HJS.out x hxm)
              have HV1 := hid (like_valid HLM.out HV.out)
              obtain ⟨ka, hka'⟩ : ∃ ka : Nat, x.a = ka := ⟨x.a.toNat, by omega⟩
              obtain ⟨kb, hkb'⟩ : ∃ kb : Nat, x.b = kb := ⟨x.b.toNat, by omega⟩
              have hka : ka < L1.length := by omega
              have hkb : kb < L1.length := by omega
              have hab : ka < kb := by omega
              have HL1 := hid hL1
              clear hL1
              rcases hform with ⟨-, hnil⟩ | ⟨g, cap, rfl, hg0, hc1, hc2, hbl⟩
              · exfalso; rw [hnil] at hka; simp at hka
              have hxa := hka'
              have hxb := hkb'
              obtain ⟨Bz, hBz⟩ : ∃ Bz, Bz = wi.heap.size := ⟨_, rfl⟩
              have HRJ := hid (Rj.of hbl hB hg0 HV1.out)
              rw [← hBz] at HRJ
              have HQQ := hid hq
              clear hbl hq
              obtain ⟨e1, he1⟩ : ∃ z, z = wX (qB (L1.map valB) x.a) x.p1 x.p2 := ⟨_, rfl⟩
              obtain ⟨e2, he2⟩ : ∃ z, z = wY (qB (L1.map valB) x.a) x.p1 x.p2 := ⟨_, rfl⟩
              obtain ⟨e3, he3⟩ : ∃ z, z = wX (qB (L1.map valB) x.b) x.q1 x.q2 := ⟨_, rfl⟩
              obtain ⟨e4, he4⟩ : ∃ z, z = wY (qB (L1.map valB) x.b) x.q1 x.q2 := ⟨_, rfl⟩
              have HEN : Hid (endsV L1 x = .tuple #[vecV e1 e2, vecV e3 e4, .int .i64 0]) := by show _ = _; unfold endsV; rw [if_neg (by rw [HEZ.out]; simp), bdOf_val, bdOf_val, ← he1, ← he2, ← he3, ← he4]
              obtain ⟨wj, hwj⟩ : ∃ wj, wj = wi.alloc (.cells #[.int .i64 x.a, .int .i64 x.b, .int .i64 x.p1, .int .i64 x.p2, .int .i64 x.q1, .int .i64 x.q2, .int .i64 x.len] 49) := ⟨_, rfl⟩
              have HRJ2 := hid (show Rj w Bz g L1 wj by rw [hwj]; exact HRJ.out.alloc _)
              obtain ⟨gx, hgx⟩ : ∃ gx, gx = wi.heap.size := ⟨_, rfl⟩
              have HJG := hid (show Jg wj gx x by rw [hwj, hgx]; exact ⟨by go_simp, by go_simp, by go_simp, by go_simp, by go_simp, by go_simp, by go_simp⟩)
              have hgg : g < gx := by rw [hgx, ← hBz]; exact HRJ.out.gB
              have HEC := hid (jends_calls (some ⟨g, 0, none⟩) L1.length cap L1 x wj (HRJ2.out.slb hc1 hc2))
              obtain ⟨d1, hd1⟩ : ∃ z, z = subF e3 e1 := ⟨_, rfl⟩
              obtain ⟨d2, hd2⟩ : ∃ z, z = subF e4 e2 := ⟨_, rfl⟩
              have HSUB := hid (vsub_calls e3 e4 e1 e2)
              rw [← hd1, ← hd2] at HSUB
              have HD1 : Hid (jdX (L1.map valB) x = d1) := by show _ = _; unfold jdX; rw [hd1, he1, he3]
              have HD2 : Hid (jdY (L1.map valB) x = d2) := by show _ = _; unfold jdY; rw [hd2, he2, he4]
              obtain ⟨u1, hu1⟩ : ∃ z, z = unitX d1 d2 := ⟨_, rfl⟩
              obtain ⟨u2, hu2⟩ : ∃ z, z = unitY d1 d2 := ⟨_, rfl⟩
              have HUN := hid (unit_calls d1 d2)
              rw [← hu1, ← hu2] at HUN
              have HU1 := hid hu1.symm
              have HU2 := hid hu2.symm
              obtain ⟨lz, hlz⟩ : ∃ z, z = lenV d1 d2 := ⟨_, rfl⟩
              have HLE2 : Hid (∀ w', Calls Try.prog 24 #[vecV d1 d2] w' (Ret (.int .i64 lz) w')) := fun w' => by have := vlen_calls d1 d2 w'; rw [hlz]; exact this
              have HLZ := hid hlz.symm
              have hlzb : -1099511627776 ≤ lz ∧ lz ≤ 1099511627776 := by rw [hlz]; exact clampF_bd _
              have hwl : IntKind.i64.wrap (lz - x.len) = lz - x.len := IntWalk.i64_in _ (by omega)
              have h64' : L1.length ≤ 64 := HLE.out _ rfl
              have HFX : Hid (FitJ (L1.map valB).length x) := by show FitJ _ _; rw [List.length_map]; exact ⟨by omega, by omega, by omega⟩
              have HLK2 : Hid (∀ v1 v2 gap : Int, LikeL (L1.map valB) (pullX (L1.map valB) x v1 v2 gap st)) := fun v1 v2 gap => pullX_like HFX.out _ _ _ _
              have HLL : Hid (∀ {v1 v2 gap : Int} (L2 : List BE), L2.map valB = pullX (L1.map valB) x v1 v2 gap st → L2.length = L1.length) := fun {v1 v2 gap} L2 h => by have := congrArg List.length h; rw [List.length_map, (HLK2.out v1 v2 gap).len, List.length_map] at this; exact this
              have HPX : Hid (∀ Q', LikeL (L1.map valB) Q' → ∀ v1 v2 gap : Int, pullX Q' x v1 v2 gap st = pullQ Q' ka kb e1 e2 e3 e4 v1 v2 gap st) := fun Q' hl v1 v2 gap => by
                unfold pullX
                rw [hl.wX, hl.wY, hl.wX, hl.wY, ← he1, ← he2, ← he3, ← he4, hka', hkb', Int.toNat_natCast, Int.toNat_natCast]
              have HPL : Hid (∀ (w' : World), Rj w Bz g L1 w' → ∀ v1 v2 gap : Int, Calls Try.prog 62 #[.slice (some ⟨g, 0, none⟩) L1.length cap, jtV x, vecV e1 e2, vecV e3 e4, vecV v1 v2, .int .i64 gap, .int .i64 st] w' (RetPull g L1 (pullX (L1.map valB) x v1 v2 gap st) w')) := fun w' hr v1 v2 gap => by
                rw [HPX.out _ (.refl _)]
                exact pull_calls cap g ka kb L1 x e1 e2 e3 e4 v1 v2 gap st w' hr.bl (fun y hy bx off e => Nat.lt_of_lt_of_le (hr.hi y hy bx off e) hr.Bw) HV1.out hab hka hkb hxa hxb h64' _ _ rfl rfl
              have HXI := hid (And.intro hxa hxb)
              clear HRJ hCj hx he1 he2 he3 he4 hd1 hd2 hu1 hu2 hlz hlzb hxa hxb hka' hkb'
              go_upto_region 18 with fail
              rw [← hwj, ← hgx]
              clear hwj hgx hBz t0 t1 t2 t3 t4 t5 t6 hbj
              obtain ⟨j0, j1, j2, j3, j4, j5, j6⟩ := HJG.out
              go_wp2_with fail
              refine HEC.out.mono ?_
              rintro e w3 ⟨rfl, hb⟩
              rw [HEN.out]
              replace HRJ2 := hid (keepRj hb HRJ2.out)
              replace HJG := hid (keepJg hb HJG.out)
              clear hb j0 j1 j2 j3 j4 j5 j6 HEC
              obtain ⟨gp, hgp⟩ : ∃ gp, gp = w3.heap.size := ⟨_, rfl⟩
              obtain ⟨w5, hw5⟩ : ∃ w5, w5 = (w3.alloc (.cells #[.int .i64 e1, .int .i64 e2] 24)).alloc (.cells #[.int .i64 e3, .int .i64 e4] 24) := ⟨_, rfl⟩
              have HB5 := hid (show Below w3.heap.size w3 w5 by rw [hw5]; go_grown)
              have HVP9 := hid (show Vg w5 gp e1 e2 by rw [hw5, hgp]; exact ⟨by go_simp, by go_simp⟩)
              have HVQ9 := hid (show Vg w5 (gp + 1) e3 e4 by rw [hw5, hgp]; exact ⟨by go_simp, by go_simp⟩)
              have HRJ9 := hid (keepRj HB5.out HRJ2.out)
              have HJG9 := hid (keepJg HB5.out HJG.out)
              have hxp : gx < gp := by have := lt_of_cell HJG.out.c0; rw [hgp]; exact this
              have hBp : Bz ≤ gp := by rw [hgp]; exact HRJ2.out.Bw
              clear HRJ2 HJG HB5
              go_upto_region 19 with fail
              rw [← hw5, ← hgp]
              clear hw5 hgp
              obtain ⟨j0, j1, j2, j3, j4, j5, j6⟩ := HJG9.out
              obtain ⟨k0, k1⟩ := HVP9.out
              obtain ⟨k2, k3⟩ := HVQ9.out
              go_wp2_with fail
              refine (HSUB.out _).mono ?_
              rintro e w6 ⟨rfl, hb⟩
              replace HRJ9 := hid (keepRj hb HRJ9.out)
              replace HJG9 := hid (keepJg hb HJG9.out)
              replace HVP9 := hid (keepVg hb HVP9.out)
              replace HVQ9 := hid (keepVg hb HVQ9.out)
              clear hb HSUB j0 j1 j2 j3 j4 j5 j6 k0 k1 k2 k3
              obtain ⟨gd, hgd⟩ : ∃ gd, gd = w6.heap.size := ⟨_, rfl⟩
              obtain ⟨w7, hw7⟩ : ∃ w7, w7 = w6.alloc (.cells #[.int .i64 d1, .int .i64 d2] 24) := ⟨_, rfl⟩
              have HB7 := hid (show Below w6.heap.size w6 w7 by rw [hw7]; go_grown)
              have HVD9 := hid (show Vg w7 gd d1 d2 by rw [hw7, hgd]; exact ⟨by go_simp, by go_simp⟩)
              have hpd : gp + 1 < gd := by have := lt_of_cell HVQ9.out.a; rw [hgd]; exact this
              replace HRJ9 := hid (keepRj HB7.out HRJ9.out)
              replace HJG9 := hid (keepJg HB7.out HJG9.out)
              replace HVP9 := hid (keepVg HB7.out HVP9.out)
              replace HVQ9 := hid (keepVg HB7.out HVQ9.out)
              clear HB7
              go_upto_region 20 with fail
              rw [← hw7, ← hgd]
              clear hw7 hgd
              obtain ⟨j0, j1, j2, j3, j4, j5, j6⟩ := HJG9.out
              obtain ⟨k0, k1⟩ := HVP9.out
              obtain ⟨k2, k3⟩ := HVQ9.out
              obtain ⟨k4, k5⟩ := HVD9.out
              by_cases hz : x.len = 0
              · have hq9 : jointQ (L1.map valB) x st = pullX (pullX (L1.map valB) x 65536 0 d1 st) x 0 65536 d2 st := by have h9 := jointQ_zero (Q := L1.map valB) (st := st) hz; rw [h9, HD1.out, HD2.out]
                have HQ9 := hid hq9
                clear hq9
                have hzb : (x.len == 0) = true := by simp [hz]
                clear hz
                go_wp2_with fail
                refine (HPL.out _ HRJ9.out 65536 0 d1).mono ?_
                rintro e w8 ⟨L2, rfl, hbl2, hm2, hg2⟩
                have HB2 := hid hbl2
                have HM2 := hid hm2
                have HBE := hid (HRJ9.out.next hg2)
                have HL2 : Hid (L2.length = L1.length) := HLL.out _ hm2
                have HVV2 : Hid (∀ y ∈ L2, bodyE y.b y.l = 0) := by have := HLK2.out 65536 0 d1; rw [← hm2] at this; exact like_valid this HV1.out
                have HPX2 : Hid (pullX (L2.map valB) x 0 65536 d2 st = pullQ (L2.map valB) ka kb e1 e2 e3 e4 0 65536 d2 st) := by have := HLK2.out 65536 0 d1; rw [← hm2] at this; exact HPX.out _ this 0 65536 d2
                replace HJG9 := hid (HJG9.out.next hg2 (by omega))
                replace HVP9 := hid (HVP9.out.next hg2 (by omega))
                replace HVQ9 := hid (HVQ9.out.next hg2 (by omega))
                replace HVD9 := hid (HVD9.out.next hg2 (by omega))
                have HRX6 := hid (Rj.of hbl2 HBE.out hg0 HVV2.out)
                clear hbl2 hm2 hg2 j0 j1 j2 j3 j4 j5 j6 k0 k1 k2 k3 k4 k5 HBE HRJ9
                obtain ⟨j0, j1, j2, j3, j4, j5, j6⟩ := HJG9.out
                obtain ⟨k0, k1⟩ := HVP9.out
                obtain ⟨k2, k3⟩ := HVQ9.out
                obtain ⟨k4, k5⟩ := HVD9.out
                have HPL2 := hid (pull_calls cap g ka kb L2 x e1 e2 e3 e4 0 65536 d2 st w8 HB2.out HRX6.out.hi HVV2.out hab (by rw [HL2.out]; exact hka) (by rw [HL2.out]; exact hkb) HXI.out.1 HXI.out.2 (HLE.out _ HL2.out) _ _ rfl rfl)
                rw [HL2.out] at HPL2
                go_wp2_with fail
                refine HPL2.out.mono ?_
                rintro e w9 ⟨L3, rfl, hbl3, hm3, hg3⟩
                have HBE3 := hid (HRX6.out.next hg3)
                have HB3 := hid hbl3
                have HM3 : Hid (L3.map valB = jointQ (L1.map valB) x st) := by show _ = _; rw [HQ9.out, ← HM2.out, HPX2.out]; exact hm3
                have HL3 : Hid (L3.length = L1.length) := by have := congrArg List.length HM3.out; rw [List.length_map, (jointQ_like HFX.out st).len, List.length_map] at this; exact this
                clear hbl3 hm3 hg3 j0 j1 j2 j3 j4 j5 j6 k0 k1 k2 k3 k4 k5 HJG9 HVP9 HVQ9 HVD9 HRX6 HPL2
                go_wp2
                go_roundw
                case rel => exact ⟨m + 1, by omega, by go_num, L3, by rw [HST.out]; exact HM3.out, HBE3.out, .inr ⟨g, cap, by rw [HL3.out], hg0, by rw [HL3.out]; exact hc1, hc2, HB3.out⟩⟩
                case measure => simp [intOf] <;> omega
              have hzb : (x.len == 0) = false := by simp [hz]
              go_wp2_with fail
              refine (HUN.out _).mono ?_
              rintro e w8 ⟨rfl, hb⟩
              replace HRJ9 := hid (keepRj hb HRJ9.out)
              replace HJG9 := hid (keepJg hb HJG9.out)
              replace HVP9 := hid (keepVg hb HVP9.out)
              replace HVQ9 := hid (keepVg hb HVQ9.out)
              replace HVD9 := hid (keepVg hb HVD9.out)
              clear hb HUN j0 j1 j2 j3 j4 j5 j6 k0 k1 k2 k3 k4 k5
              obtain ⟨gw, hgw⟩ : ∃ gw, gw = w8.heap.size := ⟨_, rfl⟩
              obtain ⟨w9, hw9⟩ : ∃ w9, w9 = w8.alloc (.cells #[.int .i64 u1, .int .i64 u2] 24) := ⟨_, rfl⟩
              have HB9 := hid (show Below w8.heap.size w8 w9 by rw [hw9]; go_grown)
              have HVW9 := hid (show Vg w9 gw u1 u2 by rw [hw9, hgw]; exact ⟨by go_simp, by go_simp⟩)
              have hfw : ∀ j, w9.frozen? ⟨gw, j, none⟩ = false := by rw [hw9, hgw]; intro j; go_simp
              have hdw : gd < gw := by have := lt_of_cell HVD9.out.a; rw [hgw]; exact this
              replace HRJ9 := hid (keepRj HB9.out HRJ9.out)
              replace HJG9 := hid (keepJg HB9.out HJG9.out)
              replace HVP9 := hid (keepVg HB9.out HVP9.out)
              replace HVQ9 := hid (keepVg HB9.out HVQ9.out)
              replace HVD9 := hid (keepVg HB9.out HVD9.out)
              clear HB9
              go_upto_region 24 with fail
              rw [← hw9, ← hgw]
              clear hw9 hgw
              obtain ⟨j0, j1, j2, j3, j4, j5, j6⟩ := HJG9.out
              obtain ⟨k0, k1⟩ := HVP9.out
              obtain ⟨k2, k3⟩ := HVQ9.out
              obtain ⟨k4, k5⟩ := HVD9.out
              obtain ⟨k6, k7⟩ := HVW9.out
              obtain ⟨ev, hev⟩ : ∃ ev, ev = (d1 == 0 && d2 == 0) := ⟨_, rfl⟩
              have HEQ := run_eqVJ d1 d2 0 0
              rw [← hev] at HEQ
              cases ev with
              | true =>
                have hd0 : d1 = 0 ∧ d2 = 0 := by simpa using hev.symm
                have hq9 : jointQ (L1.map valB) x st = pullX (L1.map valB) x 65536 0 (lz - x.len) st := by have h9 := jointQ_same (Q := L1.map valB) (st := st) hz (by rw [HD1.out, HD2.out]; exact hd0); rw [h9, HD1.out, HD2.out, HLZ.out]
                have HQ9 := hid hq9
                clear hq9
                clear hd0 hev hz
                obtain ⟨wa1, hwa1⟩ : ∃ wa1, wa1 = (w9.setCell ⟨gw, 0, none⟩ (.int .i64 65536)).setCell ⟨gw, 1, none⟩ (.int .i64 0) := ⟨_, rfl⟩
                have HVWa := hid (show Vg wa1 gw 65536 0 by rw [hwa1]; exact ⟨by go_simp, by go_simp⟩)
                replace HRJ9 := hid ((HRJ9.out.set (o := 0) (v := .int .i64 65536) (show Bz ≤ gw by omega)).set (o := 1) (v := .int .i64 0) (show Bz ≤ gw by omega))
                rw [← hwa1] at HRJ9
                replace HJG9 := hid ((HJG9.out.next (grown_setCell _ gw 0 (.int .i64 65536)) (by omega)).next (grown_setCell _ gw 1 (.int .i64 0)) (by omega))
                replace HVP9 := hid ((HVP9.out.next (grown_setCell _ gw 0 (.int .i64 65536)) (by omega)).next (grown_setCell _ gw 1 (.int .i64 0)) (by omega))
                replace HVQ9 := hid ((HVQ9.out.next (grown_setCell _ gw 0 (.int .i64 65536)) (by omega)).next (grown_setCell _ gw 1 (.int .i64 0)) (by omega))
                replace HVD9 := hid ((HVD9.out.next (grown_setCell _ gw 0 (.int .i64 65536)) (by omega)).next (grown_setCell _ gw 1 (.int .i64 0)) (by omega))
                rw [← hwa1] at HJG9 HVP9 HVQ9 HVD9
                go_upto_region 26 with fail
                rw [← hwa1]
                clear hwa1 j0 j1 j2 j3 j4 j5 j6 k0 k1 k2 k3 k4 k5 k6 k7 HVW9 hfw HEQ
                have HVW9 := HVWa
                clear HVWa
                refine wp_region_noPanic ?_
                refine wp_region_U (S := (S2 (fun w' => Rj w Bz g L1 w' ∧ Jg w' gx x ∧ Vg w' gp e1 e2 ∧ Vg w' (gp + 1) e3 e4 ∧ Vg w' gd d1 d2 ∧ Vg w' gw 65536 0))) (T := (fun j => [0, 0, 0, 0, 0, 0, 0, 0, 0, 0, 0, 1].getD j 0)) (by kernel_rfl) (S2i0 ⟨HRJ9.out.drew, HJG9.out.drew, HVP9.out.drew, HVQ9.out.drew, HVD9.out.drew, HVW9.out.drew⟩) (fun hH => ?_)
                have hWr4 : Weaker (S2 (fun w' => Rj w Bz g L1 w' ∧ Jg w' gx x ∧ Vg w' gp e1 e2 ∧ Vg w' (gp + 1) e3 e4 ∧ Vg w' gd d1 d2 ∧ Vg w' gw 65536 0)) := weaker2 _
                refine U_take 0 102 11 0 0 (v := ?vr4_1) rfl (by kernel_rfl) (by kernel_rfl) hWr4 (by kernel_rfl) (by kernel_rfl) (by kernel_rfl) (by kernel_rfl) (by kernel_rfl) (by kernel_rfl) (fun _ _ _ _ h => h) (by kernel_rfl) ?hyr4_1 (by omega) hH ?_
                case hyr4_1 => (intro w' hSw; clear hSw; go_simp; try (with_reducible rfl))
                simp only [List.set_cons_zero, List.set_cons_succ]
                refine U_take 1 103 10 0 0 (v := ?vr4_2) rfl (by kernel_rfl) (by kernel_rfl) hWr4 (by kernel_rfl) (by kernel_rfl) (by kernel_rfl) (by kernel_rfl) (by kernel_rfl) (by kernel_rfl) (fun _ _ _ _ h => h) (by kernel_rfl) ?hyr4_2 (by omega) hH ?_
                case hyr4_2 => (intro w' hSw; replace hSw := S2o0 hSw; (try dsimp only at hSw); have q0 := hSw.1; have q1 := hSw.2.1; have q2 := hSw.2.2.1; have q3 := hSw.2.2.2.1; have q4 := hSw.2.2.2.2.1; have q5 := hSw.2.2.2.2.2; skip; obtain ⟨qa1_0, qa1_1, qa1_2, qa1_3, qa1_4, qa1_5, qa1_6⟩ := id q1; obtain ⟨qa2_0, qa2_1⟩ := id q2; obtain ⟨qa3_0, qa3_1⟩ := id q3; obtain ⟨qa4_0, qa4_1⟩ := id q4; obtain ⟨qa5_0, qa5_1⟩ := id q5; go_simp; try (with_reducible rfl))
                simp only [List.set_cons_zero, List.set_cons_succ]
                refine U_take 2 104 9 0 0 (v := ?vr4_3) rfl (by kernel_rfl) (by kernel_rfl) hWr4 (by kernel_rfl) (by kernel_rfl) (by kernel_rfl) (by kernel_rfl) (by kernel_rfl) (by kernel_rfl) (fun _ _ _ _ h => h) (by kernel_rfl) ?hyr4_3 (by omega) hH ?_
                case hyr4_3 => (intro w' hSw; replace hSw := S2o0 hSw; (try dsimp only at hSw); have q0 := hSw.1; have q1 := hSw.2.1; have q2 := hSw.2.2.1; have q3 := hSw.2.2.2.1; have q4 := hSw.2.2.2.2.1; have q5 := hSw.2.2.2.2.2; skip; obtain ⟨qa1_0, qa1_1, qa1_2, qa1_3, qa1_4, qa1_5, qa1_6⟩ := id q1; obtain ⟨qa2_0, qa2_1⟩ := id q2; obtain ⟨qa3_0, qa3_1⟩ := id q3; obtain ⟨qa4_0, qa4_1⟩ := id q4; obtain ⟨qa5_0, qa5_1⟩ := id q5; go_simp; try (with_reducible rfl))
                simp only [List.set_cons_zero, List.set_cons_succ]
                refine U_take 3 105 8 0 0 (v := ?vr4_4) rfl (by kernel_rfl) (by kernel_rfl) hWr4 (by kernel_rfl) (by kernel_rfl) (by kernel_rfl) (by kernel_rfl) (by kernel_rfl) (by kernel_rfl) (fun _ _ _ _ h => h) (by kernel_rfl) ?hyr4_4 (by omega) hH ?_
                case hyr4_4 => (intro w' hSw; replace hSw := S2o0 hSw; (try dsimp only at hSw); have q0 := hSw.1; have q1 := hSw.2.1; have q2 := hSw.2.2.1; have q3 := hSw.2.2.2.1; have q4 := hSw.2.2.2.2.1; have q5 := hSw.2.2.2.2.2; skip; obtain ⟨qa1_0, qa1_1, qa1_2, qa1_3, qa1_4, qa1_5, qa1_6⟩ := id q1; obtain ⟨qa2_0, qa2_1⟩ := id q2; obtain ⟨qa3_0, qa3_1⟩ := id q3; obtain ⟨qa4_0, qa4_1⟩ := id q4; obtain ⟨qa5_0, qa5_1⟩ := id q5; go_simp; try (with_reducible rfl))
                simp only [List.set_cons_zero, List.set_cons_succ]
                refine U_take 4 106 7 0 0 (v := ?vr4_5) rfl (by kernel_rfl) (by kernel_rfl) hWr4 (by kernel_rfl) (by kernel_rfl) (by kernel_rfl) (by kernel_rfl) (by kernel_rfl) (by kernel_rfl) (fun _ _ _ _ h => h) (by kernel_rfl) ?hyr4_5 (by omega) hH ?_
                case hyr4_5 => (intro w' hSw; replace hSw := S2o0 hSw; (try dsimp only at hSw); have q0 := hSw.1; have q1 := hSw.2.1; have q2 := hSw.2.2.1; have q3 := hSw.2.2.2.1; have q4 := hSw.2.2.2.2.1; have q5 := hSw.2.2.2.2.2; skip; obtain ⟨qa1_0, qa1_1, qa1_2, qa1_3, qa1_4, qa1_5, qa1_6⟩ := id q1; obtain ⟨qa2_0, qa2_1⟩ := id q2; obtain ⟨qa3_0, qa3_1⟩ := id q3; obtain ⟨qa4_0, qa4_1⟩ := id q4; obtain ⟨qa5_0, qa5_1⟩ := id q5; go_simp; try (with_reducible rfl))
                simp only [List.set_cons_zero, List.set_cons_succ]
                refine U_take 5 107 6 0 0 (v := ?vr4_6) rfl (by kernel_rfl) (by kernel_rfl) hWr4 (by kernel_rfl) (by kernel_rfl) (by kernel_rfl) (by kernel_rfl) (by kernel_rfl) (by kernel_rfl) (fun _ _ _ _ h => h) (by kernel_rfl) ?hyr4_6 (by omega) hH ?_
                case hyr4_6 => (intro w' hSw; replace hSw := S2o0 hSw; (try dsimp only at hSw); have q0 := hSw.1; have q1 := hSw.2.1; have q2 := hSw.2.2.1; have q3 := hSw.2.2.2.1; have q4 := hSw.2.2.2.2.1; have q5 := hSw.2.2.2.2.2; skip; obtain ⟨qa1_0, qa1_1, qa1_2, qa1_3, qa1_4, qa1_5, qa1_6⟩ := id q1; obtain ⟨qa2_0, qa2_1⟩ := id q2; obtain ⟨qa3_0, qa3_1⟩ := id q3; obtain ⟨qa4_0, qa4_1⟩ := id q4; obtain ⟨qa5_0, qa5_1⟩ := id q5; go_simp; try (with_reducible rfl))
                simp only [List.set_cons_zero, List.set_cons_succ]
                refine U_take 7 109 5 0 0 (v := ?vr4_7) rfl (by kernel_rfl) (by kernel_rfl) hWr4 (by kernel_rfl) (by kernel_rfl) (by kernel_rfl) (by kernel_rfl) (by kernel_rfl) (by kernel_rfl) (fun _ _ _ _ h => h) (by kernel_rfl) ?hyr4_7 (by omega) hH ?_
                case hyr4_7 => (intro w' hSw; clear hSw; go_simp; try (with_reducible rfl))
                simp only [List.set_cons_zero, List.set_cons_succ]
                refine U_take 8 110 4 0 0 (v := ?vr4_8) rfl (by kernel_rfl) (by kernel_rfl) hWr4 (by kernel_rfl) (by kernel_rfl) (by kernel_rfl) (by kernel_rfl) (by kernel_rfl) (by kernel_rfl) (fun _ _ _ _ h => h) (by kernel_rfl) ?hyr4_8 (by omega) hH ?_
                case hyr4_8 => (intro w' hSw; replace hSw := S2o0 hSw; (try dsimp only at hSw); have q0 := hSw.1; have q1 := hSw.2.1; have q2 := hSw.2.2.1; have q3 := hSw.2.2.2.1; have q4 := hSw.2.2.2.2.1; have q5 := hSw.2.2.2.2.2; skip; obtain ⟨qa1_0, qa1_1, qa1_2, qa1_3, qa1_4, qa1_5, qa1_6⟩ := id q1; obtain ⟨qa2_0, qa2_1⟩ := id q2; obtain ⟨qa3_0, qa3_1⟩ := id q3; obtain ⟨qa4_0, qa4_1⟩ := id q4; obtain ⟨qa5_0, qa5_1⟩ := id q5; go_simp; try (with_reducible rfl))
                simp only [List.set_cons_zero, List.set_cons_succ]
                refine U_take 10 112 3 0 0 (v := ?vr4_9) rfl (by kernel_rfl) (by kernel_rfl) hWr4 (by kernel_rfl) (by kernel_rfl) (by kernel_rfl) (by kernel_rfl) (by kernel_rfl) (by kernel_rfl) (fun _ _ _ _ h => h) (by kernel_rfl) ?hyr4_9 (by omega) hH ?_
                case hyr4_9 => (intro w' hSw; clear hSw; go_simp; try (with_reducible rfl))
                simp only [List.set_cons_zero, List.set_cons_succ]
                refine wpAnyU_ready (rs := [6]) (by kernel_rfl) (by simp) ?_
                refine AllReadyU.cons 0 (by kernel_rfl) (o := _) rfl (fun K hK => ?_) AllReadyU.nil
                try clear hb
                go_simp
                (go_at_call 24; refine (HLE2.out _).mono ?_; rintro e wn ⟨rfl, hb⟩)
                refine hK.out _ _ ?hsr4_10 (fun hH2 => ?hrr4_10)
                case hsr4_10 => exact S2i0 (by have hG := hH; replace hG := S2o0 hG; (try dsimp only at hG); have q0 := hG.1; have q1 := hG.2.1; have q2 := hG.2.2.1; have q3 := hG.2.2.2.1; have q4 := hG.2.2.2.2.1; have q5 := hG.2.2.2.2.2; exact ⟨keepRj hb q0, keepJg hb q1, keepVg hb q2, keepVg hb q3, keepVg hb q4, keepVg hb q5⟩)
                clear hK K hH
                have hH := hH2
                clear hH2
                try simp only [Act.put, List.setIfInBounds_toArray, List.set_cons_zero, List.set_cons_succ]
                refine U_take 9 111 1 0 0 (v := ?vr4_11) rfl (by kernel_rfl) (by kernel_rfl) hWr4 (by kernel_rfl) (by kernel_rfl) (by kernel_rfl) (by kernel_rfl) (by kernel_rfl) (by kernel_rfl) (fun _ _ _ _ h => h) (by kernel_rfl) ?hyr4_11 (by omega) hH ?_
                case hyr4_11 => (intro w' hSw; clear hSw; go_simp; try (with_reducible rfl))
                simp only [List.set_cons_zero, List.set_cons_succ]
                refine wpAnyU_ready (rs := [11]) (by kernel_rfl) (by simp) ?_
                refine AllReadyU.cons 1 (by kernel_rfl) (o := _) rfl (fun K hK => ?_) AllReadyU.nil
                try clear hb
                have hG := hH
                replace hG := S2o0 hG; (try dsimp only at hG); have q0 := hG.1; have q1 := hG.2.1; have q2 := hG.2.2.1; have q3 := hG.2.2.2.1; have q4 := hG.2.2.2.2.1; have q5 := hG.2.2.2.2.2
                have HRX := hid q0
                clear hG q0 q1 q2 q3 q4 q5
                go_simp
                (go_at_call 62; refine (HPL.out _ HRX.out _ _ _).mono ?_; rintro e wn ⟨L2, rfl, hbl2, hm2, hg2⟩)
                refine hK.out _ _ ?hsr4_12 (fun hH2 => ?hrr4_12)
                case hsr4_12 => exact S2i1
                clear hK K hH
                have hH := hH2
                clear hH2
                try simp only [Act.put, List.setIfInBounds_toArray, List.set_cons_zero, List.set_cons_succ]
                have HB2 := hid hbl2
                have HM2 := hid hm2
                have HBE := hid (HRX.out.next hg2)
                clear hbl2 hm2 hg2 HRX
                refine wpAnyU_done (by kernel_rfl) ?_ _ _
                refine NoPanic.normal ?_
                go_wp2
                go_roundw
                case rel => exact ⟨m + 1, by omega, by go_num, L2, by rw [HST.out]; exact HM2.out.trans HQ9.out.symm, HBE.out, .inr ⟨g, cap, by rw [HLL.out _ HM2.out], hg0, by rw [HLL.out _ HM2.out]; exact hc1, hc2, HB2.out⟩⟩
                case measure => simp [intOf] <;> omega
              | false =>
                have hd0 : ¬ (d1 = 0 ∧ d2 = 0) := by simpa using hev.symm
                have hq9 : jointQ (L1.map valB) x st = pullX (L1.map valB) x u1 u2 (lz - x.len) st := by have h9 := jointQ_way (Q := L1.map valB) (st := st) hz (by rw [HD1.out, HD2.out]; exact hd0); rw [h9, HD1.out, HD2.out, HU1.out, HU2.out, HLZ.out]
                have HQ9 := hid hq9
                clear hq9
                clear hd0 hev hz
                go_upto_region 26 with fail
                clear j0 j1 j2 j3 j4 j5 j6 k0 k1 k2 k3 k4 k5 k6 k7 hfw HEQ
                refine wp_region_noPanic ?_
                refine wp_region_U (S := (S2 (fun w' => Rj w Bz g L1 w' ∧ Jg w' gx x ∧ Vg w' gp e1 e2 ∧ Vg w' (gp + 1) e3 e4 ∧ Vg w' gd d1 d2 ∧ Vg w' gw u1 u2))) (T := (fun j => [0, 0, 0, 0, 0, 0, 0, 0, 0, 0, 0, 1].getD j 0)) (by kernel_rfl) (S2i0 ⟨HRJ9.out.drew, HJG9.out.drew, HVP9.out.drew, HVQ9.out.drew, HVD9.out.drew, HVW9.out.drew⟩) (fun hH => ?_)
                have hWr5 : Weaker (S2 (fun w' => Rj w Bz g L1 w' ∧ Jg w' gx x ∧ Vg w' gp e1 e2 ∧ Vg w' (gp + 1) e3 e4 ∧ Vg w' gd d1 d2 ∧ Vg w' gw u1 u2)) := weaker2 _
                refine U_take 0 102 11 0 0 (v := ?vr5_1) rfl (by kernel_rfl) (by kernel_rfl) hWr5 (by kernel_rfl) (by kernel_rfl) (by kernel_rfl) (by kernel_rfl) (by kernel_rfl) (by kernel_rfl) (fun _ _ _ _ h => h) (by kernel_rfl) ?hyr5_1 (by omega) hH ?_
                case hyr5_1 => (intro w' hSw; clear hSw; go_simp; try (with_reducible rfl))
                simp only [List.set_cons_zero, List.set_cons_succ]
                refine U_take 1 103 10 0 0 (v := ?vr5_2) rfl (by kernel_rfl) (by kernel_rfl) hWr5 (by kernel_rfl) (by kernel_rfl) (by kernel_rfl) (by kernel_rfl) (by kernel_rfl) (by kernel_rfl) (fun _ _ _ _ h => h) (by kernel_rfl) ?hyr5_2 (by omega) hH ?_
                case hyr5_2 => (intro w' hSw; replace hSw := S2o0 hSw; (try dsimp only at hSw); have q0 := hSw.1; have q1 := hSw.2.1; have q2 := hSw.2.2.1; have q3 := hSw.2.2.2.1; have q4 := hSw.2.2.2.2.1; have q5 := hSw.2.2.2.2.2; skip; obtain ⟨qa1_0, qa1_1, qa1_2, qa1_3, qa1_4, qa1_5, qa1_6⟩ := id q1; obtain ⟨qa2_0, qa2_1⟩ := id q2; obtain ⟨qa3_0, qa3_1⟩ := id q3; obtain ⟨qa4_0, qa4_1⟩ := id q4; obtain ⟨qa5_0, qa5_1⟩ := id q5; go_simp; try (with_reducible rfl))
                simp only [List.set_cons_zero, List.set_cons_succ]
                refine U_take 2 104 9 0 0 (v := ?vr5_3) rfl (by kernel_rfl) (by kernel_rfl) hWr5 (by kernel_rfl) (by kernel_rfl) (by kernel_rfl) (by kernel_rfl) (by kernel_rfl) (by kernel_rfl) (fun _ _ _ _ h => h) (by kernel_rfl) ?hyr5_3 (by omega) hH ?_
                case hyr5_3 => (intro w' hSw; replace hSw := S2o0 hSw; (try dsimp only at hSw); have q0 := hSw.1; have q1 := hSw.2.1; have q2 := hSw.2.2.1; have q3 := hSw.2.2.2.1; have q4 := hSw.2.2.2.2.1; have q5 := hSw.2.2.2.2.2; skip; obtain ⟨qa1_0, qa1_1, qa1_2, qa1_3, qa1_4, qa1_5, qa1_6⟩ := id q1; obtain ⟨qa2_0, qa2_1⟩ := id q2; obtain ⟨qa3_0, qa3_1⟩ := id q3; obtain ⟨qa4_0, qa4_1⟩ := id q4; obtain ⟨qa5_0, qa5_1⟩ := id q5; go_simp; try (with_reducible rfl))
                simp only [List.set_cons_zero, List.set_cons_succ]
                refine U_take 3 105 8 0 0 (v := ?vr5_4) rfl (by kernel_rfl) (by kernel_rfl) hWr5 (by kernel_rfl) (by kernel_rfl) (by kernel_rfl) (by kernel_rfl) (by kernel_rfl) (by kernel_rfl) (fun _ _ _ _ h => h) (by kernel_rfl) ?hyr5_4 (by omega) hH ?_
                case hyr5_4 => (intro w' hSw; replace hSw := S2o0 hSw; (try dsimp only at hSw); have q0 := hSw.1; have q1 := hSw.2.1; have q2 := hSw.2.2.1; have q3 := hSw.2.2.2.1; have q4 := hSw.2.2.2.2.1; have q5 := hSw.2.2.2.2.2; skip; obtain ⟨qa1_0, qa1_1, qa1_2, qa1_3, qa1_4, qa1_5, qa1_6⟩ := id q1; obtain ⟨qa2_0, qa2_1⟩ := id q2; obtain ⟨qa3_0, qa3_1⟩ := id q3; obtain ⟨qa4_0, qa4_1⟩ := id q4; obtain ⟨qa5_0, qa5_1⟩ := id q5; go_simp; try (with_reducible rfl))
                simp only [List.set_cons_zero, List.set_cons_succ]
                refine U_take 4 106 7 0 0 (v := ?vr5_5) rfl (by kernel_rfl) (by kernel_rfl) hWr5 (by kernel_rfl) (by kernel_rfl) (by kernel_rfl) (by kernel_rfl) (by kernel_rfl) (by kernel_rfl) (fun _ _ _ _ h => h) (by kernel_rfl) ?hyr5_5 (by omega) hH ?_
                case hyr5_5 => (intro w' hSw; replace hSw := S2o0 hSw; (try dsimp only at hSw); have q0 := hSw.1; have q1 := hSw.2.1; have q2 := hSw.2.2.1; have q3 := hSw.2.2.2.1; have q4 := hSw.2.2.2.2.1; have q5 := hSw.2.2.2.2.2; skip; obtain ⟨qa1_0, qa1_1, qa1_2, qa1_3, qa1_4, qa1_5, qa1_6⟩ := id q1; obtain ⟨qa2_0, qa2_1⟩ := id q2; obtain ⟨qa3_0, qa3_1⟩ := id q3; obtain ⟨qa4_0, qa4_1⟩ := id q4; obtain ⟨qa5_0, qa5_1⟩ := id q5; go_simp; try (with_reducible rfl))
                simp only [List.set_cons_zero, List.set_cons_succ]
                refine U_take 5 107 6 0 0 (v := ?vr5_6) rfl (by kernel_rfl) (by kernel_rfl) hWr5 (by kernel_rfl) (by kernel_rfl) (by kernel_rfl) (by kernel_rfl) (by kernel_rfl) (by kernel_rfl) (fun _ _ _ _ h => h) (by kernel_rfl) ?hyr5_6 (by omega) hH ?_
                case hyr5_6 => (intro w' hSw; replace hSw := S2o0 hSw; (try dsimp only at hSw); have q0 := hSw.1; have q1 := hSw.2.1; have q2 := hSw.2.2.1; have q3 := hSw.2.2.2.1; have q4 := hSw.2.2.2.2.1; have q5 := hSw.2.2.2.2.2; skip; obtain ⟨qa1_0, qa1_1, qa1_2, qa1_3, qa1_4, qa1_5, qa1_6⟩ := id q1; obtain ⟨qa2_0, qa2_1⟩ := id q2; obtain ⟨qa3_0, qa3_1⟩ := id q3; obtain ⟨qa4_0, qa4_1⟩ := id q4; obtain ⟨qa5_0, qa5_1⟩ := id q5; go_simp; try (with_reducible rfl))
                simp only [List.set_cons_zero, List.set_cons_succ]
                refine U_take 7 109 5 0 0 (v := ?vr5_7) rfl (by kernel_rfl) (by kernel_rfl) hWr5 (by kernel_rfl) (by kernel_rfl) (by kernel_rfl) (by kernel_rfl) (by kernel_rfl) (by kernel_rfl) (fun _ _ _ _ h => h) (by kernel_rfl) ?hyr5_7 (by omega) hH ?_
                case hyr5_7 => (intro w' hSw; clear hSw; go_simp; try (with_reducible rfl))
                simp only [List.set_cons_zero, List.set_cons_succ]
                refine U_take 8 110 4 0 0 (v := ?vr5_8) rfl (by kernel_rfl) (by kernel_rfl) hWr5 (by kernel_rfl) (by kernel_rfl) (by kernel_rfl) (by kernel_rfl) (by kernel_rfl) (by kernel_rfl) (fun _ _ _ _ h => h) (by kernel_rfl) ?hyr5_8 (by omega) hH ?_
                case hyr5_8 => (intro w' hSw; replace hSw := S2o0 hSw; (try dsimp only at hSw); have q0 := hSw.1; have q1 := hSw.2.1; have q2 := hSw.2.2.1; have q3 := hSw.2.2.2.1; have q4 := hSw.2.2.2.2.1; have q5 := hSw.2.2.2.2.2; skip; obtain ⟨qa1_0, qa1_1, qa1_2, qa1_3, qa1_4, qa1_5, qa1_6⟩ := id q1; obtain ⟨qa2_0, qa2_1⟩ := id q2; obtain ⟨qa3_0, qa3_1⟩ := id q3; obtain ⟨qa4_0, qa4_1⟩ := id q4; obtain ⟨qa5_0, qa5_1⟩ := id q5; go_simp; try (with_reducible rfl))
                simp only [List.set_cons_zero, List.set_cons_succ]
                refine U_take 10 112 3 0 0 (v := ?vr5_9) rfl (by kernel_rfl) (by kernel_rfl) hWr5 (by kernel_rfl) (by kernel_rfl) (by kernel_rfl) (by kernel_rfl) (by kernel_rfl) (by kernel_rfl) (fun _ _ _ _ h => h) (by kernel_rfl) ?hyr5_9 (by omega) hH ?_
                case hyr5_9 => (intro w' hSw; clear hSw; go_simp; try (with_reducible rfl))
                simp only [List.set_cons_zero, List.set_cons_succ]
                refine wpAnyU_ready (rs := [6]) (by kernel_rfl) (by simp) ?_
                refine AllReadyU.cons 0 (by kernel_rfl) (o := _) rfl (fun K hK => ?_) AllReadyU.nil
                try clear hb
                go_simp
                (go_at_call 24; refine (HLE2.out _).mono ?_; rintro e wn ⟨rfl, hb⟩)
                refine hK.out _ _ ?hsr5_10 (fun hH2 => ?hrr5_10)
                case hsr5_10 => exact S2i0 (by have hG := hH; replace hG := S2o0 hG; (try dsimp only at hG); have q0 := hG.1; have q1 := hG.2.1; have q2 := hG.2.2.1; have q3 := hG.2.2.2.1; have q4 := hG.2.2.2.2.1; have q5 := hG.2.2.2.2.2; exact ⟨keepRj hb q0, keepJg hb q1, keepVg hb q2, keepVg hb q3, keepVg hb q4, keepVg hb q5⟩)
                clear hK K hH
                have hH := hH2
                clear hH2
                try simp only [Act.put, List.setIfInBounds_toArray, List.set_cons_zero, List.set_cons_succ]
                refine U_take 9 111 1 0 0 (v := ?vr5_11) rfl (by kernel_rfl) (by kernel_rfl) hWr5 (by kernel_rfl) (by kernel_rfl) (by kernel_rfl) (by kernel_rfl) (by kernel_rfl) (by kernel_rfl) (fun _ _ _ _ h => h) (by kernel_rfl) ?hyr5_11 (by omega) hH ?_
                case hyr5_11 => (intro w' hSw; clear hSw; go_simp; try (with_reducible rfl))
                simp only [List.set_cons_zero, List.set_cons_succ]
                refine wpAnyU_ready (rs := [11]) (by kernel_rfl) (by simp) ?_
                refine AllReadyU.cons 1 (by kernel_rfl) (o := _) rfl (fun K hK => ?_) AllReadyU.nil
                try clear hb
                have hG := hH
                replace hG := S2o0 hG; (try dsimp only at hG); have q0 := hG.1; have q1 := hG.2.1; have q2 := hG.2.2.1; have q3 := hG.2.2.2.1; have q4 := hG.2.2.2.2.1; have q5 := hG.2.2.2.2.2
                have HRX := hid q0
                clear hG q0 q1 q2 q3 q4 q5
                go_simp
                (go_at_call 62; refine (HPL.out _ HRX.out _ _ _).mono ?_; rintro e wn ⟨L2, rfl, hbl2, hm2, hg2⟩)
                refine hK.out _ _ ?hsr5_12 (fun hH2 => ?hrr5_12)
                case hsr5_12 => exact S2i1
                clear hK K hH
                have hH := hH2
                clear hH2
                try simp only [Act.put, List.setIfInBounds_toArray, List.set_cons_zero, List.set_cons_succ]
                have HB2 := hid hbl2
                have HM2 := hid hm2
                have HBE := hid (HRX.out.next hg2)
                clear hbl2 hm2 hg2 HRX
                refine wpAnyU_done (by kernel_rfl) ?_ _ _
                refine NoPanic.normal ?_
                go_wp2
                go_roundw
                case rel => exact ⟨m + 1, by omega, by go_num, L2, by rw [HST.out]; exact HM2.out.trans HQ9.out.symm, HBE.out, .inr ⟨g, cap, by rw [HLL.out _ HM2.out], hg0, by rw [HLL.out _ HM2.out]; exact hc1, hc2, HB2.out⟩⟩
                case measure => simp [intOf] <;> omega
            · have hmn : m = J.length := by omega
              subst hmn
              have HRW := hid hrv
              clear hrv
              go_wp2
              go_roundw
              case rel => exact ⟨k + 1, by omega, by go_num, by rw [HRS.out]; exact HRW.out⟩
              case measure => simp [intOf] <;> omega
        · have hkn : k = rn := by omega
          subst hkn
          obtain ⟨A2, n2, c2, L2, rfl, hs2, hm2, hB2⟩ := HRV.out.ret (by rw [HLK.out.len, List.length_map]; exact h64)
          clear HRV
          go_wp2
          exact bodyPost_ret (v := .tuple #[.slice A2 n2 c2, .int .i64 0]) (by simp [results, Try.results26, go_sem]) rfl ⟨A2, n2, c2, L2, by rw [HRE.out], hs2, by rw [HRQ.out]; exact hm2, hB2⟩
end
end Go.Proofs.Ytbajmekmpgfpeaa
