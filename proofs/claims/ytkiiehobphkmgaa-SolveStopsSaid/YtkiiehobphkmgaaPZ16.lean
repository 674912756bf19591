/- Parts of a proof: contracts and laws. -/
import Derived.Test.YtkiiehobphkmgaaPZ14
import Derived.Test.YtkiiehobphkmgaaPZ04
import Derived.BigQuiet
import Derived.Test.YtkiiehobphkmgaaPZ08
import Derived.Test.YtkiiehobphkmgaaPZ09
import Derived.Test.YtkiiehobphkmgaaPZ15
namespace Go.Proofs.Ytkiiehobphkmgaa
section
set_option linter.unusedVariables false
set_option linter.unusedSimpArgs false
open Go.RowKit

structure BE where
  b : Bd
  A : Option Addr
  n : Nat
  c : Nat
  l : List V
def encB (x : BE) : List Value := [.int .i64 x.b.px, .int .i64 x.b.py, .int .i64 x.b.vx, .int .i64 x.b.vy, .int .i64 x.b.ang, .int .i64 x.b.spin, .int .i64 x.b.mass, .int .i64 x.b.iner, .int .i64 x.b.bounce, .int .i64 x.b.rub, .slice x.A x.n x.c, .bool x.b.asleep, .int .i64 x.b.calm]
def layB : Lay BE := ⟨encB, 13, fun _ => rfl, fun x v hv => by simp only [encB, List.mem_cons, List.mem_nil_iff, or_false] at hv; rcases hv with rfl | rfl | rfl | rfl | rfl | rfl | rfl | rfl | rfl | rfl | rfl | rfl | rfl <;> rfl, by omega⟩
structure SlB (w : World) (A : Option Addr) (n c : Nat) (L : List BE) : Prop where
  sl : SlE layB w A n c L
  co : ∀ x ∈ L, Sl w x.A x.n x.c x.l
theorem SlB.below {w w' : World} {A : Option Addr} {n c : Nat} {L : List BE} (h : SlB w A n c L) (hb : Below w.heap.size w w') : SlB w' A n c L := ⟨h.sl.below hb, fun x hx => (h.co x hx).below hb⟩
theorem SlB.alloc {w : World} {A : Option Addr} {n c : Nat} {L : List BE} (h : SlB w A n c L) (o : Obj) : SlB (w.alloc o) A n c L := h.below ((Below.refl _ _).alloc (Nat.le_refl _) _)
theorem SlB.drew {w : World} {A : Option Addr} {n c : Nat} {L : List BE} (h : SlB w A n c L) : SlB w.drew A n c L := h.below (Below.refl _ _).drew
theorem keepSlB {w w' : World} {A : Option Addr} {n c : Nat} {L : List BE} (hb : Below w.heap.size w w') (h : SlB w A n c L) : SlB w' A n c L := h.below hb

theorem cells_bd {w : World} {ba off k : Nat} {L : List BE} {x : BE} (h : CellsE layB w ba off L) (hk : k < L.length) (hx : x = L[k]) :
    w.cell? ⟨ba, off + k * 13, none⟩ = some (.int .i64 x.b.px) ∧ w.cell? ⟨ba, off + k * 13 + 1, none⟩ = some (.int .i64 x.b.py) ∧ w.cell? ⟨ba, off + k * 13 + 2, none⟩ = some (.int .i64 x.b.vx) ∧ w.cell? ⟨ba, off + k * 13 + 3, none⟩ = some (.int .i64 x.b.vy) ∧ w.cell? ⟨ba, off + k * 13 + 4, none⟩ = some (.int .i64 x.b.ang) ∧ w.cell? ⟨ba, off + k * 13 + 5, none⟩ = some (.int .i64 x.b.spin) ∧ w.cell? ⟨ba, off + k * 13 + 6, none⟩ = some (.int .i64 x.b.mass) ∧ w.cell? ⟨ba, off + k * 13 + 7, none⟩ = some (.int .i64 x.b.iner) ∧ w.cell? ⟨ba, off + k * 13 + 8, none⟩ = some (.int .i64 x.b.bounce) ∧ w.cell? ⟨ba, off + k * 13 + 9, none⟩ = some (.int .i64 x.b.rub) ∧ w.cell? ⟨ba, off + k * 13 + 10, none⟩ = some (.slice x.A x.n x.c) ∧ w.cell? ⟨ba, off + k * 13 + 11, none⟩ = some (.bool x.b.asleep) ∧ w.cell? ⟨ba, off + k * 13 + 12, none⟩ = some (.int .i64 x.b.calm) := by
  subst hx
  exact ⟨h.at_ k hk 0 _ rfl, h.at_ k hk 1 _ rfl, h.at_ k hk 2 _ rfl, h.at_ k hk 3 _ rfl, h.at_ k hk 4 _ rfl, h.at_ k hk 5 _ rfl, h.at_ k hk 6 _ rfl, h.at_ k hk 7 _ rfl, h.at_ k hk 8 _ rfl, h.at_ k hk 9 _ rfl, h.at_ k hk 10 _ rfl, h.at_ k hk 11 _ rfl, h.at_ k hk 12 _ rfl⟩

def bodiesTo (L : List BE) : Nat → Int
  | 0 => 0
  | k + 1 => if bodiesTo L k ≠ 0 then bodiesTo L k else match L[k]? with | some x => bodyE x.b x.l | none => 0
def bodiesE (L : List BE) : Int := if 64 < L.length then 2 else bodiesTo L L.length
theorem bodiesTo_succ {L : List BE} {k : Nat} (hk : k < L.length) : bodiesTo L (k + 1) = if bodiesTo L k ≠ 0 then bodiesTo L k else bodyE L[k].b L[k].l := by
  rw [bodiesTo, List.getElem?_eq_getElem hk]
theorem bodiesTo_stop (L : List BE) {k : Nat} : ∀ {m : Nat}, m ≤ L.length → k < m → bodiesTo L (k + 1) ≠ 0 → bodiesTo L m = bodiesTo L (k + 1)
  | 0, _, h, _ => by omega
  | m + 1, hm, h, hz => by
    rcases Nat.lt_or_ge k m with g | g
    · have := bodiesTo_stop L (m := m) (by omega) g hz
      rw [bodiesTo_succ (by omega), if_pos (by rw [this]; exact hz), this]
    · rw [show m = k by omega]
theorem bodiesTo_zero {L : List BE} : ∀ {m : Nat}, m ≤ L.length → bodiesTo L m = 0 → ∀ k (hk : k < L.length), k < m → bodyE L[k].b L[k].l = 0
  | 0, _, _, k, _, h => by omega
  | m + 1, hm, hz, k, hk, h => by
    rw [bodiesTo_succ (by omega)] at hz
    by_cases h0 : bodiesTo L m = 0
    · rw [if_neg (by simp [h0])] at hz
      rcases Nat.lt_or_ge k m with g | g
      · exact bodiesTo_zero (by omega) h0 k hk g
      · have : k = m := by omega
        subst this
        exact hz
    · rw [if_pos h0] at hz
      exact absurd hz h0
theorem bodiesE_zero {L : List BE} (h : bodiesE L = 0) : L.length ≤ 64 ∧ ∀ x ∈ L, bodyE x.b x.l = 0 := by
  unfold bodiesE at h
  by_cases h64 : 64 < L.length
  · rw [if_pos h64] at h; cases h
  · rw [if_neg h64] at h
    refine ⟨by omega, fun x hx => ?_⟩
    obtain ⟨k, hk, rfl⟩ := List.getElem_of_mem hx
    exact bodiesTo_zero (Nat.le_refl _) h k hk hk
set_option maxRecDepth 100000 in
set_option maxHeartbeats 4000000 in
theorem kcheck_calls (A : Option Addr) (n c : Nat) (L : List BE) (w : World) (hS : SlB w A n c L) : Calls Try.prog 27 #[.slice A n c] w (Ret (.int .i64 (bodiesE L)) w) := by
  have hn := hS.sl.len
  have hcap := hS.sl.cap
  have hbig := hS.sl.big
  subst hn
  by_cases h64 : 64 < L.length
  · have HE : Hid (bodiesE L = 2) := by show _ = _; unfold bodiesE; rw [if_pos h64]
    clear hS
    go_enter Try.func27, Try.ntmps27
    go_wp2
    go_returns
    exact ret_int HE.out.symm (Below.refl _ _)
  have HE : Hid (bodiesE L = bodiesTo L L.length) := by show _ = _; unfold bodiesE; rw [if_neg h64]
  have HS := hid hS
  clear hS
  go_enter Try.func27, Try.ntmps27
  go_wp2
  go_loopw [11] (fun i wr => ∃ k : Nat, k ≤ L.length ∧ i = .int .i64 k ∧ bodiesTo L k = 0 ∧ Below w.heap.size w wr) (fun i _ => L.length - (intOf i).toNat)
  case atStart => exact ⟨0, Nat.zero_le _, rfl, rfl, Below.refl _ _⟩
  case round =>
    obtain ⟨k, hk, rfl, hz, hB⟩ := hrel
    obtain ⟨wo, rfl⟩ : ∃ wo : World, wo = wr := ⟨_, rfl⟩
    have HSw := hid (HS.out.below hB)
    by_cases hlt : k < L.length
    · obtain ⟨ba, off, hA, hC⟩ := HSw.out.sl.at_ (by intro h; subst h; simp at hlt)
      subst hA
      obtain ⟨x, hx⟩ : ∃ x, x = L[k] := ⟨_, rfl⟩
      have HX := hid (show Sl wo x.A x.n x.c x.l from HSw.out.co x (by rw [hx]; exact List.getElem_mem hlt))
      have HZ : Hid (bodiesTo L (k + 1) = bodyE x.b x.l) := by show _ = _; rw [bodiesTo_succ hlt, if_neg (by simp [hz]), hx]
      have HZ0 := hid hz
      obtain ⟨d0, d1, d2, d3, d4, d5, d6, d7, d8, d9, d10, d11, d12⟩ := cells_bd hC hlt hx
      have hbo := hC.lt
      have hlt' : (k : Int) < (L.length : Int) := by omega
      have hkw : IntKind.i64.wrap ((k : Int) + 1) = (k : Int) + 1 := IntWalk.i64_in _ (by omega)
      clear hC hx hz HSw
      go_wp2_with fail
      have HX2 := hid (HX.out.alloc (.cells #[.int .i64 x.b.px, .int .i64 x.b.py, .int .i64 x.b.vx, .int .i64 x.b.vy, .int .i64 x.b.ang, .int .i64 x.b.spin, .int .i64 x.b.mass, .int .i64 x.b.iner, .int .i64 x.b.bounce, .int .i64 x.b.rub, .slice x.A x.n x.c, .bool x.b.asleep, .int .i64 x.b.calm] 27))
      refine (bcheck_calls x.b x.A x.n x.c x.l _ HX2.out).mono ?_
      rintro e w1 ⟨rfl, hb1⟩
      have hB1 : Below w.heap.size w w1 := keepBelow hb1 (hB.alloc hB.size _)
      clear hb1 HX HX2 hB
      by_cases hE : bodyE x.b x.l = 0
      · rw [hE]
        go_wp2
        go_roundw
        case rel => exact ⟨k + 1, by omega, by go_num, by rw [HZ.out, hE], hB1⟩
        case measure => simp [intOf]; omega
      · have hne : (bodyE x.b x.l != 0) = true := by simp [hE]
        have HR : Hid (bodyE x.b x.l = bodiesE L) := by show _ = _; rw [HE.out, bodiesTo_stop L (by omega) hlt (by rw [HZ.out]; exact hE), HZ.out]
        clear HZ
        go_wp2
        go_returns
        exact ret_int HR.out hB1
    · have hkn : k = L.length := by omega
      subst hkn
      clear HSw
      have HR : Hid (bodiesE L = 0) := by show _ = _; rw [HE.out]; exact hz
      clear hz
      go_wp2
      go_returns
      exact ret_int HR.out.symm hB
end
end Go.Proofs.Ytkiiehobphkmgaa
