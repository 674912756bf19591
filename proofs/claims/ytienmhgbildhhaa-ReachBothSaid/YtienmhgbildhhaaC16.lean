/- Parts of a proof: contracts and laws. -/
import Derived.Test.YtienmhgbildhhaaC14
import Derived.Test.YtienmhgbildhhaaC15
namespace Go.Proofs.Ytienmhgbildhhaa
section
set_option linter.unusedVariables false
set_option linter.unusedSimpArgs false
open Go.RowKit

structure BE where
  b : Bd
  A : Option Addr
  n : Nat
  c : Nat
  l : List V
def encB (x : BE) : List Value := [.int .i64 x.b.px, .int .i64 x.b.py, .int .i64 x.b.vx, .int .i64 x.b.vy, .int .i64 x.b.ang, .int .i64 x.b.spin, .int .i64 x.b.mass, .int .i64 x.b.iner, .int .i64 x.b.bounce, .int .i64 x.b.rub, .slice x.A x.n x.c, .bool x.b.asleep, .int .i64 x.b.calm]
def layB : Lay BE := ⟨encB, 13, fun _ => rfl, fun x v hv => by simp only [encB, List.mem_cons, List.mem_nil_iff, or_false] at hv; rcases hv with rfl | rfl | rfl | rfl | rfl | rfl | rfl | rfl | rfl | rfl | rfl | rfl | rfl <;> rfl, by omega⟩
structure SlB (w : World) (A : Option Addr) (n c : Nat) (L : List BE) : Prop where
  sl : SlE layB w A n c L
  co : ∀ x ∈ L, Sl w x.A x.n x.c x.l
theorem SlB.below {w w' : World} {A : Option Addr} {n c : Nat} {L : List BE} (h : SlB w A n c L) (hb : Below w.heap.size w w') : SlB w' A n c L := ⟨h.sl.below hb, fun x hx => (h.co x hx).below hb⟩
theorem SlB.alloc {w : World} {A : Option Addr} {n c : Nat} {L : List BE} (h : SlB w A n c L) (o : Obj) : SlB (w.alloc o) A n c L := h.below ((Below.refl _ _).alloc (Nat.le_refl _) _)
theorem SlB.drew {w : World} {A : Option Addr} {n c : Nat} {L : List BE} (h : SlB w A n c L) : SlB w.drew A n c L := h.below (Below.refl _ _).drew

theorem cells_bd {w : World} {ba off k : Nat} {L : List BE} {x : BE} (h : CellsE layB w ba off L) (hk : k < L.length) (hx : x = L[k]) :
    w.cell? ⟨ba, off + k * 13, none⟩ = some (.int .i64 x.b.px) ∧ w.cell? ⟨ba, off + k * 13 + 1, none⟩ = some (.int .i64 x.b.py) ∧ w.cell? ⟨ba, off + k * 13 + 2, none⟩ = some (.int .i64 x.b.vx) ∧ w.cell? ⟨ba, off + k * 13 + 3, none⟩ = some (.int .i64 x.b.vy) ∧ w.cell? ⟨ba, off + k * 13 + 4, none⟩ = some (.int .i64 x.b.ang) ∧ w.cell? ⟨ba, off + k * 13 + 5, none⟩ = some (.int .i64 x.b.spin) ∧ w.cell? ⟨ba, off + k * 13 + 6, none⟩ = some (.int .i64 x.b.mass) ∧ w.cell? ⟨ba, off + k * 13 + 7, none⟩ = some (.int .i64 x.b.iner) ∧ w.cell? ⟨ba, off + k * 13 + 8, none⟩ = some (.int .i64 x.b.bounce) ∧ w.cell? ⟨ba, off + k * 13 + 9, none⟩ = some (.int .i64 x.b.rub) ∧ w.cell? ⟨ba, off + k * 13 + 10, none⟩ = some (.slice x.A x.n x.c) ∧ w.cell? ⟨ba, off + k * 13 + 11, none⟩ = some (.bool x.b.asleep) ∧ w.cell? ⟨ba, off + k * 13 + 12, none⟩ = some (.int .i64 x.b.calm) := by
  subst hx
  exact ⟨h.at_ k hk 0 _ rfl, h.at_ k hk 1 _ rfl, h.at_ k hk 2 _ rfl, h.at_ k hk 3 _ rfl, h.at_ k hk 4 _ rfl, h.at_ k hk 5 _ rfl, h.at_ k hk 6 _ rfl, h.at_ k hk 7 _ rfl, h.at_ k hk 8 _ rfl, h.at_ k hk 9 _ rfl, h.at_ k hk 10 _ rfl, h.at_ k hk 11 _ rfl, h.at_ k hk 12 _ rfl⟩

def bodiesTo (L : List BE) : Nat → Int
  | 0 => 0
  | k + 1 => if bodiesTo L k ≠ 0 then bodiesTo L k else match L[k]? with | some x => bodyE x.b x.l | none => 0
theorem bodiesTo_succ {L : List BE} {k : Nat} (hk : k < L.length) : bodiesTo L (k + 1) = if bodiesTo L k ≠ 0 then bodiesTo L k else bodyE L[k].b L[k].l := by
  rw [bodiesTo, List.getElem?_eq_getElem hk]
theorem bodiesTo_stop (L : List BE) {k : Nat} : ∀ {m : Nat}, m ≤ L.length → k < m → bodiesTo L (k + 1) ≠ 0 → bodiesTo L m = bodiesTo L (k + 1)
  | 0, _, h, _ => by omega
  | m + 1, hm, h, hz => by
    rcases Nat.lt_or_ge k m with g | g
    · have := bodiesTo_stop L (m := m) (by omega) g hz
      rw [bodiesTo_succ (by omega), if_pos (by rw [this]; exact hz), this]
    · rw [show m = k by omega]
set_option maxRecDepth 100000 in
set_option maxHeartbeats 4000000 in
set_option maxRecDepth 100000 in
set_option maxHeartbeats 4000000 in
end
end Go.Proofs.Ytienmhgbildhhaa
