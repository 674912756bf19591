/- Parts of a proof: contracts and laws. -/
import Derived.Test.YtilncglnojjlaaaGreatG11
import Derived.Test.YtilncglnojjlaaaGreatG12
import Derived.Test.YtilncglnojjlaaaGreatG08
import Derived.Maps.AppendAt
namespace Go.Proofs.YtilncglnojjlaaaGreat
section
set_option linter.unusedVariables false
set_option linter.unusedSimpArgs false
open Go.RowKit
set_option maxRecDepth 100000 in
set_option maxHeartbeats 4000000 in
theorem rbody_calls (b : Bd) (A : Option Addr) (n c : Nat) (l : List V) (w : World) (hS : Sl w A n c l) : Calls Tryz.prog 8 #[bodyV b A n c] w (Ret (.int .i64 (bodyE b l)) w) := by
 obtain ⟨W, hW⟩ : ∃ W, W = w.alloc (.cells #[.int .i64 b.px, .int .i64 b.py, .int .i64 b.vx, .int .i64 b.vy, .int .i64 b.ang, .int .i64 b.spin, .int .i64 b.mass, .int .i64 b.iner, .int .i64 b.bounce, .int .i64 b.rub, .slice A n c, .bool b.asleep, .int .i64 b.calm] 26) := ⟨_, rfl⟩
 have HK := hid (show BdAt W w.heap.size b A n c by rw [hW]; exact BdAt.here w b A n c _)
 have hB : Below w.heap.size w W := by rw [hW]; go_grown
 have HS0 := hid (hS.below hB)
 clear hS
 obtain ⟨k0, k1, k2, k3, k4, k5, k6, k7, k8, k9, k10, k11, k12, _⟩ := HK.out
 go_enter Tryz.func8, Tryz.ntmps8
 go_wp2_with fail
 rw [← hW]
 clear hW k0 k1 k2 k3 k4 k5 k6 k7 k8 k9 k10 k11 k12
 refine (corners_calls _ _ _ l _ HS0.out).mono ?_
 rintro e w1 ⟨rfl, hb1⟩
 have HK1 := hid (keepBd hb1 HK.out)
 have hB1 := keepBelow hb1 hB
 clear hb1 HK hB HS0
 by_cases hE : shapeE l = 0
 ·have HBE : Hid (bodyE b l = numE b) := by show _ = _; unfold bodyE; rw [if_neg (by simp [hE])]
  rw [hE]
  clear hE
  obtain ⟨k0, k1, k2, k3, k4, k5, k6, k7, k8, k9, k10, k11, k12, _⟩ := HK1.out
  go_wp2_with fail
  refine (coord_calls _ _ _ _ (by omega) (by omega)).mono ?_
  rintro e w2 ⟨rfl, hb2⟩
  have HK2 := hid (keepBd hb2 HK1.out)
  have hB2 := keepBelow hb2 hB1
  clear hb2 HK1 hB1 k0 k1 k2 k3 k4 k5 k6 k7 k8 k9 k10 k11 k12
  cases h0 : withinB 58982400 b.px b.py with
  | false =>
   have HR : Hid (bodyE b l = 1) := by show _ = _; rw [HBE.out]; simp [numE, h0]
   clear h0 HBE
   go_wp2
   go_returns
   exact ret_int HR.out.symm hB2
  | true =>
   have H0 := hid h0
   clear h0
   obtain ⟨k0, k1, k2, k3, k4, k5, k6, k7, k8, k9, k10, k11, k12, _⟩ := HK2.out
   go_wp2_with fail
   refine (coord_calls _ _ _ _ (by omega) (by omega)).mono ?_
   rintro e w3 ⟨rfl, hb3⟩
   have HK3 := hid (keepBd hb3 HK2.out)
   have hB3 := keepBelow hb3 hB2
   clear hb3 HK2 hB2 k0 k1 k2 k3 k4 k5 k6 k7 k8 k9 k10 k11 k12
   cases h1 : withinB 268435456 b.vx b.vy with
   | false =>
    have HR : Hid (bodyE b l = 1) := by show _ = _; rw [HBE.out]; simp [numE, h1, H0.out]
    clear h1 HBE
    go_wp2
    go_returns
    exact ret_int HR.out.symm hB3
   | true =>
    have H1 := hid h1
    clear h1
    obtain ⟨k0, k1, k2, k3, k4, k5, k6, k7, k8, k9, k10, k11, k12, _⟩ := HK3.out
    go_wp2_with fail
    refine (rbetween_calls _ _ _ _).mono ?_
    rintro e w4 ⟨rfl, hb4⟩
    have HK4 := hid (keepBd hb4 HK3.out)
    have hB4 := keepBelow hb4 hB3
    clear hb4 HK3 hB3 k0 k1 k2 k3 k4 k5 k6 k7 k8 k9 k10 k11 k12
    cases h2 : inB b.spin (-16777216) 16777216 with
    | false =>
     have HR : Hid (bodyE b l = 1) := by show _ = _; rw [HBE.out]; simp [numE, h2, H0.out, H1.out]
     clear h2 HBE
     go_wp2
     go_returns
     exact ret_int HR.out.symm hB4
    | true =>
     have H2 := hid h2
     clear h2
     obtain ⟨k0, k1, k2, k3, k4, k5, k6, k7, k8, k9, k10, k11, k12, _⟩ := HK4.out
     go_wp2_with fail
     refine (rbetween_calls _ _ _ _).mono ?_
     rintro e w5 ⟨rfl, hb5⟩
     have HK5 := hid (keepBd hb5 HK4.out)
     have hB5 := keepBelow hb5 hB4
     clear hb5 HK4 hB4 k0 k1 k2 k3 k4 k5 k6 k7 k8 k9 k10 k11 k12
     cases h3 : inB b.ang 0 65535 with
     | false =>
      have HR : Hid (bodyE b l = 1) := by show _ = _; rw [HBE.out]; simp [numE, h3, H0.out, H1.out, H2.out]
      clear h3 HBE
      go_wp2
      go_returns
      exact ret_int HR.out.symm hB5
     | true =>
      have H3 := hid h3
      clear h3
      obtain ⟨k0, k1, k2, k3, k4, k5, k6, k7, k8, k9, k10, k11, k12, _⟩ := HK5.out
      go_wp2_with fail
      refine (rbetween_calls _ _ _ _).mono ?_
      rintro e w6 ⟨rfl, hb6⟩
      have HK6 := hid (keepBd hb6 HK5.out)
      have hB6 := keepBelow hb6 hB5
      clear hb6 HK5 hB5 k0 k1 k2 k3 k4 k5 k6 k7 k8 k9 k10 k11 k12
      cases h4 : inB b.mass 0 1099511627776 with
      | false =>
       have HR : Hid (bodyE b l = 1) := by show _ = _; rw [HBE.out]; simp [numE, h4, H0.out, H1.out, H2.out, H3.out]
       clear h4 HBE
       go_wp2
       go_returns
       exact ret_int HR.out.symm hB6
      | true =>
       have H4 := hid h4
       clear h4
       obtain ⟨k0, k1, k2, k3, k4, k5, k6, k7, k8, k9, k10, k11, k12, _⟩ := HK6.out
       go_wp2_with fail
       refine (rbetween_calls _ _ _ _).mono ?_
       rintro e w7 ⟨rfl, hb7⟩
       have HK7 := hid (keepBd hb7 HK6.out)
       have hB7 := keepBelow hb7 hB6
       clear hb7 HK6 hB6 k0 k1 k2 k3 k4 k5 k6 k7 k8 k9 k10 k11 k12
       cases h5 : inB b.iner 0 1099511627776 with
       | false =>
        have HR : Hid (bodyE b l = 1) := by show _ = _; rw [HBE.out]; simp [numE, h5, H0.out, H1.out, H2.out, H3.out, H4.out]
        clear h5 HBE
        go_wp2
        go_returns
        exact ret_int HR.out.symm hB7
       | true =>
        have H5 := hid h5
        clear h5
        obtain ⟨k0, k1, k2, k3, k4, k5, k6, k7, k8, k9, k10, k11, k12, _⟩ := HK7.out
        go_wp2_with fail
        refine (rbetween_calls _ _ _ _).mono ?_
        rintro e w8 ⟨rfl, hb8⟩
        have HK8 := hid (keepBd hb8 HK7.out)
        have hB8 := keepBelow hb8 hB7
        clear hb8 HK7 hB7 k0 k1 k2 k3 k4 k5 k6 k7 k8 k9 k10 k11 k12
        cases h6 : inB b.bounce 0 65536 with
        | false =>
         have HR : Hid (bodyE b l = 1) := by show _ = _; rw [HBE.out]; simp [numE, h6, H0.out, H1.out, H2.out, H3.out, H4.out, H5.out]
         clear h6 HBE
         go_wp2
         go_returns
         exact ret_int HR.out.symm hB8
        | true =>
         have H6 := hid h6
         clear h6
         obtain ⟨k0, k1, k2, k3, k4, k5, k6, k7, k8, k9, k10, k11, k12, _⟩ := HK8.out
         go_wp2_with fail
         refine (rbetween_calls _ _ _ _).mono ?_
         rintro e w9 ⟨rfl, hb9⟩
         have HK9 := hid (keepBd hb9 HK8.out)
         have hB9 := keepBelow hb9 hB8
         clear hb9 HK8 hB8 k0 k1 k2 k3 k4 k5 k6 k7 k8 k9 k10 k11 k12
         cases h7 : inB b.rub 0 65536 with
         | false =>
          have HR : Hid (bodyE b l = 1) := by show _ = _; rw [HBE.out]; simp [numE, h7, H0.out, H1.out, H2.out, H3.out, H4.out, H5.out, H6.out]
          clear h7 HBE
          go_wp2
          go_returns
          exact ret_int HR.out.symm hB9
         | true =>
          have H7 := hid h7
          clear h7
          obtain ⟨k0, k1, k2, k3, k4, k5, k6, k7, k8, k9, k10, k11, k12, _⟩ := HK9.out
          go_wp2_with fail
          refine (rbetween_calls _ _ _ _).mono ?_
          rintro e w10 ⟨rfl, hb10⟩
          have HK10 := hid (keepBd hb10 HK9.out)
          have hB10 := keepBelow hb10 hB9
          clear hb10 HK9 hB9 k0 k1 k2 k3 k4 k5 k6 k7 k8 k9 k10 k11 k12
          cases h8 : inB b.calm 0 1000 with
          | false =>
           have HR : Hid (bodyE b l = 1) := by show _ = _; rw [HBE.out]; simp [numE, h8, H0.out, H1.out, H2.out, H3.out, H4.out, H5.out, H6.out, H7.out]
           clear h8 HBE
           go_wp2
           go_returns
           exact ret_int HR.out.symm hB10
          | true =>
           have H8 := hid h8
           clear h8
           have HNE : Hid (bodyE b l = if ((b.mass == 0) != (b.iner == 0)) || (b.mass == 0) && (!stillB b || b.asleep || (b.calm != 0)) || b.asleep && !stillB b then 3 else 0) := by
            show _ = _
            rw [HBE.out]
            simp only [numE, H0.out, H1.out, H2.out, H3.out, H4.out, H5.out, H6.out, H7.out, H8.out, Bool.and_self, if_true]
           have hm0 : b.mass = 0 ∨ 0 < b.mass := by have := inB_iff.1 H4.out; omega
           have hi0 : b.iner = 0 ∨ 0 < b.iner := by have := inB_iff.1 H5.out; omega
           have hc0 : b.calm = 0 ∨ 0 < b.calm := by have := inB_iff.1 H8.out; omega
           clear HBE H0 H1 H2 H3 H4 H5 H6 H7 H8
           obtain ⟨k0, k1, k2, k3, k4, k5, k6, k7, k8, k9, k10, k11, k12, _⟩ := HK10.out
           go_upto_region 8 with fail
           go_cut [4] from 61 to 75 (fun t wx => t = .bool (!stillB b) ∧ wx = w10)
           case first =>
            clear hm0 hi0 hc0
            by_cases v1 : b.vx = 0
            ·by_cases v2 : b.vy = 0
             ·by_cases v3 : b.spin = 0
              ·have hs : stillB b = true := by simp [stillB, v1, v2, v3]
               rw [v1] at k2
               rw [v2] at k3
               rw [v3] at k5
               have HSB := hid hs
               clear v1 v2 v3 hs HNE
               go_wp2
               go_meet
               exact ⟨by rw [HSB.out]; rfl, rfl⟩
              ·have hs : stillB b = false := by simp [stillB, v3]
               have v4 : (b.spin != 0) = true := by simp [v3]
               rw [v1] at k2
               rw [v2] at k3
               have HSB := hid hs
               clear v1 v2 v3 hs HNE
               go_wp2
               go_meet
               exact ⟨by rw [HSB.out]; rfl, rfl⟩
             ·have hs : stillB b = false := by simp [stillB, v2]
              have v4 : (b.vy != 0) = true := by simp [v2]
              rw [v1] at k2
              have HSB := hid hs
              clear v1 v2 hs HNE
              go_wp2
              go_meet
              exact ⟨by rw [HSB.out]; rfl, rfl⟩
            ·have hs : stillB b = false := by simp [stillB, v1]
             have v4 : (b.vx != 0) = true := by simp [v1]
             have HSB := hid hs
             clear v1 hs HNE
             go_wp2
             go_meet
             exact ⟨by rw [HSB.out]; rfl, rfl⟩
           case rest =>
            obtain ⟨rfl, hw⟩ := hcut
            rw [hw]
            clear hw wc
            generalize stillB b = st at HNE ⊢
            rcases hm0 with hm | hm
            ·have hme : (b.mass == 0) = true := by simp [hm]
             rw [hm] at k6
             rcases hi0 with hi | hi
             ·have hie : (b.iner == 0) = true := by simp [hi]
              rw [hi] at k7
              cases st with
              | false =>
               have HR : Hid (bodyE b l = 3) := by show _ = _; rw [HNE.out]; simp [*]
               clear HNE
               go_wp2
               go_returns
               exact ret_int HR.out.symm hB10
              | true =>
               cases ha : b.asleep with
               | true =>
                rw [ha] at k11 HNE
                have HR : Hid (bodyE b l = 3) := by show _ = _; rw [HNE.out]; simp [*]
                clear HNE
                go_wp2
                go_returns
                exact ret_int HR.out.symm hB10
               | false =>
                rw [ha] at k11 HNE
                rcases hc0 with hc | hc
                ·have hce : (b.calm != 0) = false := by simp [hc]
                 rw [hc] at k12
                 have HR : Hid (bodyE b l = 0) := by show _ = _; rw [HNE.out]; simp [*]
                 clear HNE
                 go_wp2
                 go_returns
                 exact ret_int HR.out.symm hB10
                ·have hce : (b.calm != 0) = true := by simp; omega
                 have HR : Hid (bodyE b l = 3) := by show _ = _; rw [HNE.out]; simp [*]
                 clear HNE
                 go_wp2
                 go_returns
                 exact ret_int HR.out.symm hB10
             ·have hie : (b.iner == 0) = false := by simp; omega
              have HR : Hid (bodyE b l = 3) := by show _ = _; rw [HNE.out]; simp [*]
              clear HNE
              go_wp2
              go_returns
              exact ret_int HR.out.symm hB10
            ·have hme : (b.mass == 0) = false := by simp; omega
             rcases hi0 with hi | hi
             ·have hie : (b.iner == 0) = true := by simp [hi]
              rw [hi] at k7
              have HR : Hid (bodyE b l = 3) := by show _ = _; rw [HNE.out]; simp [*]
              clear HNE
              go_wp2
              go_returns
              exact ret_int HR.out.symm hB10
             ·have hie : (b.iner == 0) = false := by simp; omega
              cases ha : b.asleep with
              | true =>
               rw [ha] at k11 HNE
               cases st with
               | true =>
                have HR : Hid (bodyE b l = 0) := by show _ = _; rw [HNE.out]; simp [*]
                clear HNE
                go_wp2
                go_returns
                exact ret_int HR.out.symm hB10
               | false =>
                have HR : Hid (bodyE b l = 3) := by show _ = _; rw [HNE.out]; simp [*]
                clear HNE
                go_wp2
                go_returns
                exact ret_int HR.out.symm hB10
              | false =>
               rw [ha] at k11 HNE
               have HR : Hid (bodyE b l = 0) := by show _ = _; rw [HNE.out]; simp [*]
               clear HNE
               go_wp2
               go_returns
               exact ret_int HR.out.symm hB10
 ·have HR : Hid (bodyE b l = shapeE l) := by show _ = _; unfold bodyE; rw [if_pos hE]
  have hne : (shapeE l != 0) = true := by simp [hE]
  clear hE
  go_wp2
  go_returns
  exact ret_int HR.out.symm hB1
end
end Go.Proofs.YtilncglnojjlaaaGreat
namespace Go.Proofs.YtilncglnojjlaaaGreat
section
set_option linter.unusedVariables false
set_option linter.unusedSimpArgs false
open Go.RowKit

structure Lay (α : Type) where
 enc : α → List Value
 k : Nat
 hk : ∀ x, (enc x).length = k
 one : ∀ x, ∀ v ∈ enc x, v.oneCell' = true
 pos : 0 < k
section
variable {α : Type} {L : Lay α}
structure CellsE (L : Lay α) (w : World) (b off : Nat) (l : List α) : Prop where
 lt : b < w.heap.size
 at_ : ∀ j (hj : j < l.length) i v, (L.enc l[j])[i]? = some v → w.cell? ⟨b, off + j * L.k + i, none⟩ = some v
structure SlE (L : Lay α) (w : World) (A : Option Addr) (n c : Nat) (l : List α) : Prop where
 len : n = l.length
 cap : n ≤ c
 big : c ≤ 9223372036854775807
 at_ : l ≠ [] → ∃ b off, A = some ⟨b, off, none⟩ ∧ CellsE L w b off l
theorem CellsE.below {w w' : World} {b off : Nat} {l : List α} (hb : Below w.heap.size w w') (h : CellsE L w b off l) : CellsE L w' b off l :=
 ⟨Nat.lt_of_lt_of_le h.lt hb.size, fun j hj i v hv => keepCell hb (h.at_ j hj i v hv)⟩
theorem SlE.below {w w' : World} {A : Option Addr} {n c : Nat} {l : List α} (h : SlE L w A n c l) (hb : Below w.heap.size w w') : SlE L w' A n c l :=
 ⟨h.len, h.cap, h.big, fun hl => by obtain ⟨b, off, e, hc⟩ := h.at_ hl; exact ⟨b, off, e, hc.below hb⟩⟩
theorem SlE.alloc {w : World} {A : Option Addr} {n c : Nat} {l : List α} (h : SlE L w A n c l) (o : Obj) : SlE L (w.alloc o) A n c l := h.below ((Below.refl _ _).alloc (Nat.le_refl _) _)
theorem SlE.drew {w : World} {A : Option Addr} {n c : Nat} {l : List α} (h : SlE L w A n c l) : SlE L w.drew A n c l := h.below (Below.refl _ _).drew
theorem SlE.nil (L : Lay α) (w : World) : SlE L w none 0 0 [] := ⟨rfl, Nat.le_refl _, by omega, fun h => absurd rfl h⟩
def flatE (L : Lay α) (l : List α) : List Value := l.flatMap L.enc
theorem flatE_at (l : List α) (j : Nat) (hj : j < l.length) (i : Nat) (v : Value) (h : (L.enc l[j])[i]? = some v) : (flatE L l)[j * L.k + i]? = some v := by
 induction l generalizing j with
 | nil => simp at hj
 | cons x l ih =>
  unfold flatE at *
  rw [List.flatMap_cons]
  cases j with
  | zero =>
   have hi : i < (L.enc x).length := by
    rcases Nat.lt_or_ge i (L.enc x).length with g | g
    ·exact g
    ·rw [List.getElem_cons_zero, List.getElem?_eq_none g] at h; cases h
   rw [Nat.zero_mul, Nat.zero_add, List.getElem?_append_left hi]
   exact h
  | succ j =>
   rw [List.getElem?_append_right (by rw [L.hk, Nat.add_mul]; omega), L.hk, show (j + 1) * L.k + i - L.k = j * L.k + i by rw [Nat.add_mul]; omega]
   exact ih j (by simpa using hj) (by simpa using h)

def OwnE (L : Lay α) (e : TypeId) (w : World) (B : Nat) (v : Value) (l : List α) : Prop := w.ownsRow B e L.k v l.length (flatE L l)
variable {e : TypeId}
theorem OwnE.nil (L : Lay α) (e : TypeId) (w : World) (B : Nat) : OwnE L e w B (.slice none 0 0) [] := World.ownsRow_nil _ _ _ _
theorem OwnE.kept {w w' : World} {B : Nat} {v : Value} {l : List α} {row : Option Nat} (h : OwnE L e w B v l) (hg : w.grownBy w' row) (hr : v.ownBlock = none ∨ v.ownBlock ≠ row) : OwnE L e w' B v l := World.ownsRow.kept h hg hr
theorem OwnE.below {w w' : World} {B : Nat} {v : Value} {l : List α} (h : OwnE L e w B v l) (hb : Below w.heap.size w w') : OwnE L e w' B v l :=
 h.kept (grown_of_below (row := none) hb) (by cases hv : v.ownBlock with | none => exact .inl rfl | some k => exact .inr (by simp))
theorem OwnE.alloc {w : World} {B : Nat} {v : Value} {l : List α} (h : OwnE L e w B v l) (o : Obj) : OwnE L e (w.alloc o) B v l := World.ownsRow.alloc h o
theorem OwnE.drew {w : World} {B : Nat} {v : Value} {l : List α} (h : OwnE L e w B v l) : OwnE L e w.drew B v l := h
theorem OwnE.lt {w : World} {B : Nat} {v : Value} {l : List α} (h : OwnE L e w B v l) {k : Nat} (hk : v.ownBlock = some k) : B ≤ k ∧ k < w.heap.size := World.ownsRow.lt h k hk
theorem OwnE.off {w : World} {B g : Nat} {s : Value} {l : List α} (h : OwnE L e w B s l) (hne : ∀ k, s.ownBlock = some k → k ≠ g) (o : Nat) (u : Value) : OwnE L e (w.setCell ⟨g, o, none⟩ u) B s l := by
 refine h.kept (grown_setCell _ g o _) ?_
 cases hv : s.ownBlock with
 | none => exact .inl rfl
 | some k => exact .inr fun e => by cases e; exact hne _ hv rfl
theorem OwnE.grown {w w' : World} {B : Nat} {v : Value} {l : List α} (h : OwnE L e w B v l) (hg : w.grownBy w' v.ownBlock) (hB : B ≤ w.heap.size) : Below B w w' :=
 (Below.refl B w).grown hg hB (fun k hk => (World.ownsRow.lt h k hk).1)
theorem OwnE.mono {w : World} {B B' : Nat} {v : Value} {l : List α} (h : OwnE L e w B v l) (hB : B' ≤ B) : OwnE L e w B' v l := by
 obtain ⟨h1, h2 | ⟨g, cap, cur, hv, hb, rest⟩⟩ := h
 ·exact ⟨h1, .inl h2⟩
 ·exact ⟨h1, .inr ⟨g, cap, cur, hv, Nat.le_trans hB hb, rest⟩⟩

theorem OwnE.form {w : World} {B : Nat} {v : Value} {l : List α} (h : OwnE L e w B v l) : (v = .slice none 0 0 ∧ l = []) ∨ ∃ g cap, v = .slice (some ⟨g, 0, none⟩) l.length cap ∧ B ≤ g ∧ g < w.heap.size ∧ l.length ≤ cap ∧ cap ≤ maxLen ∧ (∀ j, w.frozen? ⟨g, j, none⟩ = false) ∧ CellsE L w g 0 l := by
 have hc := fun g hg => World.ownsRow.cells h (g := g) hg
 obtain ⟨h1, h2 | ⟨g, cap, cur, rfl, hb, hg, hn, hm, hs, ht⟩⟩ := h
 ·exact .inl ⟨h2.1, List.length_eq_zero_iff.1 h2.2⟩
 ·have hlt := (Array.getElem?_eq_some_iff.1 hg).1
  refine .inr ⟨g, cap, rfl, hb, hlt, hn, hm, fun j => by simp [World.frozen?, hg], hlt, fun j hj i v hv => ?_⟩
  have := hc g rfl (j * L.k + i) v (flatE_at l j hj i v hv)
  have hadd : (⟨g, 0, none⟩ : Addr).add (j * L.k + i) = ⟨g, 0 + j * L.k + i, none⟩ := by unfold Addr.add; split <;> simp_all <;> omega
  rwa [hadd] at this
theorem OwnE.sl {w : World} {B : Nat} {v : Value} {l : List α} (h : OwnE L e w B v l) : ∃ A n c, v = .slice A n c ∧ SlE L w A n c l ∧ ∀ b off, A = some ⟨b, off, none⟩ → B ≤ b := by
 rcases h.form with ⟨rfl, rfl⟩ | ⟨g, cap, rfl, hB, hg, hn, hm, -, hc⟩
 ·exact ⟨none, 0, 0, rfl, SlE.nil L w, by simp⟩
 ·exact ⟨_, _, _, rfl, ⟨rfl, hn, by unfold maxLen at hm; omega, fun _ => ⟨g, 0, rfl, hc⟩⟩, fun b off e => by cases e; exact hB⟩


end
end
end Go.Proofs.YtilncglnojjlaaaGreat
namespace Go.Proofs.YtilncglnojjlaaaGreat
section
set_option linter.unusedVariables false
set_option linter.unusedSimpArgs false
open Go.RowKit

structure BE where
 b : Bd
 A : Option Addr
 n : Nat
 c : Nat
 l : List V
def encB (x : BE) : List Value := [.int .i64 x.b.px, .int .i64 x.b.py, .int .i64 x.b.vx, .int .i64 x.b.vy, .int .i64 x.b.ang, .int .i64 x.b.spin, .int .i64 x.b.mass, .int .i64 x.b.iner, .int .i64 x.b.bounce, .int .i64 x.b.rub, .slice x.A x.n x.c, .bool x.b.asleep, .int .i64 x.b.calm]
def layB : Lay BE := ⟨encB, 13, fun _ => rfl, fun x v hv => by simp only [encB, List.mem_cons, List.mem_nil_iff, or_false] at hv; rcases hv with rfl | rfl | rfl | rfl | rfl | rfl | rfl | rfl | rfl | rfl | rfl | rfl | rfl <;> rfl, by omega⟩
structure SlB (w : World) (A : Option Addr) (n c : Nat) (L : List BE) : Prop where
 sl : SlE layB w A n c L
 co : ∀ x ∈ L, Sl w x.A x.n x.c x.l
theorem SlB.below {w w' : World} {A : Option Addr} {n c : Nat} {L : List BE} (h : SlB w A n c L) (hb : Below w.heap.size w w') : SlB w' A n c L := ⟨h.sl.below hb, fun x hx => (h.co x hx).below hb⟩
theorem SlB.alloc {w : World} {A : Option Addr} {n c : Nat} {L : List BE} (h : SlB w A n c L) (o : Obj) : SlB (w.alloc o) A n c L := h.below ((Below.refl _ _).alloc (Nat.le_refl _) _)
theorem SlB.drew {w : World} {A : Option Addr} {n c : Nat} {L : List BE} (h : SlB w A n c L) : SlB w.drew A n c L := h.below (Below.refl _ _).drew

theorem cells_bd {w : World} {ba off k : Nat} {L : List BE} {x : BE} (h : CellsE layB w ba off L) (hk : k < L.length) (hx : x = L[k]) :
  w.cell? ⟨ba, off + k * 13, none⟩ = some (.int .i64 x.b.px) ∧ w.cell? ⟨ba, off + k * 13 + 1, none⟩ = some (.int .i64 x.b.py) ∧ w.cell? ⟨ba, off + k * 13 + 2, none⟩ = some (.int .i64 x.b.vx) ∧ w.cell? ⟨ba, off + k * 13 + 3, none⟩ = some (.int .i64 x.b.vy) ∧ w.cell? ⟨ba, off + k * 13 + 4, none⟩ = some (.int .i64 x.b.ang) ∧ w.cell? ⟨ba, off + k * 13 + 5, none⟩ = some (.int .i64 x.b.spin) ∧ w.cell? ⟨ba, off + k * 13 + 6, none⟩ = some (.int .i64 x.b.mass) ∧ w.cell? ⟨ba, off + k * 13 + 7, none⟩ = some (.int .i64 x.b.iner) ∧ w.cell? ⟨ba, off + k * 13 + 8, none⟩ = some (.int .i64 x.b.bounce) ∧ w.cell? ⟨ba, off + k * 13 + 9, none⟩ = some (.int .i64 x.b.rub) ∧ w.cell? ⟨ba, off + k * 13 + 10, none⟩ = some (.slice x.A x.n x.c) ∧ w.cell? ⟨ba, off + k * 13 + 11, none⟩ = some (.bool x.b.asleep) ∧ w.cell? ⟨ba, off + k * 13 + 12, none⟩ = some (.int .i64 x.b.calm) := by
 subst hx
 exact ⟨h.at_ k hk 0 _ rfl, h.at_ k hk 1 _ rfl, h.at_ k hk 2 _ rfl, h.at_ k hk 3 _ rfl, h.at_ k hk 4 _ rfl, h.at_ k hk 5 _ rfl, h.at_ k hk 6 _ rfl, h.at_ k hk 7 _ rfl, h.at_ k hk 8 _ rfl, h.at_ k hk 9 _ rfl, h.at_ k hk 10 _ rfl, h.at_ k hk 11 _ rfl, h.at_ k hk 12 _ rfl⟩

def bodiesTo (L : List BE) : Nat → Int
 | 0 => 0
 | k + 1 => if bodiesTo L k ≠ 0 then bodiesTo L k else match L[k]? with | some x => bodyE x.b x.l | none => 0
theorem bodiesTo_succ {L : List BE} {k : Nat} (hk : k < L.length) : bodiesTo L (k + 1) = if bodiesTo L k ≠ 0 then bodiesTo L k else bodyE L[k].b L[k].l := by
 rw [bodiesTo, List.getElem?_eq_getElem hk]
theorem bodiesTo_stop (L : List BE) {k : Nat} : ∀ {m : Nat}, m ≤ L.length → k < m → bodiesTo L (k + 1) ≠ 0 → bodiesTo L m = bodiesTo L (k + 1)
 | 0, _, h, _ => by omega
 | m + 1, hm, h, hz => by
  rcases Nat.lt_or_ge k m with g | g
  ·have := bodiesTo_stop L (m := m) (by omega) g hz
   rw [bodiesTo_succ (by omega), if_pos (by rw [this]; exact hz), this]
  ·rw [show m = k by omega]
end
end Go.Proofs.YtilncglnojjlaaaGreat
namespace Go.Proofs.YtilncglnojjlaaaGreat
section
set_option linter.unusedVariables false
set_option linter.unusedSimpArgs false
open Go.RowKit
def mxI (x y : Int) : Int := if y > x then y else x
def maxTo (r : List Int) : Nat → Int
 | 0 => r.getD 0 0
 | k + 1 => mxI (maxTo r k) (r.getD (k + 1) 0)
def maxL (r : List Int) : Int := maxTo r (r.length - 1)
set_option maxRecDepth 100000 in
set_option maxHeartbeats 4000000 in
theorem smax_calls (A : Option Addr) (n c : Nat) (r : List Int) (hr : 0 < r.length) (w : World) (hS : SlI w A n c r) : Calls Tryz.prog 55 #[.slice A n c] w (Ret (.int .i64 (maxL r)) w) := by
 have hn := hS.len
 subst hn
 obtain ⟨b, off, rfl, hb, hat⟩ := hS.at_ (by intro h; subst h; simp at hr)
 have hcap := hS.cap
 have hbig := hS.big
 have h1 : ¬ ((r.length : Int) < 1) := by omega
 have h2 : (0 : Int) < (r.length : Int) := by omega
 have c0 : w.cell? ⟨b, off, none⟩ = some (.int .i64 (maxTo r 0)) := by simpa [maxTo] using hat 0 hr
 clear hS
 go_enter Tryz.func55, Tryz.ntmps55
 go_wp2
 go_loopw [3, 4] (fun m i wr => ∃ k : Nat, k < r.length ∧ i = .int .i64 ((k : Int) + 1) ∧ m = .int .i64 (maxTo r k) ∧ Below w.heap.size w wr) (fun _ i _ => r.length - (intOf i).toNat)
 case atStart => exact ⟨0, hr, by simp, rfl, Below.refl _ _⟩
 case round =>
  obtain ⟨k, hk, rfl, rfl, hB⟩ := hrel
  obtain ⟨wo, rfl⟩ : ∃ wo : World, wo = wr := ⟨_, rfl⟩
  clear c0
  by_cases hlt : k + 1 < r.length
  ·have hx : wo.cell? ⟨b, off + (k + 1), none⟩ = some (.int .i64 (r.getD (k + 1) 0)) := ((bcell hB).1 _ _ hb).trans (hat (k + 1) hlt)
   have e1 : (k : Int) + 1 < (r.length : Int) := by omega
   have e2 : ((k : Int) + 1).toNat = k + 1 := by omega
   have e3 : 0 ≤ (k : Int) + 1 := by omega
   have e4 : IntKind.i64.wrap ((k : Int) + 1 + 1) = (k : Int) + 1 + 1 := IntWalk.i64_in _ (by omega)
   obtain ⟨m, hm⟩ : ∃ m, m = maxTo r k := ⟨_, rfl⟩
   obtain ⟨y, hy⟩ : ∃ y, y = r.getD (k + 1) 0 := ⟨_, rfl⟩
   obtain ⟨q, hq⟩ : ∃ q, q = mxI m y := ⟨_, rfl⟩
   have HQ : Hid (maxTo r (k + 1) = q) := by show _ = _; rw [hq, hm, hy]; rfl
   have hrun : ∀ (ts : Array TypeId) (t : TypeId) (w : World), (Builtin.max_ ts t #[.int .i64 m, .int .i64 y]).run Tryz.prog w = .ok (.int .i64 q) w := fun ts t w => by rw [run_max_int2, hq]; rfl
   rw [← hy] at hx
   rw [← hm]
   clear hat hm hy hq
   go_wp2
   go_roundw
   case rel => exact ⟨k + 1, hlt, by simp, by rw [HQ.out], hB⟩
   case measure => simp [intOf]; omega
  ·have e1 : ¬ ((k : Int) + 1 < (r.length : Int)) := by omega
   have hke : k = r.length - 1 := by omega
   have HQ : Hid (maxL r = maxTo r k) := by show _ = _; unfold maxL; rw [hke]
   clear hat
   generalize maxTo r k = m at *
   go_wp2
   go_returns
   exact ret_int HQ.out.symm hB

def OwnI (w : World) (B : Nat) (v : Value) (r : List Int) : Prop := w.ownsRow B 3 1 v r.length (r.map fun x => .int .i64 x)
theorem OwnI.nil (w : World) (B : Nat) : OwnI w B (.slice none 0 0) [] := World.ownsRow_nil _ _ _ _
theorem OwnI.kept {w w' : World} {B : Nat} {v : Value} {r : List Int} {row : Option Nat} (h : OwnI w B v r) (hg : w.grownBy w' row) (hr : v.ownBlock = none ∨ v.ownBlock ≠ row) : OwnI w' B v r := World.ownsRow.kept h hg hr
theorem OwnI.below {w w' : World} {B : Nat} {v : Value} {r : List Int} (h : OwnI w B v r) (hb : Below w.heap.size w w') : OwnI w' B v r :=
 h.kept (grown_of_below (row := none) hb) (by cases hv : v.ownBlock with | none => exact .inl rfl | some k => exact .inr (by simp))
theorem OwnI.alloc {w : World} {B : Nat} {v : Value} {r : List Int} (h : OwnI w B v r) (o : Obj) : OwnI (w.alloc o) B v r := World.ownsRow.alloc h o
theorem OwnI.drew {w : World} {B : Nat} {v : Value} {r : List Int} (h : OwnI w B v r) : OwnI w.drew B v r := h
theorem OwnI.grown {w w' : World} {B : Nat} {v : Value} {r : List Int} (h : OwnI w B v r) (hg : w.grownBy w' v.ownBlock) (hB : B ≤ w.heap.size) : Below B w w' :=
 (Below.refl B w).grown hg hB (fun k hk => (World.ownsRow.lt h k hk).1)
theorem OwnI.sl {w : World} {B : Nat} {v : Value} {r : List Int} (h : OwnI w B v r) : ∃ A n c, v = .slice A n c ∧ SlI w A n c r := by
 have hc := fun g hg => World.ownsRow.cells h (g := g) hg
 obtain ⟨h1, h2 | ⟨g, cap, cur, rfl, hb, hg, hn, hm, hs, ht⟩⟩ := h
 ·obtain ⟨rfl, h0⟩ := h2
  refine ⟨none, 0, 0, rfl, ⟨h0.symm, by omega, by omega, fun hl => ?_⟩⟩
  exact absurd (List.length_eq_zero_iff.1 h0) hl
 ·refine ⟨_, _, _, rfl, ⟨rfl, hn, by unfold maxLen at hm; omega, fun _ => ⟨g, 0, rfl, (Array.getElem?_eq_some_iff.1 hg).1, fun j hj => ?_⟩⟩⟩
  have := hc g rfl j (.int .i64 (r.getD j 0)) (by simp [hj])
  have hadd : (⟨g, 0, none⟩ : Addr).add j = ⟨g, 0 + j, none⟩ := by unfold Addr.add; split <;> simp_all
  rwa [hadd] at this
theorem info_int : (Tryz.prog.info? 3).map (fun i => (i.zero, i.size, i.bytes)) = some (some (.int .i64 0), 1, 8) := by kernel_rfl


structure Hold1 (w : World) (g : Nat) (z : Int) : Prop where
 c : w.cell? ⟨g, 0, none⟩ = some (.int .i64 z)
 lt : g < w.heap.size
theorem Hold1.here (w : World) (z : Int) (t : TypeId) : Hold1 (w.alloc (.cells #[.int .i64 z] t)) w.heap.size z := ⟨by go_simp, by simp⟩
theorem Hold1.drew {w : World} {g : Nat} {z : Int} (h : Hold1 w g z) : Hold1 w.drew g z := ⟨h.c, h.lt⟩
theorem keepHold1 {w w' : World} {g : Nat} {z : Int} (hb : Below w.heap.size w w') (h : Hold1 w g z) : Hold1 w' g z := ⟨keepCell hb h.c, Nat.lt_of_lt_of_le h.lt hb.size⟩

structure B4 (w : World) (g : Nat) : Prop where
 c : ∃ x y z u : Value, w.cell? ⟨g, 0, none⟩ = some x ∧ w.cell? ⟨g, 1, none⟩ = some y ∧ w.cell? ⟨g, 2, none⟩ = some z ∧ w.cell? ⟨g, 3, none⟩ = some u
 free : ∀ j, w.frozen? ⟨g, j, none⟩ = false
theorem B4.lt {w : World} {g : Nat} (h : B4 w g) : g < w.heap.size := by obtain ⟨⟨_, _, _, _, h0, _⟩, _⟩ := h; exact lt_of_cell h0
theorem keepB4B {w w' : World} {B g : Nat} (hb : Below B w w') (hg : g < B) (h : B4 w g) : B4 w' g := by
 obtain ⟨⟨x, y, z, u, h0, h1, h2, h3⟩, hf⟩ := h
 exact ⟨⟨x, y, z, u, ((bcell hb).1 _ _ hg).trans h0, ((bcell hb).1 _ _ hg).trans h1, ((bcell hb).1 _ _ hg).trans h2, ((bcell hb).1 _ _ hg).trans h3⟩, fun j => ((bcell hb).2 _ _ hg).trans (hf j)⟩
theorem keepB4 {w w' : World} {g : Nat} (hb : Below w.heap.size w w') (h : B4 w g) : B4 w' g := keepB4B hb h.lt h
theorem B4.alloc {w : World} {g : Nat} (h : B4 w g) (o : Obj) : B4 (w.alloc o) g := keepB4 ((Below.refl _ _).alloc (Nat.le_refl _) _) h
theorem B4.drew {w : World} {g : Nat} (h : B4 w g) : B4 w.drew g := ⟨h.c, h.free⟩
theorem B4.here (w : World) (a b c d : Int) (t : TypeId) : B4 (w.alloc (.cells #[.int .i64 a, .int .i64 b, .int .i64 c, .int .i64 d] t)) w.heap.size :=
 ⟨⟨.int .i64 a, .int .i64 b, .int .i64 c, .int .i64 d, by go_simp, by go_simp, by go_simp, by go_simp⟩, fun j => by go_simp⟩
end
end Go.Proofs.YtilncglnojjlaaaGreat
