/- Parts of a proof: contracts and laws. -/
import Derived.Test.YtienmhgbildhhaaB35
import Derived.Test.YtienmhgbildhhaaB34
import Derived.Test.YtienmhgbildhhaaB36
import Derived.Test.YtienmhgbildhhaaB38
import Derived.Test.YtienmhgbildhhaaB24
namespace Go.Proofs.Ytienmhgbildhhaa
section
set_option linter.unusedVariables false
set_option linter.unusedSimpArgs false
open Go.RowKit

structure Cs (w : World) (g : Nat) (B : Option Addr) (n c : Nat) (p : List V) : Prop where
  a : w.cell? ⟨g, 0, none⟩ = some (.slice B n c)
  s : Sl w B n c p
set_option maxRecDepth 100000 in
set_option maxHeartbeats 2000000 in
theorem rayShape1_calls (A B : Option Addr) (n c n' c' : Nat) (q p : List V) (g1 g2 : Nat) (ux uy : Int) (w : World) (hp : Cs w g1 B n' c' p) (hu : Cf w g2 ux uy) (hS : Sl w A n c q) (h0u : withinB 65536000 ux uy = true) :
    Calls Try.prog 105 #[.slice A n c, .pointer (some ⟨g1, 0, none⟩), .pointer (some ⟨g2, 0, none⟩)] w (Ret (.tuple #[.int .i64 ((lineR (minusL q p) (0, 0) (ux, uy)).getD 0), .bool (lineR (minusL q p) (0, 0) (ux, uy)).isSome]) w) := by
  obtain ⟨mw, ml⟩ := minus_bd q p
  have HM := hid (nminus_calls A B n c n' c' q p w hS hp.s)
  have HL : Hid (∀ (A1 : Option Addr) (n1 c1 : Nat) (w' : World), Sl w' A1 n1 c1 (minusL q p) → Calls Try.prog 101 #[.slice A1 n1 c1, vecV 0 0, vecV ux uy] w' (Ret (.tuple #[.int .i64 ((lineR (minusL q p) (0, 0) (ux, uy)).getD 0), .bool (lineR (minusL q p) (0, 0) (ux, uy)).isSome]) w')) := fun A1 n1 c1 w' h => rline_calls A1 n1 c1 (minusL q p) 0 0 ux uy w' h mw (by omega) rfl h0u
  have hl1 := lt_of_cell hp.a
  have hl2 := lt_of_cell hu.a
  have p0 := hp.a
  obtain ⟨u0, u1⟩ := hu
  clear hS hp h0u mw ml
  generalize (lineR (minusL q p) (0, 0) (ux, uy)).getD 0 = T at *
  generalize (lineR (minusL q p) (0, 0) (ux, uy)).isSome = Bo at *
  generalize minusL q p = D at *
  generalize bothE q p = er at *
  go_enter Try.func105, Try.ntmps105
  go_wp2_with fail
  refine HM.out.mono ?_
  rintro e w1 ⟨A1, n1, c1, rfl, hD, -, hb⟩
  have k0 := keepCell hb u0
  have k1 := keepCell hb u1
  clear u0 u1 p0
  go_wp2_with fail
  refine (HL.out A1 n1 c1 _ hD).mono ?_
  rintro e w2 ⟨rfl, hb2⟩
  go_wp2
  refine bodyPost_ret (v := .tuple #[.int .i64 T, .bool Bo]) (by simp [results, Try.results105, go_sem]) rfl ⟨rfl, keepBelow hb2 hb⟩
theorem cf_rayShape1_calls (args : Array Value) (w : World) : (callFunc 105 args).run Try.prog w = .ok (.enter 105 args) w := by kernel_rfl
set_option maxRecDepth 100000 in
set_option maxHeartbeats 2000000 in
end
end Go.Proofs.Ytienmhgbildhhaa
namespace Go.Proofs.Ytienmhgbildhhaa
section
set_option linter.unusedVariables false
set_option linter.unusedSimpArgs false
open Go.RowKit
def shapeO (L : List BE) (p : List V) (u : V) : Option (Nat × Int) := frTo (fun q => lineR (minusL q p) (0, 0) u) L L.length

def shapeV (L : List BE) (p : List V) (u : V) : Value := if bodiesE L ≠ 0 then .tuple #[.int .i64 0, .int .i64 0, .int .i64 (bodiesE L)] else if checkE p ≠ 0 then .tuple #[.int .i64 0, .int .i64 0, .int .i64 (checkE p)] else if withinB 65536000 u.1 u.2 = false then .tuple #[.int .i64 0, .int .i64 0, .int .i64 1] else frV (shapeO L p u)
set_option maxRecDepth 100000 in
set_option maxHeartbeats 2000000 in
theorem rayShape_calls (A B : Option Addr) (n c n' c' : Nat) (L : List BE) (p : List V) (ux uy : Int) (w : World) (hS : SlB w A n c L) (hP : Sl w B n' c' p) :
    Calls Try.prog 40 #[.slice A n c, .slice B n' c', vecV ux uy] w (Ret (shapeV L p (ux, uy)) w) := by
  obtain ⟨W, hW⟩ : ∃ W, W = (w.alloc (.cells #[.slice B n' c'] 25)).alloc (.cells #[.int .i64 ux, .int .i64 uy] 24) := ⟨_, rfl⟩
  have p0 : W.cell? ⟨w.heap.size, 0, none⟩ = some (.slice B n' c') := by rw [hW]; go_simp
  have u0 : W.cell? ⟨w.heap.size + 1, 0, none⟩ = some (.int .i64 ux) := by rw [hW]; go_simp
  have u1 : W.cell? ⟨w.heap.size + 1, 1, none⟩ = some (.int .i64 uy) := by rw [hW]; go_simp
  have hB : Below w.heap.size w W := by rw [hW]; go_grown
  have HSW := hid hS
  have HPW := hid hP
  clear hS hP
  have HE : Hid (shapeV L p (ux, uy) = if bodiesE L ≠ 0 then .tuple #[.int .i64 0, .int .i64 0, .int .i64 (bodiesE L)] else if checkE p ≠ 0 then .tuple #[.int .i64 0, .int .i64 0, .int .i64 (checkE p)] else if withinB 65536000 ux uy = false then .tuple #[.int .i64 0, .int .i64 0, .int .i64 1] else frV (shapeO L p (ux, uy))) := rfl
  have HWU := hid (rwithin_calls ux uy)
  go_enter Try.func40, Try.ntmps40
  go_wp2_with fail
  rw [← hW]
  clear hW
  refine (kcheck_calls A n c L _ (HSW.out.below hB)).mono ?_
  rintro e w1 ⟨rfl, hb1⟩
  replace p0 := keepCell hb1 p0
  replace u0 := keepCell hb1 u0
  replace u1 := keepCell hb1 u1
  replace hB := keepBelow hb1 hB
  clear hb1
  by_cases hE : bodiesE L = 0
  case neg =>
    have HR : Hid (shapeV L p (ux, uy) = .tuple #[.int .i64 0, .int .i64 0, .int .i64 (bodiesE L)]) := by show _ = _; rw [HE.out, if_pos hE]
    have hne : (bodiesE L != 0) = true := by simp [hE]
    clear HE
    generalize bodiesE L = z at *
    go_wp2
    refine bodyPost_ret (v := .tuple #[.int .i64 0, .int .i64 0, .int .i64 z]) (by simp [results, Try.results40, go_sem]) rfl ⟨by rw [HR.out], hB⟩
  obtain ⟨h64, hval⟩ := bodiesE_zero hE
  have HV := hid hval
  rw [if_neg (by simp [hE])] at HE
  rw [hE]
  clear hE hval
  go_wp2_with fail
  refine (check_calls B n' c' p _ (HPW.out.below hB)).mono ?_
  rintro e w2 ⟨rfl, hb2⟩
  replace p0 := keepCell hb2 p0
  replace u0 := keepCell hb2 u0
  replace u1 := keepCell hb2 u1
  replace hB := keepBelow hb2 hB
  clear hb2
  by_cases hE : checkE p = 0
  case neg =>
    have HR : Hid (shapeV L p (ux, uy) = .tuple #[.int .i64 0, .int .i64 0, .int .i64 (checkE p)]) := by show _ = _; rw [HE.out, if_pos hE]
    have hne : (checkE p != 0) = true := by simp [hE]
    clear HE
    generalize checkE p = z at *
    go_wp2
    refine bodyPost_ret (v := .tuple #[.int .i64 0, .int .i64 0, .int .i64 z]) (by simp [results, Try.results40, go_sem]) rfl ⟨by rw [HR.out], hB⟩
  rw [if_neg (by simp [hE])] at HE
  rw [hE]
  clear hE
  go_wp2_with fail
  refine (HWU.out _).mono ?_
  rintro e w3 ⟨rfl, hb3⟩
  replace p0 := keepCell hb3 p0
  replace u0 := keepCell hb3 u0
  replace u1 := keepCell hb3 u1
  replace hB := keepBelow hb3 hB
  clear hb3 HWU
  cases h2 : withinB 65536000 ux uy with
  | false =>
    have HR : Hid (shapeV L p (ux, uy) = .tuple #[.int .i64 0, .int .i64 0, .int .i64 1]) := by show _ = _; rw [HE.out, if_pos h2]
    clear HE
    go_wp2
    refine bodyPost_ret (v := .tuple #[.int .i64 0, .int .i64 0, .int .i64 1]) (by simp [results, Try.results40, go_sem]) rfl ⟨by rw [HR.out], hB⟩
  | true =>
    rw [if_neg (by rw [h2]; simp)] at HE
    have HP0 : Hid (Cs w3 w.heap.size B n' c' p) := ⟨p0, HPW.out.below hB⟩
    have HU0 : Hid (Cf w3 (w.heap.size + 1) ux uy) := ⟨u0, u1⟩
    have HC := hid (rayfirst_calls 105 (.pointer (some ⟨w.heap.size, 0, none⟩)) (.pointer (some ⟨w.heap.size + 1, 0, none⟩)) cf_rayShape1_calls (fun q => lineR (minusL q p) (0, 0) (ux, uy)) A n c L w3 (HSW.out.below hB) HV.out h64 (fun x hx A1 n1 c1 w' hb hs => rayShape1_calls A1 B n1 c1 n' c' (placeL x.b x.l) p w.heap.size (w.heap.size + 1) ux uy w' ⟨keepCell hb HP0.out.a, HP0.out.s.below hb⟩ ⟨keepCell hb HU0.out.a, keepCell hb HU0.out.b⟩ hs h2))
    have HCO : Hid (shapeO L p (ux, uy) = frTo (fun q => lineR (minusL q p) (0, 0) (ux, uy)) L L.length) := rfl
    rw [← HCO.out] at HC
    generalize shapeO L p (ux, uy) = o at *
    clear HCO h2 HP0 HU0 HSW HPW HV
    go_wp2_with fail
    refine HC.out.mono ?_
    rintro e w4 ⟨rfl, hb4⟩
    replace hB := keepBelow hb4 hB
    clear hb4 HC p0 u0 u1
    have HFV : Hid (frV o = .tuple #[.int .i64 (frI o), .int .i64 (beZ o), .int .i64 (frE o)]) := rfl
    rw [HFV.out] at HE ⊢
    generalize frI o = r1 at *
    generalize beZ o = r2 at *
    generalize frE o = r3 at *
    go_wp2
    refine bodyPost_ret (v := .tuple #[.int .i64 r1, .int .i64 r2, .int .i64 r3]) (by simp [results, Try.results40, go_sem]) rfl ⟨by rw [HE.out], hB⟩
end
end Go.Proofs.Ytienmhgbildhhaa
