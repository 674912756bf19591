/- Parts of a proof: contracts and laws. -/
import Derived.Test.YtienmhgbildhhaaB33
namespace Go.Proofs.Ytienmhgbildhhaa
section
set_option linter.unusedVariables false
set_option linter.unusedSimpArgs false
open Go.RowKit
set_option maxRecDepth 100000 in
set_option maxHeartbeats 1000000 in
theorem rwithin_calls (a b : Int) (w : World) : Calls Try.prog 98 #[vecV a b] w (Ret (.bool (withinB 65536000 a b)) w) := by
  have HW : Hid (withinB 65536000 a b = (decide (-65536000 ≤ a) && decide (a ≤ 65536000) && decide (-65536000 ≤ b) && decide (b ≤ 65536000))) := by
    show _ = _
    rw [Bool.eq_iff_iff, withinB_iff]
    simp [and_assoc]
  generalize withinB 65536000 a b = R at *
  go_enter Try.func98, Try.ntmps98
  by_cases h1 : -65536000 ≤ a
  · by_cases h2 : a ≤ 65536000
    · by_cases h3 : -65536000 ≤ b
      · by_cases h4 : b ≤ 65536000
        · have HR : Hid (R = true) := by show _ = _; rw [HW.out]; simp [h1, h2, h3, h4]
          clear HW
          skip
          go_wp2
          go_returns
          exact ret_bool (by rw [HR.out]; try simp [*]) (by go_grown)
        · have HR : Hid (R = false) := by show _ = _; rw [HW.out]; simp [h1, h2, h3, h4]
          clear HW
          skip
          go_wp2
          go_returns
          exact ret_bool (by rw [HR.out]; try simp [*]) (by go_grown)
      · have HR : Hid (R = false) := by show _ = _; rw [HW.out]; simp [h1, h2, h3]
        clear HW
        skip
        go_wp2
        go_returns
        exact ret_bool (by rw [HR.out]; try simp [*]) (by go_grown)
    · have HR : Hid (R = false) := by show _ = _; rw [HW.out]; simp [h1, h2]
      clear HW
      skip
      go_wp2
      go_returns
      exact ret_bool (by rw [HR.out]; try simp [*]) (by go_grown)
  · have HR : Hid (R = false) := by show _ = _; rw [HW.out]; simp [h1]
    clear HW
    skip
    go_wp2
    go_returns
    exact ret_bool (by rw [HR.out]; try simp [*]) (by go_grown)
set_option maxRecDepth 100000 in
set_option maxHeartbeats 1000000 in
set_option maxRecDepth 100000 in
set_option maxHeartbeats 1000000 in
theorem cast1_calls (A : Option Addr) (n c : Nat) (l : List V) (g1 g2 : Nat) (fx fy ux uy : Int) (w : World) (hf : Cf w g1 fx fy) (hu : Cf w g2 ux uy) (hS : Sl w A n c l) (hw : allWithin 131072000 l = true) (hlen : l.length ≤ 100000) (h0f : withinB 65536000 fx fy = true) (h0u : withinB 65536000 ux uy = true) :
    Calls Try.prog 100 #[.slice A n c, .pointer (some ⟨g1, 0, none⟩), .pointer (some ⟨g2, 0, none⟩)] w (Ret (.tuple #[.int .i64 (lnT l (fx, fy) (ux, uy)), .bool (lnI l (fx, fy) (ux, uy))]) w) := by
  have HC := hid (rline_calls A n c l fx fy ux uy w hS hw hlen h0f h0u)
  have hl1 := lt_of_cell hf.a
  have hl2 := lt_of_cell hu.a
  obtain ⟨f0, f1⟩ := hf
  obtain ⟨u0, u1⟩ := hu
  clear hS hw h0f h0u
  generalize lnT l (fx, fy) (ux, uy) = T at *
  generalize lnI l (fx, fy) (ux, uy) = B at *
  go_enter Try.func100, Try.ntmps100
  go_wp2_with fail
  refine HC.out.mono ?_
  rintro e w1 ⟨rfl, hb⟩
  go_wp2
  refine bodyPost_ret (v := .tuple #[.int .i64 T, .bool B]) (by simp [results, Try.results100, go_sem]) rfl ⟨rfl, hb⟩
theorem cf_cast1_calls (args : Array Value) (w : World) : (callFunc 100 args).run Try.prog w = .ok (.enter 100 args) w := by kernel_rfl

def castO (L : List BE) (f u : V) : Option (Nat × Int) := frTo (fun p => lineR p f u) L L.length

def castV (L : List BE) (f u : V) : Value := if bodiesE L ≠ 0 then .tuple #[.int .i64 0, .int .i64 0, .int .i64 (bodiesE L)] else if withinB 65536000 f.1 f.2 = false ∨ withinB 65536000 u.1 u.2 = false then .tuple #[.int .i64 0, .int .i64 0, .int .i64 1] else frV (castO L f u)
set_option maxRecDepth 100000 in
set_option maxHeartbeats 2000000 in
theorem cast_calls (A : Option Addr) (n c : Nat) (L : List BE) (fx fy ux uy : Int) (w : World) (hS : SlB w A n c L) :
    Calls Try.prog 28 #[.slice A n c, vecV fx fy, vecV ux uy] w (Ret (castV L (fx, fy) (ux, uy)) w) := by
  obtain ⟨W, hW⟩ : ∃ W, W = (w.alloc (.cells #[.int .i64 fx, .int .i64 fy] 24)).alloc (.cells #[.int .i64 ux, .int .i64 uy] 24) := ⟨_, rfl⟩
  have f0 : W.cell? ⟨w.heap.size, 0, none⟩ = some (.int .i64 fx) := by rw [hW]; go_simp
  have f1 : W.cell? ⟨w.heap.size, 1, none⟩ = some (.int .i64 fy) := by rw [hW]; go_simp
  have u0 : W.cell? ⟨w.heap.size + 1, 0, none⟩ = some (.int .i64 ux) := by rw [hW]; go_simp
  have u1 : W.cell? ⟨w.heap.size + 1, 1, none⟩ = some (.int .i64 uy) := by rw [hW]; go_simp
  have hB : Below w.heap.size w W := by rw [hW]; go_grown
  have HSW := hid hS
  clear hS
  have HE : Hid (castV L (fx, fy) (ux, uy) = if bodiesE L ≠ 0 then .tuple #[.int .i64 0, .int .i64 0, .int .i64 (bodiesE L)] else if withinB 65536000 fx fy = false ∨ withinB 65536000 ux uy = false then .tuple #[.int .i64 0, .int .i64 0, .int .i64 1] else frV (castO L (fx, fy) (ux, uy))) := rfl
  have HWF := hid (rwithin_calls fx fy)
  have HWU := hid (rwithin_calls ux uy)
  go_enter Try.func28, Try.ntmps28
  go_wp2_with fail
  rw [← hW]
  clear hW
  refine (kcheck_calls A n c L _ (HSW.out.below hB)).mono ?_
  rintro e w1 ⟨rfl, hb1⟩
  replace f0 := keepCell hb1 f0
  replace f1 := keepCell hb1 f1
  replace u0 := keepCell hb1 u0
  replace u1 := keepCell hb1 u1
  replace hB := keepBelow hb1 hB
  clear hb1
  by_cases hE : bodiesE L = 0
  case neg =>
    have HR : Hid (castV L (fx, fy) (ux, uy) = .tuple #[.int .i64 0, .int .i64 0, .int .i64 (bodiesE L)]) := by show _ = _; rw [HE.out, if_pos hE]
    have hne : (bodiesE L != 0) = true := by simp [hE]
    clear HE
    generalize bodiesE L = z at *
    go_wp2
    refine bodyPost_ret (v := .tuple #[.int .i64 0, .int .i64 0, .int .i64 z]) (by simp [results, Try.results28, go_sem]) rfl ⟨by rw [HR.out], hB⟩
  obtain ⟨h64, hval⟩ := bodiesE_zero hE
  have HV := hid hval
  rw [if_neg (by simp [hE])] at HE
  rw [hE]
  clear hE hval
  go_wp2_with fail
  refine (HWF.out _).mono ?_
  rintro e w2 ⟨rfl, hb2⟩
  replace f0 := keepCell hb2 f0
  replace f1 := keepCell hb2 f1
  replace u0 := keepCell hb2 u0
  replace u1 := keepCell hb2 u1
  replace hB := keepBelow hb2 hB
  clear hb2 HWF
  cases h1 : withinB 65536000 fx fy with
  | false =>
    have HR : Hid (castV L (fx, fy) (ux, uy) = .tuple #[.int .i64 0, .int .i64 0, .int .i64 1]) := by show _ = _; rw [HE.out, if_pos (.inl h1)]
    clear HE
    go_wp2
    refine bodyPost_ret (v := .tuple #[.int .i64 0, .int .i64 0, .int .i64 1]) (by simp [results, Try.results28, go_sem]) rfl ⟨by rw [HR.out], hB⟩
  | true =>
    go_wp2_with fail
    refine (HWU.out _).mono ?_
    rintro e w3 ⟨rfl, hb3⟩
    replace f0 := keepCell hb3 f0
    replace f1 := keepCell hb3 f1
    replace u0 := keepCell hb3 u0
    replace u1 := keepCell hb3 u1
    replace hB := keepBelow hb3 hB
    clear hb3 HWU
    cases h2 : withinB 65536000 ux uy with
    | false =>
      have HR : Hid (castV L (fx, fy) (ux, uy) = .tuple #[.int .i64 0, .int .i64 0, .int .i64 1]) := by show _ = _; rw [HE.out, if_pos (.inr h2)]
      clear HE
      go_wp2
      refine bodyPost_ret (v := .tuple #[.int .i64 0, .int .i64 0, .int .i64 1]) (by simp [results, Try.results28, go_sem]) rfl ⟨by rw [HR.out], hB⟩
    | true =>
      rw [if_neg (by rw [h1, h2]; simp)] at HE
      have HF0 : Hid (Cf w3 w.heap.size fx fy) := ⟨f0, f1⟩
      have HU0 : Hid (Cf w3 (w.heap.size + 1) ux uy) := ⟨u0, u1⟩
      have HC := hid (rayfirst_calls 100 (.pointer (some ⟨w.heap.size, 0, none⟩)) (.pointer (some ⟨w.heap.size + 1, 0, none⟩)) cf_cast1_calls (fun p => lineR p (fx, fy) (ux, uy)) A n c L w3 (HSW.out.below hB) HV.out h64 (fun x hx A1 n1 c1 w' hb hs => by
        have hok := placed_ok (HV.out x hx)
        obtain ⟨q8, q3, qw, -⟩ := checkE_zero hok
        exact cast1_calls A1 n1 c1 (placeL x.b x.l) w.heap.size (w.heap.size + 1) fx fy ux uy w' ⟨keepCell hb HF0.out.a, keepCell hb HF0.out.b⟩ ⟨keepCell hb HU0.out.a, keepCell hb HU0.out.b⟩ hs (within_le (n := 131072000) qw (by omega)) (by omega) h1 h2))
      have HCO : Hid (castO L (fx, fy) (ux, uy) = frTo (fun p => lineR p (fx, fy) (ux, uy)) L L.length) := rfl
      rw [← HCO.out] at HC
      generalize castO L (fx, fy) (ux, uy) = o at *
      clear HCO h1 h2 HF0 HU0 HSW HV
      go_wp2_with fail
      refine HC.out.mono ?_
      rintro e w4 ⟨rfl, hb4⟩
      replace hB := keepBelow hb4 hB
      clear hb4 HC f0 f1 u0 u1
      have HFV : Hid (frV o = .tuple #[.int .i64 (frI o), .int .i64 (beZ o), .int .i64 (frE o)]) := rfl
      rw [HFV.out] at HE ⊢
      generalize frI o = r1 at *
      generalize beZ o = r2 at *
      generalize frE o = r3 at *
      go_wp2
      refine bodyPost_ret (v := .tuple #[.int .i64 r1, .int .i64 r2, .int .i64 r3]) (by simp [results, Try.results28, go_sem]) rfl ⟨by rw [HE.out], hB⟩
end
end Go.Proofs.Ytienmhgbildhhaa
