/- The contract of the reference's left. -/
import Derived.Test.YtjoodpjndpdjnaaA10
import Derived.Test.YtjoodpjndpdjnaaA1
namespace Go.Proofs.Ytjoodpjndpdjnaa
set_option linter.unusedVariables false
set_option linter.unusedSimpArgs false
open Go.RowKit

/-- a coordinate that is small enough -/
def sm (a : Int) : Prop := -1099511627776 ≤ a ∧ a ≤ 1099511627776

theorem sub_small (a b c d : Int) (w : World) (ha : sm a) (hb : sm b) (hc : sm c) (hd : sm d) :
    Calls Try.prog 91 #[vecV a b, vecV c d] w (Ret (vecV (a - c) (b - d)) w) := by
  have h := sub_calls a b c d w
  unfold sm at *
  rwa [wrap64_id (n := a - c) (by omega) (by omega), wrap64_id (n := b - d) (by omega) (by omega)] at h

theorem bigV_zero : bigV 0 = .agg #[.int .u32 0, .int .u32 0, .int .u32 0, .int .u32 0, .int .u32 0, .int .u32 0, .int .u32 0, .int .u32 0] := by simp [bigV, digs]
theorem cross_bd {x y u v : Int} (h1 : -2199023255552 ≤ x ∧ x ≤ 2199023255552) (h2 : -2199023255552 ≤ y ∧ y ≤ 2199023255552) (h3 : -2199023255552 ≤ u ∧ u ≤ 2199023255552) (h4 : -2199023255552 ≤ v ∧ v ≤ 2199023255552) :
    -170141183460469231731687303715884105728 ≤ x * v - y * u ∧ x * v - y * u < 170141183460469231731687303715884105728 := by
  have m1 := mul_bd h1.1 h1.2 h4.1 h4.2
  have m2 := mul_bd h2.1 h2.2 h3.1 h3.2
  omega

set_option maxRecDepth 100000 in
set_option maxHeartbeats 2000000 in
theorem left_calls (a b c d p q : Int) (r1 : sm a) (r2 : sm b) (r3 : sm c) (r4 : sm d) (r5 : sm p) (r6 : sm q) (w : World) :
    Calls Try.prog 71 #[vecV a b, vecV c d, vecV p q] w (Ret (.int .i64 (cmpZ (sideZ a b c d p q) 0)) w) := by
  have hz := bigV_zero
  obtain ⟨W, hW⟩ : ∃ W, W = ((w.alloc (.cells #[.int .i64 a, .int .i64 b] 24)).alloc (.cells #[.int .i64 c, .int .i64 d] 24)).alloc (.cells #[.int .i64 p, .int .i64 q] 24) := ⟨_, rfl⟩
  have s1 : W.drew.cell? ⟨w.heap.size, 0, none⟩ = some (.int .i64 a) ∧ W.drew.cell? ⟨w.heap.size, 1, none⟩ = some (.int .i64 b) ∧ W.drew.cell? ⟨w.heap.size + 1, 0, none⟩ = some (.int .i64 c) ∧ W.drew.cell? ⟨w.heap.size + 1, 1, none⟩ = some (.int .i64 d) ∧ W.drew.cell? ⟨w.heap.size + 2, 0, none⟩ = some (.int .i64 p) ∧ W.drew.cell? ⟨w.heap.size + 2, 1, none⟩ = some (.int .i64 q) ∧ Below w.heap.size w W.drew := by
    subst hW
    exact ⟨by go_simp, by go_simp, by go_simp, by go_simp, by go_simp, by go_simp, by go_grown⟩
  have S1 := hid s1
  clear s1
  have R1 := hid (And.intro (cross_bd (x := c - a) (y := d - b) (u := p - a) (v := q - b) (by unfold sm at *; omega) (by unfold sm at *; omega) (by unfold sm at *; omega) (by unfold sm at *; omega)) True.intro)
  have L1 : -9223372036854775808 ≤ c - a ∧ c - a ≤ 9223372036854775807 := by unfold sm at *; omega
  have L2 : -9223372036854775808 ≤ d - b ∧ d - b ≤ 9223372036854775807 := by unfold sm at *; omega
  have L3 : -9223372036854775808 ≤ p - a ∧ p - a ≤ 9223372036854775807 := by unfold sm at *; omega
  have L4 : -9223372036854775808 ≤ q - b ∧ q - b ≤ 9223372036854775807 := by unfold sm at *; omega
  have L := hid (And.intro L1 (And.intro L2 (And.intro L3 L4)))
  clear L1 L2 L3 L4
  have HZ := hid hz
  clear hz
  go_enter Try.func71, Try.ntmps71
  go_wp2
  rw [← hW]
  have HW := hid hW
  clear hW
  go_region_held3 (fun w' => w'.cell? ⟨w.heap.size, 0, none⟩ = some (.int .i64 a) ∧ w'.cell? ⟨w.heap.size, 1, none⟩ = some (.int .i64 b) ∧ w'.cell? ⟨w.heap.size + 1, 0, none⟩ = some (.int .i64 c) ∧ w'.cell? ⟨w.heap.size + 1, 1, none⟩ = some (.int .i64 d) ∧ w'.cell? ⟨w.heap.size + 2, 0, none⟩ = some (.int .i64 p) ∧ w'.cell? ⟨w.heap.size + 2, 1, none⟩ = some (.int .i64 q) ∧ Below w.heap.size w w')
    (first | with_reducible exact S1.out | (with_reducible assumption) | (go_split_ands; with_reducible exact ⟨keepCell hb1 (by assumption), keepCell hb1 (by assumption), keepCell hb1 (by assumption), keepCell hb1 (by assumption), keepCell hb1 (by assumption), keepCell hb1 (by assumption), keepBelow hb1 (by assumption)⟩))
    (first | (go_at_call 91; refine (sub_small _ _ _ _ _ (by assumption) (by assumption) (by assumption) (by assumption)).mono ?_; rintro e w1 ⟨rfl, hb1⟩) | (go_at_call 44; refine (rcross_calls _ _ _ _ L.out.1 L.out.2.1 L.out.2.2.1 L.out.2.2.2 _).mono ?_; rintro e w1 ⟨rfl, hb1⟩) | (go_at_call 41; rw [← HZ.out]; refine (bcmp_calls _ 0 R1.out.1.1 R1.out.1.2 (by omega) (by omega) _).mono ?_; rintro e w1 ⟨rfl, hb1⟩))
  go_wp2
  go_returns
  go_split_ands
  exact ret_int rfl (by assumption)

end Go.Proofs.Ytjoodpjndpdjnaa
