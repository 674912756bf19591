/- Contracts of package mass: cross, times. -/
import Derived.Test.YtjoodpjndpdjnaaM9
import Derived.Test.YtjoodpjndpdjnaaZ2
import Derived.Test.YtjoodpjndpdjnaaZ6
import Derived.Test.YtjoodpjndpdjnaaZ7
namespace Go.Proofs.Ytjoodpjndpdjnaa
set_option linter.unusedVariables false
set_option linter.unusedSimpArgs false
open Go.RowKit

/-- a Wide in memory, which may be written -/
structure Wd (w : World) (g : Nat) (z : Int) : Prop where
  c0 : w.cell? ⟨g, 0, none⟩ = some (.int .i64 (hiW z))
  c1 : w.cell? ⟨g, 1, none⟩ = some (.int .u64 (loW z))
  f0 : w.frozen? ⟨g, 0, none⟩ = false
  f1 : w.frozen? ⟨g, 1, none⟩ = false
theorem Wd.lt {w : World} {g : Nat} {z : Int} (h : Wd w g z) : g < w.heap.size := lt_of_cell h.c0
theorem keepWd {w w' : World} {g : Nat} {z : Int} (hb : Below w.heap.size w w') (h : Wd w g z) : Wd w' g z :=
  ⟨keepCell hb h.c0, keepCell hb h.c1, ((bcell hb).2 _ _ h.lt).trans h.f0, ((bcell hb).2 _ _ h.lt).trans h.f1⟩
theorem Wd.drew {w : World} {g : Nat} {z : Int} (h : Wd w g z) : Wd w.drew g z := ⟨h.c0, h.c1, h.f0, h.f1⟩
theorem Wd.alloc {w : World} {g : Nat} {z : Int} (h : Wd w g z) (o : Obj) : Wd (w.alloc o) g z := keepWd ((Below.refl _ _).alloc (Nat.le_refl _) _) h
theorem Wd.far2 {w : World} {g b : Nat} {z : Int} {v0 v1 : Value} (h : Wd w g z) (hb : b ≠ g) : Wd ((w.setCell ⟨b, 0, none⟩ v0).setCell ⟨b, 1, none⟩ v1) g z :=
  ⟨Go.Proofs.Ytjoodpjndpdjnaa.far2 hb h.c0, Go.Proofs.Ytjoodpjndpdjnaa.far2 hb h.c1, by rw [World.frozen?_setCell, World.frozen?_setCell]; exact h.f0, by rw [World.frozen?_setCell, World.frozen?_setCell]; exact h.f1⟩
theorem Wd.sets2 {w : World} {g : Nat} {y z : Int} (h : Wd w g y) : Wd ((w.setCell ⟨g, 0, none⟩ (.int .i64 (hiW z))).setCell ⟨g, 1, none⟩ (.int .u64 (loW z))) g z := by
  have a := h.c0
  have b := h.c1
  have c := h.f0
  have d := h.f1
  have e := h.lt
  exact ⟨by go_simp, by go_simp, by go_simp, by go_simp⟩

theorem hiW_0 : hiW 0 = 0 := by unfold hiW wrap64; omega
theorem loW_0 : loW 0 = 0 := by unfold loW; omega
theorem Wd.zero {w : World} {g : Nat} (h0 : w.cell? ⟨g, 0, none⟩ = some (.int .i64 0)) (h1 : w.cell? ⟨g, 1, none⟩ = some (.int .u64 0)) (f0 : w.frozen? ⟨g, 0, none⟩ = false) (f1 : w.frozen? ⟨g, 1, none⟩ = false) : Wd w g 0 :=
  ⟨by rw [hiW_0]; exact h0, by rw [loW_0]; exact h1, f0, f1⟩

theorem mcross_any (a b c d : Int) (w : World) :
    Calls Try.prog 96 #[vecV a b, vecV c d] w (Ret (.int .i64 (wrap64 (wrap64 (a * d) - wrap64 (b * c)))) w) := by
  go_enter Try.func96, Try.ntmps96
  go_wp2
  go_returns
  exact ⟨rfl, by go_grown⟩

theorem crsZ_bd {a b c d : Int} (h1 : withinB 65536000 a b = true) (h2 : withinB 65536000 c d = true) : wrap64 (wrap64 (a * d) - wrap64 (b * c)) = crsZ a b c d ∧ -8589934592000000 ≤ crsZ a b c d ∧ crsZ a b c d ≤ 8589934592000000 := by
  obtain ⟨_, _, _, _⟩ := withinB_iff.1 h1
  obtain ⟨_, _, _, _⟩ := withinB_iff.1 h2
  have m1 := mul_bd (x := a) (y := d) (M := 65536000) (N := 65536000) (by omega) (by omega) (by omega) (by omega)
  have m2 := mul_bd (x := b) (y := c) (M := 65536000) (N := 65536000) (by omega) (by omega) (by omega) (by omega)
  unfold crsZ
  generalize a * d = X at *
  generalize b * c = Y at *
  rw [wrap64_id (n := X) (by omega) (by omega), wrap64_id (n := Y) (by omega) (by omega), wrap64_id (by omega) (by omega)]
  omega

theorem mcross_calls (a b c d : Int) (h1 : withinB 65536000 a b = true) (h2 : withinB 65536000 c d = true) (w : World) :
    Calls Try.prog 96 #[vecV a b, vecV c d] w (Ret (.int .i64 (crsZ a b c d)) w) := by
  have h := mcross_any a b c d w
  rwa [(crsZ_bd h1 h2).1] at h

theorem mtimes_calls (a b n : Int) (ha : i64 a) (hb : i64 b) (hn : i64 n) (w : World) :
    Calls Try.prog 97 #[.int .i64 a, .int .i64 b, .int .i64 n] w (Ret (.int .i64 (overQ (a * b) n)) w) := by
  have hm := mul_bd (x := a) (y := b) (M := 9223372036854775808) (N := 9223372036854775808) (by unfold i64 at ha; omega) (by unfold i64 at ha; omega) (by unfold i64 at hb; omega) (by unfold i64 at hb; omega)
  have HM := hid hm
  have HA := hid ha
  have HB := hid hb
  have HN := hid hn
  clear hm ha hb hn
  go_enter Try.func97, Try.ntmps97
  go_wp2_with fail
  refine (times_calls a b HA.out.1 HA.out.2 HB.out.1 HB.out.2 _).mono ?_
  rintro e w1 ⟨rfl, hb1⟩
  go_wp2_with fail
  refine (over_calls (a * b) n (by have := HM.out; omega) (by have := HM.out; omega) HN.out.1 HN.out.2 _).mono ?_
  rintro e w2 ⟨rfl, hb2⟩
  go_wp2
  go_returns
  exact ret_int rfl (keepBelow hb2 hb1)

end Go.Proofs.Ytjoodpjndpdjnaa
