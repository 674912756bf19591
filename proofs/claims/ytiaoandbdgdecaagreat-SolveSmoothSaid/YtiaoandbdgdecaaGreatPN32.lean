/- Parts of a proof: contracts and laws. -/
import Derived.Test.YtiaoandbdgdecaaGreatPN18
import Derived.Test.YtiaoandbdgdecaaGreatPN01
import Derived.Test.YtiaoandbdgdecaaGreatPN00
import Derived.Deep.RegionLaw
import Derived.Deep.RegionHeld3
import Derived.Deep.DeepCutAuto
import Derived.Laws.IdiomCopy
import Derived.Test.YtiaoandbdgdecaaGreatPN02
import Derived.Test.YtiaoandbdgdecaaGreatPN06
import Derived.Test.YtiaoandbdgdecaaGreatPN19
namespace Go.Proofs.YtiaoandbdgdecaaGreat
section
set_option linter.unusedVariables false
set_option linter.unusedSimpArgs false
open Go.RowKit
set_option maxRecDepth 100000 in
set_option maxHeartbeats 4000000 in
set_option maxRecDepth 100000 in
set_option maxHeartbeats 4000000 in
end
end Go.Proofs.YtiaoandbdgdecaaGreat
namespace Go.Proofs.YtiaoandbdgdecaaGreat
section
set_option linter.unusedVariables false
set_option linter.unusedSimpArgs false
open Go.RowKit

def dpt (l m : List V) (i k : Nat) : Int := nrmX l i * (px l i - px m k) + nrmY l i * (py l i - py m k)
def deepTo (l m : List V) (i : Nat) : Nat → Int
 | 0 => dpt l m i 0
 | k + 1 => if dpt l m i (k + 1) > deepTo l m i k then dpt l m i (k + 1) else deepTo l m i k
def deepZ (l m : List V) (i : Nat) : Int := deepTo l m i (m.length - 1)
theorem dpt_bd {l m : List V} (hw : allWithin 65536000 l = true) (hm : allWithin 65536000 m = true) {i k : Nat} (hi : i < l.length) (hk : k < m.length) : -34359738368000000 ≤ dpt l m i k ∧ dpt l m i k ≤ 34359738368000000 := by
 obtain ⟨n1, n2⟩ := nrm_bd hw hi
 have h1 := withinB_iff.1 (allWithin_at hw hi)
 have h2 := withinB_iff.1 (allWithin_at hm hk)
 have a := mul_bd (x := nrmX l i) (y := px l i - px m k) (M := 131072000) (N := 131072000) (by omega) (by omega) (by omega) (by omega)
 have b := mul_bd (x := nrmY l i) (y := py l i - py m k) (M := 131072000) (N := 131072000) (by omega) (by omega) (by omega) (by omega)
 unfold dpt
 omega
theorem deepTo_bd {l m : List V} (hw : allWithin 65536000 l = true) (hm : allWithin 65536000 m = true) {i : Nat} (hi : i < l.length) : ∀ k, k < m.length → -34359738368000000 ≤ deepTo l m i k ∧ deepTo l m i k ≤ 34359738368000000 := by
 intro k
 induction k with
 | zero => intro hk; exact dpt_bd hw hm hi hk
 | succ k ih =>
  intro hk
  have h1 := ih (by omega)
  have h2 := dpt_bd hw hm hi hk
  unfold deepTo
  split <;> omega
set_option maxRecDepth 100000 in
set_option maxHeartbeats 4000000 in
theorem deep_calls (A B : Option Addr) (n c n' c' : Nat) (l m : List V) (i : Nat) (w : World) (hS : Sl w A n c l) (hM : Sl w B n' c' m) (hw : allWithin 65536000 l = true) (h3 : 3 ≤ l.length) (h8 : l.length ≤ 8) (hi : i < l.length) (hmw : allWithin 65536000 m = true) (hm0 : 0 < m.length) (hm8 : m.length ≤ 8) :
  Calls Tryz.prog 114 #[.slice A n c, .slice B n' c', .int .i64 i] w (Ret (.int .i64 (deepZ l m i)) w) := by
 have HSL := hid hS
 have HSM := hid hM
 have hn := hS.len
 have hn' := hM.len
 subst hn hn'
 have HW := hid hw
 have HMW := hid hmw
 clear hS hM
 have hlt' : (i : Int) < (l.length : Int) := by omega
 obtain ⟨bn1, bn2⟩ := nrm_bd hw hi
 obtain ⟨n1, hn1⟩ : ∃ z, z = nrmX l i := ⟨_, rfl⟩
 obtain ⟨n2, hn2⟩ : ∃ z, z = nrmY l i := ⟨_, rfl⟩
 rw [← hn1] at bn1
 rw [← hn2] at bn2
 have HN := hid (normal_calls A l.length c l i w HSL.out hw h3 h8 hi)
 rw [← hn1, ← hn2] at HN
 have HN1 := hid hn1
 have HN2 := hid hn2
 clear hw hmw hn1 hn2
 go_enter Tryz.func114, Tryz.ntmps114
 go_wp2_with fail
 refine HN.out.mono ?_
 rintro e w1 ⟨rfl, hb1⟩
 obtain ⟨gn, hgn⟩ : ∃ g, g = w1.heap.size := ⟨_, rfl⟩
 obtain ⟨w2, hw2⟩ : ∃ w2, w2 = w1.alloc (.cells #[.int .i64 n1, .int .i64 n2] 27) := ⟨_, rfl⟩
 have r1 : w2.cell? ⟨gn, 0, none⟩ = some (.int .i64 n1) := by rw [hw2, hgn]; go_simp
 have r2 : w2.cell? ⟨gn, 1, none⟩ = some (.int .i64 n2) := by rw [hw2, hgn]; go_simp
 have hB2 : Below w.heap.size w w2 := by rw [hw2]; exact hb1.alloc hb1.size _
 have hgw : w.heap.size ≤ gn := by rw [hgn]; exact hb1.size
 clear HN hb1
 go_upto_region 2 with fail
 rw [← hw2, ← hgn]
 clear hw2 hgn
 go_wp2
 go_loopw [8, 17] (fun s j wr => ∃ k : Nat, k ≤ m.length ∧ j = .int .i64 k ∧ (∃ z : Int, s = .int .i64 z ∧ (k = 0 ∨ z = deepTo l m i (k - 1))) ∧ Below w2.heap.size w2 wr) (fun _ j _ => m.length - (intOf j).toNat)
 case atStart => exact ⟨0, Nat.zero_le _, rfl, ⟨0, rfl, .inl rfl⟩, Below.refl _ _⟩
 case round =>
  obtain ⟨k, hk, rfl, ⟨z, rfl, hz⟩, hB⟩ := hrel
  obtain ⟨wo, rfl⟩ : ∃ wo : World, wo = wr := ⟨_, rfl⟩
  have hBw := keepBelow hB hB2
  by_cases hlt : k < m.length
  ·obtain ⟨ba, off, hA, hC⟩ := (HSL.out.below hBw).at_ (by intro h; subst h; simp at hi)
   obtain ⟨bb, off2, hA2, hC2⟩ := (HSM.out.below hBw).at_ (by intro h; subst h; simp at hlt)
   subst hA hA2
   have hxi := hC.x i hi
   have hyi := hC.y i hi
   have hxk := hC2.x k hlt
   have hyk := hC2.y k hlt
   have hbo1 := hC.lt
   have hbo2 := hC2.lt
   have g1 := keepCell hB r1
   have g2 := keepCell hB r2
   have hgl := lt_of_cell g1
   obtain ⟨a1, a2, a3, a4⟩ := withinB_iff.1 (allWithin_at HW.out hi)
   obtain ⟨b1, b2, b3, b4⟩ := withinB_iff.1 (allWithin_at HMW.out hlt)
   obtain ⟨d, hd⟩ : ∃ d, d = n1 * (px l i - px m k) + n2 * (py l i - py m k) := ⟨_, rfl⟩
   have HD : Hid (dpt l m i k = d) := by show _ = _; unfold dpt; rw [hd, HN1.out, HN2.out]
   have m1 := mul_bd (x := n1) (y := px l i - px m k) (M := 131072000) (N := 131072000) (by omega) (by omega) (by omega) (by omega)
   have m2 := mul_bd (x := n2) (y := py l i - py m k) (M := 131072000) (N := 131072000) (by omega) (by omega) (by omega) (by omega)
   have v1 : IntKind.i64.wrap (px l i - px m k) = px l i - px m k := IntWalk.i64_in _ (by omega)
   have v2 : IntKind.i64.wrap (py l i - py m k) = py l i - py m k := IntWalk.i64_in _ (by omega)
   have v3 : IntKind.i64.wrap (n1 * (px l i - px m k)) = n1 * (px l i - px m k) := IntWalk.i64_in _ (by omega)
   have v4 : IntKind.i64.wrap (n2 * (py l i - py m k)) = n2 * (py l i - py m k) := IntWalk.i64_in _ (by omega)
   have v5 : IntKind.i64.wrap (n1 * (px l i - px m k) + n2 * (py l i - py m k)) = d := by rw [← hd]; exact IntWalk.i64_in _ (by omega)
   have HZ := hid hz
   generalize px l i = x1 at *
   generalize py l i = y1 at *
   generalize px m k = x2 at *
   generalize py m k = y2 at *
   clear hd hz m1 m2 hC hC2 r1 r2
   by_cases hgt : k = 0 ∨ z < d
   ·have HS2 : Hid (d = deepTo l m i (k + 1 - 1)) := by
     show _ = _
     rw [Nat.add_sub_cancel]
     cases k with
     | zero => rw [deepTo, HD.out]
     | succ k =>
      rcases HZ.out with h | h
      ·exact absurd h (by omega)
      ·rw [Nat.add_sub_cancel] at h
       rw [deepTo, HD.out, ← h, if_pos (by rcases hgt with g | g; exact absurd g (by omega); omega)]
    clear HZ HD
    by_cases hk0 : k = 0
    ·have e0 : ((k : Int) == 0) = true := by simp [hk0]
     clear hk0 hgt
     go_wp2_with fail
     go_quiet (fail)
     go_wp2
     go_roundw
     case rel => exact ⟨k + 1, hlt, by go_num, ⟨d, rfl, .inr HS2.out⟩, below_drewN' (hB.alloc hB.size _) _⟩
     case measure => simp [intOf]; omega
    ·have e0 : ((k : Int) == 0) = false := by simp [hk0]
     have hzd : z < d := by rcases hgt with g | g; exact absurd g hk0; exact g
     clear hgt
     go_wp2_with fail
     go_quiet (fail)
     go_wp2
     go_roundw
     case rel => exact ⟨k + 1, hlt, by go_num, ⟨d, rfl, .inr HS2.out⟩, below_drewN' (hB.alloc hB.size _) _⟩
     case measure => simp [intOf]; omega
   ·have hk0 : k ≠ 0 := fun h => hgt (.inl h)
    have hnl : ¬ z < d := fun h => hgt (.inr h)
    have e0 : ((k : Int) == 0) = false := by simp [hk0]
    have HS2 : Hid (z = deepTo l m i (k + 1 - 1)) := by
     show _ = _
     rw [Nat.add_sub_cancel]
     cases k with
     | zero => exact absurd rfl hk0
     | succ k =>
      rcases HZ.out with h | h
      ·exact absurd h (by omega)
      ·rw [Nat.add_sub_cancel] at h
       rw [deepTo, HD.out, ← h, if_neg (by omega)]
    clear HZ HD hgt
    go_wp2_with fail
    go_quiet (fail)
    go_wp2
    go_roundw
    case rel => exact ⟨k + 1, hlt, by go_num, ⟨z, rfl, .inr HS2.out⟩, below_drewN' (hB.alloc hB.size _) _⟩
    case measure => simp [intOf]; omega
  ·have hke : k = m.length := by omega
   have HR : Hid (deepZ l m i = z) := by
    show _ = _
    unfold deepZ
    rcases hz with h | h
    ·omega
    ·rw [h, hke]
   clear hz r1 r2
   go_wp2
   go_returns
   exact ret_int HR.out.symm hBw

def bothE (l m : List V) : Int := if checkE l ≠ 0 then checkE l else checkE m
theorem both_calls (A B : Option Addr) (n c n' c' : Nat) (l m : List V) (w : World) (hS : Sl w A n c l) (hM : Sl w B n' c' m) : Calls Tryz.prog 113 #[.slice A n c, .slice B n' c'] w (Ret (.int .i64 (bothE l m)) w) := by
 have HS := hid hS
 have HM := hid hM
 clear hS hM
 go_enter Tryz.func113, Tryz.ntmps113
 go_wp2_with fail
 refine (check_calls A n c l _ HS.out).mono ?_
 rintro e w1 ⟨rfl, hb1⟩
 by_cases hE : checkE l = 0
 ·have HR : Hid (bothE l m = checkE m) := by show _ = _; unfold bothE; rw [if_neg (by simp [hE])]
  rw [hE]
  clear hE
  go_wp2_with fail
  refine (check_calls B n' c' m _ (HM.out.below hb1)).mono ?_
  rintro e w2 ⟨rfl, hb2⟩
  have hB2 := keepBelow hb2 hb1
  clear hb1 hb2
  go_wp2
  go_returns
  exact ret_int HR.out.symm hB2
 ·have hne : (checkE l != 0) = true := by simp [hE]
  have HR : Hid (bothE l m = checkE l) := by show _ = _; unfold bothE; rw [if_pos hE]
  clear hE
  go_wp2
  go_returns
  exact ret_int HR.out.symm hb1
end
end Go.Proofs.YtiaoandbdgdecaaGreat
namespace Go.Proofs.YtiaoandbdgdecaaGreat
section
set_option linter.unusedVariables false
set_option linter.unusedSimpArgs false
open Go.RowKit


def bk (M : Int) (k : Nat) : Int := M / 2 ^ k % 2




set_option maxRecDepth 100000 in
set_option maxHeartbeats 1000000 in
theorem Blk8.fresh {w : World} {g : Nat} {t : TypeId} (hg : g = w.heap.size) : Blk8 (w.alloc (.cells #[.int .u32 0, .int .u32 0, .int .u32 0, .int .u32 0, .int .u32 0, .int .u32 0, .int .u32 0, .int .u32 0] t)) g (fun _ => 0) := by
 subst hg
 exact Blk8.here w t (fun _ => 0)
theorem Blk8.lit {w : World} {g : Nat} {o : Nat → Int} {t : TypeId} (hg : g = w.heap.size) : Blk8 (w.alloc (.cells #[.int .u32 (o 0), .int .u32 (o 1), .int .u32 (o 2), .int .u32 (o 3), .int .u32 (o 4), .int .u32 (o 5), .int .u32 (o 6), .int .u32 (o 7)] t)) g o := by
 subst hg
 exact Blk8.here w t o
set_option maxRecDepth 100000 in
set_option maxHeartbeats 4000000 in
set_option maxRecDepth 100000 in
set_option maxHeartbeats 4000000 in
end
end Go.Proofs.YtiaoandbdgdecaaGreat
namespace Go.Proofs.YtiaoandbdgdecaaGreat
section
set_option linter.unusedVariables false
set_option linter.unusedSimpArgs false
open Go.RowKit

def dptZ (l : List V) (i : Nat) (p q : Int) : Int := nrmX l i * (px l i - p) + nrmY l i * (py l i - q)
def rdpZ (l : List V) (i : Nat) (p q : Int) : Int := overQ (dptZ l i p q) (lenZ (nrmX l i) (nrmY l i))
set_option maxRecDepth 100000 in
set_option maxHeartbeats 4000000 in
end
end Go.Proofs.YtiaoandbdgdecaaGreat
