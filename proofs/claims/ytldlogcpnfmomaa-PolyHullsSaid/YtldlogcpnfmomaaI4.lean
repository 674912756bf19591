/- The contract of the reference's Hull. -/
import Derived.Test.YtldlogcpnfmomaaI3
namespace Go.Proofs.Ytldlogcpnfmomaa
set_option linter.unusedVariables false
set_option linter.unusedSimpArgs false
open Go.RowKit

set_option maxRecDepth 100000 in
theorem rhull1_calls (a b : Int) (w : World) : Calls Try.prog 125 #[vecV a b] w (Ret (.bool (!withinB 65536000 a b)) w) := by
  go_enter Try.func125, Try.ntmps125
  go_wp2_with (go_at_call 90; refine (coord_calls _ _ _ _ (by omega) (by omega)).mono ?_; rintro e w1 ⟨rfl, hb⟩)
  go_returns
  exact ⟨rfl, by simpa using ((Below.refl _ _).alloc (by simp) _).trans (hb.mono (by simp))⟩
theorem cf_rhull1 (args : Array Value) (w : World) : (callFunc 125 args).run Try.prog w = .ok (.enter 125 args) w := by kernel_rfl
def RetHull (l : List V) (w : World) (e : Ending) (w' : World) : Prop := ∃ A n c, e = .returned (.tuple #[.slice A n c, .int .i64 (hullE l)]) ∧ Sl w' A n c (hullL l) ∧ Below w.heap.size w w'
set_option maxRecDepth 100000 in
set_option maxHeartbeats 4000000 in
theorem rhull_calls (A : Option Addr) (n c : Nat) (l : List V) (w : World) (hS : Sl w A n c l) : Calls Try.prog 39 #[.slice A n c] w (RetHull l w) := by
  have hn := hS.len
  subst hn
  by_cases h64 : 64 < l.length
  · have HE : Hid (hullE l = 2) := by show _ = _; unfold hullE; rw [if_pos h64]
    have HL : Hid (hullL l = []) := by show _ = _; unfold hullL; rw [HE.out]; rfl
    clear hS
    go_enter Try.func39, Try.ntmps39
    go_wp2
    refine bodyPost_ret (v := .tuple #[.slice none 0 0, .int .i64 2]) (by simp [results, Try.results39, go_sem]) rfl ⟨_, _, _, by rw [HE.out], by rw [HL.out]; exact Sl.empty' _, Below.refl _ _⟩
  have hany : (l.any fun p => !withinB 65536000 p.1 p.2) = !allWithin 65536000 l := any_not_within _ _
  have HC : Hid (∀ w' : World, Below w.heap.size w w' → Calls Try.prog 81 #[.slice A l.length c, .func (.func 125) #[] #[]] w' (Ret (.bool (!allWithin 65536000 l)) w')) := fun w' hb => by
    have := containsFunc_any 125 (fun p => !withinB 65536000 p.1 p.2) cf_rhull1 rhull1_calls A l.length c l w' (hS.below hb)
    rwa [hany] at this
  have HS := hid hS
  clear hS hany
  cases hw : allWithin 65536000 l with
  | false =>
    have HE : Hid (hullE l = 1) := by show _ = _; unfold hullE; rw [if_neg h64, if_pos hw]
    have HL : Hid (hullL l = []) := by show _ = _; unfold hullL; rw [HE.out]; rfl
    rw [hw] at HC
    clear hw HS
    go_enter Try.func39, Try.ntmps39
    go_wp2_with (go_at_call 81; refine (HC.out _ (Below.refl _ _)).mono ?_; rintro e w1 ⟨rfl, hb⟩)
    refine bodyPost_ret (v := .tuple #[.slice none 0 0, .int .i64 1]) (by simp [results, Try.results39, go_sem]) rfl ⟨_, _, _, by rw [HE.out], by rw [HL.out]; exact Sl.empty' _, hb⟩
  | true =>
    rw [hw] at HC
    have HE0 : Hid (hullE l = if (wrapL l).length < 3 then 3 else if 8 < (wrapL l).length then 6 else 0) := by show _ = _; unfold hullE; rw [if_neg h64, if_neg (by rw [hw]; simp)]
    have HW := hid (within_le (n := 262144000) hw (by omega))
    clear hw
    go_enter Try.func39, Try.ntmps39
    go_wp2_with fail
    refine (HC.out _ (Below.refl _ _)).mono ?_
    rintro e w1 ⟨rfl, hb1⟩
    go_wp2_with fail
    refine (wrap_calls _ _ _ l _ (HS.out.below hb1) HW.out (by omega)).mono ?_
    rintro e w2 ⟨A2, n2, c2, rfl, hs2, -, hb2⟩
    have HS2 := hid hs2
    have hB2 := hb1.trans (hb2.mono hb1.size)
    clear hs2 hb2 hb1 HC
    have HN := hid HS2.out.len
    rw [← HN.out] at HE0
    by_cases h3 : n2 < 3
    · rw [if_pos h3] at HE0
      have HL : Hid (hullL l = []) := by show _ = _; unfold hullL; rw [HE0.out]; rfl
      go_wp2
      refine bodyPost_ret (v := .tuple #[.slice none 0 0, .int .i64 3]) (by simp [results, Try.results39, go_sem]) rfl ⟨_, _, _, by rw [HE0.out], by rw [HL.out]; exact Sl.empty' _, hB2⟩
    · rw [if_neg h3] at HE0
      by_cases h8 : 8 < n2
      · rw [if_pos h8] at HE0
        have HL : Hid (hullL l = []) := by show _ = _; unfold hullL; rw [HE0.out]; rfl
        go_wp2
        refine bodyPost_ret (v := .tuple #[.slice none 0 0, .int .i64 6]) (by simp [results, Try.results39, go_sem]) rfl ⟨_, _, _, by rw [HE0.out], by rw [HL.out]; exact Sl.empty' _, hB2⟩
      · rw [if_neg h8] at HE0
        have HL : Hid (hullL l = wrapL l) := by show _ = _; unfold hullL; rw [HE0.out]; rfl
        go_wp2
        refine bodyPost_ret (v := .tuple #[.slice A2 n2 c2, .int .i64 0]) (by simp [results, Try.results39, go_sem]) rfl ⟨_, _, _, by rw [HE0.out], by rw [HL.out]; exact HS2.out, hB2⟩
end Go.Proofs.Ytldlogcpnfmomaa
