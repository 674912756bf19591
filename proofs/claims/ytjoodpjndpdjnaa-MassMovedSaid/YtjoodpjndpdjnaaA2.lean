/- Contracts of slices.IndexFunc and ContainsFunc at the function that poly.Check hands on. -/
import Derived.Test.YtjoodpjndpdjnaaA1
namespace Go.Proofs.Ytjoodpjndpdjnaa
set_option linter.unusedVariables false
set_option linter.unusedSimpArgs false
open Go.RowKit

theorem check1_calls (a b : Int) (w : World) : Calls Try.prog 74 #[vecV a b] w (Ret (.bool (!withinB 65536000 a b)) w) := by
  go_enter Try.func74, Try.ntmps74
  go_wp2_with (go_at_call 75; refine (within_calls _ _ _).mono ?_; rintro e w1 ⟨rfl, hb⟩)
  go_returns
  exact ⟨rfl, by simpa using ((Below.refl _ _).alloc (by simp) _).trans (hb.mono (by simp))⟩

theorem indexFunc_check1 (A : Option Addr) (n c : Nat) (l : List V) (w : World) (hS : Sl w A n c l) :
    Calls Try.prog 108 #[.slice A n c, .func (.func 74) #[] #[]] w (Ret (.int .i64 (firstIdx (fun p => !withinB 65536000 p.1 p.2) l)) w) := by
  obtain ⟨hn, hcap, hbig, hat⟩ := hS
  subst hn
  go_enter Try.func108, Try.ntmps108
  go_wp2
  go_loopw [8] (fun i wr => ∃ k : Nat, k ≤ l.length ∧ i = .int .i64 k ∧ noneTo (fun p => !withinB 65536000 p.1 p.2) l k ∧ Below w.heap.size w wr) (fun i _ => l.length - (intOf i).toNat)
  case atStart => exact ⟨0, Nat.zero_le _, rfl, noneTo_zero _ _, Below.refl _ _⟩
  case round =>
    obtain ⟨k, hk, rfl, hno, hB⟩ := hrel
    by_cases hlt : k < l.length
    · obtain ⟨b, off, rfl, hC⟩ := hat (by intro h; subst h; simp at hlt)
      have hC' := hC.below hB
      have hx := hC'.x k hlt
      have hy := hC'.y k hlt
      have HN := hid hno
      clear hno hat hC hC'
      go_wp2_with (go_at_call 74; refine (check1_calls _ _ _).mono ?_; rintro e w1 ⟨rfl, hb1⟩)
      · go_returns
        exact ret_int (firstIdx_hit hlt HN.out (by assumption)).symm (hB.trans (hb1.mono hB.size))
      · exact ⟨⟨k + 1, hlt, by go_num, noneTo_succ HN.out (by assumption), hB.trans (hb1.mono hB.size)⟩, by simp [intOf]; omega⟩
    · have hge : l.length ≤ k := by omega
      have HN := hid hno
      clear hno hat hlt
      go_wp2
      go_returns
      exact ret_int (firstIdx_none (by have := HN.out; rwa [show k = l.length by omega] at this)).symm hB

theorem containsFunc_check1 (A : Option Addr) (n c : Nat) (l : List V) (w : World) (hS : Sl w A n c l) :
    Calls Try.prog 73 #[.slice A n c, .func (.func 74) #[] #[]] w (Ret (.bool (!allWithin 65536000 l)) w) := by
  go_enter Try.func73, Try.ntmps73
  go_wp2_with (go_at_call 108; refine (indexFunc_check1 _ _ _ l _ hS).mono ?_; rintro e w1 ⟨rfl, hb⟩)
  go_returns
  exact ret_bool (by
    have h := firstIdx_any (fun p => !withinB 65536000 p.1 p.2) l
    simp only [ge_iff_le] at h
    rw [h, any_not_within]) hb

end Go.Proofs.Ytjoodpjndpdjnaa
