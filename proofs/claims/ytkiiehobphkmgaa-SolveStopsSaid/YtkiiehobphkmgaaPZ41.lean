/- Parts of a proof: contracts and laws. -/
import Derived.Test.YtkiiehobphkmgaaPZ30
import Derived.Test.YtkiiehobphkmgaaPZ40
namespace Go.Proofs.Ytkiiehobphkmgaa
section
set_option linter.unusedVariables false
set_option linter.unusedSimpArgs false
open Go.RowKit
theorem rnd_zeroK (n : Int) : rnd 0 n = 0 := by
  unfold rnd
  split
  · exact Int.ediv_eq_zero_of_lt (by omega) (by omega)
  · rcases Int.lt_or_le 0 n with h | h
    · exact Int.ediv_eq_zero_of_lt (by omega) (by omega)
    · have : n = 0 := by omega
      subst this
      decide
theorem clampF_zeroK : clampF 0 = 0 := by decide
theorem mdF_zl (b c : Int) : mdF 0 b c = 0 := by
  unfold mdF
  split
  · rfl
  · rw [clampF_zeroK, Int.zero_mul, rnd_zeroK, clampF_zeroK]
theorem mdF_zr (a c : Int) : mdF a 0 c = 0 := by
  unfold mdF
  split
  · rfl
  · rw [clampF_zeroK, Int.mul_zero, rnd_zeroK, clampF_zeroK]
theorem mulF_zl (b : Int) : mulF 0 b = 0 := mdF_zl _ _
theorem mulF_zr (a : Int) : mulF a 0 = 0 := mdF_zr _ _
theorem divF_zl (n : Int) : divF 0 n = 0 := by unfold divF; split; rfl; exact mdF_zl _ _
theorem addF_zz : addF 0 0 = 0 := by decide
theorem subF_zz : subF 0 0 = 0 := by decide
theorem addF_zr {a : Int} (h : -1099511627776 ≤ a ∧ a ≤ 1099511627776) : addF a 0 = a := by
  unfold addF
  rw [clampF_zeroK, Int.add_zero, clampF_id h.1 h.2, clampF_id h.1 h.2]
theorem clampN_idK {a m : Int} (h : -m ≤ a ∧ a ≤ m) : clampN a m = a := by unfold clampN; rw [if_neg (by omega), if_neg (by omega)]
theorem num_bdK {b : Bd} {l : List V} (h : bodyE b l = 0) : (-268435456 ≤ b.vx ∧ b.vx ≤ 268435456) ∧ (-268435456 ≤ b.vy ∧ b.vy ≤ 268435456) ∧ (-16777216 ≤ b.spin ∧ b.spin ≤ 16777216) := by
  obtain ⟨h1, h2⟩ := bodyE_zero h
  unfold numE at h2
  split at h2
  · rename_i k
    simp only [Bool.and_eq_true] at k
    have w := withinB_iff.1 k.1.1.2
    have s := inB_iff.1 k.1.2
    omega
  · cases h2
theorem pushR_zero {b : Bd} {l : List V} (h : bodyE b l = 0) (u v : Int) : pushR b 0 0 u v = b := by
  obtain ⟨h1, h2, h3⟩ := num_bdK h
  unfold pushR
  split
  · rfl
  · have t : turnF b 0 0 u v = 0 := by
      unfold turnF crossF
      rw [mulF_zr, mulF_zr, subF_zz, divF_zl, divF_zl]
    rw [t, divF_zl, addF_zr (by omega), addF_zr (by omega), addF_zr (by omega), clampN_idK (by omega), clampN_idK (by omega), clampN_idK (by omega)]
theorem putQ_self {Q : List QB} {k : Nat} {b : Bd} (h : ∀ y, Q[k]? = some y → b = y.1) : putQ Q k b = Q := by
  rcases hq : Q[k]? with _ | y
  · unfold putQ; rw [hq]
  · rw [putQ_eq hq, h y hq]
    have hk : k < Q.length := (List.getElem?_eq_some_iff.1 hq).1
    have e : Q[k] = y := (List.getElem?_eq_some_iff.1 hq).2
    rw [← e]
    exact List.set_getElem_self hk
theorem put_zero {L : List BE} (hv : ∀ x ∈ L, bodyE x.b x.l = 0) (k : Nat) (u v : Int) : putQ (L.map valB) k (pushR (qB (L.map valB) k) 0 0 u v) = L.map valB := by
  refine putQ_self fun y hy => ?_
  rw [qB_at (k := k) rfl hy]
  rw [List.getElem?_map] at hy
  rcases hl : L[k]? with _ | x
  · rw [hl] at hy; cases hy
  · rw [hl] at hy
    have e : valB x = y := Option.some.inj hy
    rw [← e]
    exact pushR_zero (hv x (List.mem_of_getElem? hl)) u v
theorem pushX_zero {L : List BE} (hv : ∀ x ∈ L, bodyE x.b x.l = 0) (x : Ct) : pushX (L.map valB) x 0 0 = L.map valB := by
  unfold pushX bothQ
  rw [Int.neg_zero, put_zero hv, put_zero hv]
theorem warmTo_zero {L : List BE} (hv : ∀ x ∈ L, bodyE x.b x.l = 0) {C : List Ct} (hC : ∀ c ∈ C, c.push = 0 ∧ c.sli = 0) (R : List Rw) : ∀ k, warmTo (L.map valB) C R k = L.map valB
  | 0 => rfl
  | k + 1 => by
    rcases hx : C[k]? with _ | x
    · rw [warmTo, hx]; exact warmTo_zero hv hC R k
    · rcases hr : R[k]? with _ | r
      · rw [warmTo, hx, hr]; exact warmTo_zero hv hC R k
      · rw [warmTo_succ hx hr, warmTo_zero hv hC R k]
        obtain ⟨h1, h2⟩ := hC x (List.mem_of_getElem? hx)
        unfold warmQ
        rw [h1, h2, mulF_zr, mulF_zr, mulF_zr, mulF_zr, addF_zz]
        exact pushX_zero hv x

theorem contactsE_ok {L : List BE} {C : List Ct} (hB : bodiesE L = 0) (hl : C.length ≤ 4096) (h : ∀ x ∈ C, CtOk L.length x) : contactsE L C = 0 := by
  unfold contactsE
  rw [if_neg (by simp [hB]), if_neg (by omega)]
  have go : ∀ k, k ≤ C.length → ctTo L.length C k = 0 := fun k => by
    induction k with
    | zero => intro _; rfl
    | succ k ih =>
      intro hk
      rw [ctTo_succ (by omega) (ih (by omega))]
      unfold ctE
      rw [if_pos (h _ (List.getElem_mem _))]
  exact go _ (Nat.le_refl _)
theorem srun_ok {L : List BE} {C : List Ct} {st r : Int} (h : contactsE L C = 0) (h1 : 1 ≤ st ∧ st ≤ 65536) (h2 : 0 ≤ r ∧ r ≤ 32) : srunE L C st r = 0 ∧ srunS L C st r = solveQ (L.map valB) C st r.toNat := by
  have e : srunE L C st r = 0 := by unfold srunE; rw [if_neg (by simp [h]), if_neg (by omega)]
  exact ⟨e, by unfold srunS; rw [if_pos e]⟩

end
end Go.Proofs.Ytkiiehobphkmgaa
