/- Parts of a proof: contracts and laws. -/
import Derived.Test.YtiaoandbdgdecaaGreatPN22
import Derived.Test.YtiaoandbdgdecaaGreatPN27
import Derived.Test.YtiaoandbdgdecaaGreatPN16
import Derived.Test.YtiaoandbdgdecaaGreatPN09
import Derived.Test.YtiaoandbdgdecaaGreatPN21
import Derived.Test.YtiaoandbdgdecaaGreatPN11
import Derived.Shelf.LaySoft
import Derived.Shelf.SlicesG.Cmp
namespace Go.Proofs.YtiaoandbdgdecaaGreat
section
set_option linter.unusedVariables false
set_option linter.unusedSimpArgs false
open Go.RowKit
theorem rnd_zeroK (n : Int) : rnd 0 n = 0 := by
 unfold rnd
 split
 ·exact Int.ediv_eq_zero_of_lt (by omega) (by omega)
 ·rcases Int.lt_or_le 0 n with h | h
  ·exact Int.ediv_eq_zero_of_lt (by omega) (by omega)
  ·have : n = 0 := by omega
   subst this
   decide
theorem clampF_zeroK : clampF 0 = 0 := by decide
theorem mdF_zl (b c : Int) : mdF 0 b c = 0 := by
 unfold mdF
 split
 ·rfl
 ·rw [clampF_zeroK, Int.zero_mul, rnd_zeroK, clampF_zeroK]
theorem mdF_zr (a c : Int) : mdF a 0 c = 0 := by
 unfold mdF
 split
 ·rfl
 ·rw [clampF_zeroK, Int.mul_zero, rnd_zeroK, clampF_zeroK]
theorem mulF_zl (b : Int) : mulF 0 b = 0 := mdF_zl _ _
theorem mulF_zr (a : Int) : mulF a 0 = 0 := mdF_zr _ _
theorem divF_zl (n : Int) : divF 0 n = 0 := by unfold divF; split; rfl; exact mdF_zl _ _
theorem addF_zz : addF 0 0 = 0 := by decide
theorem subF_zz : subF 0 0 = 0 := by decide
theorem addF_zr {a : Int} (h : -1099511627776 ≤ a ∧ a ≤ 1099511627776) : addF a 0 = a := by
 unfold addF
 rw [clampF_zeroK, Int.add_zero, clampF_id h.1 h.2, clampF_id h.1 h.2]
theorem clampN_idK {a m : Int} (h : -m ≤ a ∧ a ≤ m) : clampN a m = a := by unfold clampN; rw [if_neg (by omega), if_neg (by omega)]
theorem num_bdK {b : Bd} {l : List V} (h : bodyE b l = 0) : (-268435456 ≤ b.vx ∧ b.vx ≤ 268435456) ∧ (-268435456 ≤ b.vy ∧ b.vy ≤ 268435456) ∧ (-16777216 ≤ b.spin ∧ b.spin ≤ 16777216) := by
 obtain ⟨h1, h2⟩ := bodyE_zero h
 unfold numE at h2
 split at h2
 ·rename_i k
  simp only [Bool.and_eq_true] at k
  have w := withinB_iff.1 k.1.1.2
  have s := inB_iff.1 k.1.2
  omega
 ·cases h2
theorem pushR_zero {b : Bd} {l : List V} (h : bodyE b l = 0) (u v : Int) : pushR b 0 0 u v = b := by
 obtain ⟨h1, h2, h3⟩ := num_bdK h
 unfold pushR
 split
 ·rfl
 ·have t : turnF b 0 0 u v = 0 := by
   unfold turnF crossF
   rw [mulF_zr, mulF_zr, subF_zz, divF_zl, divF_zl]
  rw [t, divF_zl, addF_zr (by omega), addF_zr (by omega), addF_zr (by omega), clampN_idK (by omega), clampN_idK (by omega), clampN_idK (by omega)]
theorem putQ_self {Q : List QB} {k : Nat} {b : Bd} (h : ∀ y, Q[k]? = some y → b = y.1) : putQ Q k b = Q := by
 rcases hq : Q[k]? with _ | y
 ·unfold putQ; rw [hq]
 ·rw [putQ_eq hq, h y hq]
  have hk : k < Q.length := (List.getElem?_eq_some_iff.1 hq).1
  have e : Q[k] = y := (List.getElem?_eq_some_iff.1 hq).2
  rw [← e]
  exact List.set_getElem_self hk
theorem put_zero {L : List BE} (hv : ∀ x ∈ L, bodyE x.b x.l = 0) (k : Nat) (u v : Int) : putQ (L.map valB) k (pushR (qB (L.map valB) k) 0 0 u v) = L.map valB := by
 refine putQ_self fun y hy => ?_
 rw [qB_at (k := k) rfl hy]
 rw [List.getElem?_map] at hy
 rcases hl : L[k]? with _ | x
 ·rw [hl] at hy; cases hy
 ·rw [hl] at hy
  have e : valB x = y := Option.some.inj hy
  rw [← e]
  exact pushR_zero (hv x (List.mem_of_getElem? hl)) u v
theorem pushX_zero {L : List BE} (hv : ∀ x ∈ L, bodyE x.b x.l = 0) (x : Ct) : pushX (L.map valB) x 0 0 = L.map valB := by
 unfold pushX bothQ
 rw [Int.neg_zero, put_zero hv, put_zero hv]
theorem warmTo_zero {L : List BE} (hv : ∀ x ∈ L, bodyE x.b x.l = 0) {C : List Ct} (hC : ∀ c ∈ C, c.push = 0 ∧ c.sli = 0) (R : List Rw) : ∀ k, warmTo (L.map valB) C R k = L.map valB
 | 0 => rfl
 | k + 1 => by
  rcases hx : C[k]? with _ | x
  ·rw [warmTo, hx]; exact warmTo_zero hv hC R k
  ·rcases hr : R[k]? with _ | r
   ·rw [warmTo, hx, hr]; exact warmTo_zero hv hC R k
   ·rw [warmTo_succ hx hr, warmTo_zero hv hC R k]
    obtain ⟨h1, h2⟩ := hC x (List.mem_of_getElem? hx)
    unfold warmQ
    rw [h1, h2, mulF_zr, mulF_zr, mulF_zr, mulF_zr, addF_zz]
    exact pushX_zero hv x
theorem nothing_law {L : List BE} (hv : ∀ x ∈ L, bodyE x.b x.l = 0) {C : List Ct} (hC : ∀ c ∈ C, c.push = 0 ∧ c.sli = 0) (st : Int) : solveQ (L.map valB) C st 0 = (L.map valB, C) := by
 unfold solveQ
 rw [Nat.zero_mul]
 show (warmTo _ _ _ _, C) = _
 rw [warmTo_zero hv hC]

def SmB (C : List Ct) (R : List Rw) (D : List Ct) : Prop := D.length = C.length ∧ ∀ (i : Nat) (x y : Ct) (r : Rw), D[i]? = some x → C[i]? = some y → R[i]? = some r → x.a = y.a ∧ x.b = y.b ∧ (r.bound = 0 → x.sli = 0)
theorem roundQ_sm (Q : List QB) (x : Ct) (r : Rw) : (roundQ Q x r).2.a = x.a ∧ (roundQ Q x r).2.b = x.b ∧ (r.bound = 0 → x.sli = 0 → (roundQ Q x r).2.sli = 0) := by
 have h1 : ∀ (Q : List QB) (x : Ct), (easeQ Q x r).2.a = x.a ∧ (easeQ Q x r).2.b = x.b ∧ (easeQ Q x r).2.sli = x.sli := fun Q x => by unfold easeQ; split <;> exact ⟨rfl, rfl, rfl⟩
 have h2 : (slipQ Q x r).2.a = x.a ∧ (slipQ Q x r).2.b = x.b ∧ (r.bound = 0 → x.sli = 0 → (slipQ Q x r).2.sli = 0) := by
  unfold slipQ
  split
  ·exact ⟨rfl, rfl, fun _ h => h⟩
  ·refine ⟨rfl, rfl, fun hb _ => ?_⟩
   show slideZ Q x r = 0
   unfold slideZ
   rw [hb, mulF_zl]
   unfold clampN
   split
   ·rfl
   ·split <;> omega
 obtain ⟨e1, e2, e3⟩ := h1 (slipQ Q x r).1 (slipQ Q x r).2
 unfold roundQ
 exact ⟨e1.trans h2.1, e2.trans h2.2.1, fun a b => e3.trans (h2.2.2 a b)⟩
theorem stepQ_sm {C : List Ct} {R : List Rw} {S : List QB × List Ct} (h : SmB C R S.2) (i : Nat) : SmB C R (stepQ S R i).2 := by
 rcases hc : S.2[i]? with _ | x
 ·have : stepQ S R i = S := by unfold stepQ; rw [hc]
  rw [this]; exact h
 ·rcases hr : R[i]? with _ | r
  ·have : stepQ S R i = S := by unfold stepQ; rw [hc, hr]
   rw [this]; exact h
  ·rw [stepQ_eq hc hr]
   refine ⟨by simp [h.1], fun j x' y r' hx hy hr' => ?_⟩
   by_cases e : i = j
   ·subst e
    have hi : i < S.2.length := (List.getElem?_eq_some_iff.1 hc).1
    rw [List.getElem?_set_self hi] at hx
    cases hx
    rw [hr] at hr'
    cases hr'
    obtain ⟨a1, a2, a3⟩ := h.2 i x y r hc hy hr
    obtain ⟨b1, b2, b3⟩ := roundQ_sm S.1 x r
    exact ⟨b1.trans a1, b2.trans a2, fun hb => b3 hb (a3 hb)⟩
   ·rw [List.getElem?_set_ne e] at hx
    exact h.2 j x' y r' hx hy hr'
theorem iterQ_sm {C : List Ct} {R : List Rw} {S : List QB × List Ct} (h : SmB C R S.2) (n : Nat) : ∀ k, SmB C R (iterQ S R n k).2
 | 0 => h
 | k + 1 => stepQ_sm (iterQ_sm h n k) _
theorem contactsE_ok {L : List BE} {C : List Ct} (hB : bodiesE L = 0) (hl : C.length ≤ 4096) (h : ∀ x ∈ C, CtOk L.length x) : contactsE L C = 0 := by
 unfold contactsE
 rw [if_neg (by simp [hB]), if_neg (by omega)]
 have go : ∀ k, k ≤ C.length → ctTo L.length C k = 0 := fun k => by
  induction k with
  | zero => intro _; rfl
  | succ k ih =>
   intro hk
   rw [ctTo_succ (by omega) (ih (by omega))]
   unfold ctE
   rw [if_pos (h _ (List.getElem_mem _))]
 exact go _ (Nat.le_refl _)
theorem srun_ok {L : List BE} {C : List Ct} {st r : Int} (h : contactsE L C = 0) (h1 : 1 ≤ st ∧ st ≤ 65536) (h2 : 0 ≤ r ∧ r ≤ 32) : srunE L C st r = 0 ∧ srunS L C st r = solveQ (L.map valB) C st r.toNat := by
 have e : srunE L C st r = 0 := by unfold srunE; rw [if_neg (by simp [h]), if_neg (by omega)]
 exact ⟨e, by unfold srunS; rw [if_pos e]⟩

theorem smooth_law {L : List BE} {C : List Ct} (hc : contactsE L C = 0) (hC : ∀ c ∈ C, c.push = 0 ∧ c.sli = 0) (st : Int) (n : Nat) : (solveQ (L.map valB) C st n).2.length = C.length ∧ ∀ x ∈ (solveQ (L.map valB) C st n).2,
  CtOk L.length x ∧ ∀ (i k : Nat) (hi : i < L.length) (hk : k < L.length), x.a = i → x.b = k → min L[i].b.rub L[k].b.rub = 0 → x.sli = 0 := by
 obtain ⟨hB, -, hok⟩ := contactsE_zero hc
 obtain ⟨-, hv⟩ := bodiesE_zero hB
 have hR : ∀ r ∈ rowsQ (L.map valB) C st, 0 ≤ r.bound := fun r hr => by
  unfold rowsQ at hr
  obtain ⟨x, hx, rfl⟩ := List.mem_map.1 hr
  exact row_bound hv (hok x hx) st
 have h0 : Okay (L.map valB) C.length (warmTo (L.map valB) C (rowsQ (L.map valB) C st) C.length, C) := ⟨by rw [warmTo_zero hv hC]; exact LikeL.refl _, rfl, fun x hx => by rw [List.length_map]; exact hok x hx⟩
 have h1 := iterQ_okay hR h0 C.length (n * C.length)
 have h2 : SmB C (rowsQ (L.map valB) C st) C := ⟨rfl, fun i x y r hx hy _ => by rw [hx] at hy; cases hy; exact ⟨rfl, rfl, fun _ => (hC x (List.mem_of_getElem? hx)).2⟩⟩
 have h3 := iterQ_sm (S := (warmTo (L.map valB) C (rowsQ (L.map valB) C st) C.length, C)) h2 C.length (n * C.length)
 refine ⟨h1.len, fun x hx => ⟨by have := h1.ok x hx; rwa [List.length_map] at this, fun i k hi hk ha hb hm => ?_⟩⟩
 obtain ⟨t, ht⟩ := List.getElem?_of_mem hx
 have htl : t < C.length := by have := (List.getElem?_eq_some_iff.1 ht).1; have := h3.1; unfold solveQ at *; omega
 have hy : C[t]? = some C[t] := List.getElem?_eq_getElem htl
 have hr : (rowsQ (L.map valB) C st)[t]? = some (rowQ (L.map valB) st C[t]) := by unfold rowsQ; rw [List.getElem?_map, hy]; rfl
 obtain ⟨a1, a2, a3⟩ := h3.2 t x C[t] _ ht hy hr
 refine a3 ?_
 have q : ∀ (z : Int) (j : Nat) (hj : j < L.length), z = j → qB (L.map valB) z = L[j].b := fun z j hj e => qB_at (y := valB L[j]) e (by rw [List.getElem?_map, List.getElem?_eq_getElem hj]; rfl)
 show min (qB (L.map valB) C[t].a).rub (qB (L.map valB) C[t].b).rub = 0
 rw [q _ i hi (by omega), q _ k hk (by omega)]
 exact hm
end
end Go.Proofs.YtiaoandbdgdecaaGreat
namespace Go.Proofs.YtiaoandbdgdecaaGreat
section
set_option linter.unusedVariables false
set_option linter.unusedSimpArgs false
open Go.RowKit
def bdK (x y m : Int) : Bd := ⟨x * 65536, y * 65536, 0, 0, 0, 0, m, m, 0, 0, false, 0⟩
def RetBlk (b : Bd) (l : List V) (w : World) (e : Ending) (w' : World) : Prop := ∃ A n c, e = .returned (bodyV b A n c) ∧ Sl w' A n c l ∧ (∀ bx off, A = some ⟨bx, off, none⟩ → w.heap.size ≤ bx) ∧ Below w.heap.size w w'
theorem squareKV_calls (x y s : Int) (hx : -1048576 ≤ x ∧ x ≤ 1048576) (hy : -1048576 ≤ y ∧ y ≤ 1048576) (hs : -1048576 ≤ s ∧ s ≤ 1048576) (w : World) : Calls Tryz.prog 81 #[.int .i64 x, .int .i64 y, .int .i64 s] w (RetVecs (sqK x y s) w) := by
 go_enter Tryz.func81, Tryz.ntmps81
 go_wp2
 go_returns
 exact ⟨_, _, _, rfl, Sl.of4 _ _ _ _ _ _ _ _ (by go_simp) (by go_simp) (by go_simp) (by go_simp) (by go_simp) (by go_simp) (by go_simp) (by go_simp) (by omega) (by omega), fun b off e => by cases e; simp, by go_grown⟩
theorem Sl.setBdN {w : World} {A : Option Addr} {n c g : Nat} {l : List V} (h : Sl w A n c l) (b : Bd) (A' : Option Addr) (n' c' : Nat) (hne : l ≠ [] → ∀ bx off, A = some ⟨bx, off, none⟩ → bx ≠ g) : Sl (Go.Proofs.YtiaoandbdgdecaaGreat.setBd w g b A' n' c') A n c l := by
 by_cases hl : l = []
 ·exact ⟨h.len, h.cap, h.big, fun hne => absurd hl hne⟩
 ·unfold Go.Proofs.YtiaoandbdgdecaaGreat.setBd
  iterate 13 refine Sl.setAt ?_ (hne hl)
  exact h
theorem Sl.setAt2 {w : World} {A : Option Addr} {n c g o : Nat} {l : List V} {v : Value} (h : Sl w A n c l) (hne : l ≠ [] → ∀ b off, A = some ⟨b, off, none⟩ → b ≠ g) : Sl (w.setCell ⟨g, o, none⟩ v) A n c l := by
 by_cases hl : l = []
 ·exact ⟨h.len, h.cap, h.big, fun k => absurd hl k⟩
 ·exact h.setAt (hne hl)
set_option maxRecDepth 100000 in
set_option maxHeartbeats 2000000 in
theorem kblock_calls_fix (x y h : Int) (hx : -1048576 ≤ x ∧ x ≤ 1048576) (hy : -1048576 ≤ y ∧ y ≤ 1048576) (hh : -1048576 ≤ h ∧ h ≤ 1048576) (w : World) : Calls Tryz.prog 37 #[.int .i64 x, .int .i64 y, .int .i64 h, .bool false] w (RetBlk (bdK x y 0) (sqK 0 0 h) w) := by
 have HSQ := hid (squareKV_calls 0 0 h (by omega) (by omega) hh)
 generalize sqK 0 0 h = q at *
 obtain ⟨W, hW⟩ : ∃ W, W = w.alloc (.cells #[.int .i64 0, .int .i64 0, .int .i64 0, .int .i64 0, .int .i64 0, .int .i64 0, .int .i64 0, .int .i64 0, .int .i64 0, .int .i64 0, .slice none 0 0, .bool false, .int .i64 0] 58) := ⟨_, rfl⟩
 have HZ := hid (show BdZ W w.heap.size by rw [hW]; exact BdZ.of (BdAt.here w (bdK 0 0 0) none 0 0 _))
 have hB0 : Below w.heap.size w W := by rw [hW]; go_grown
 go_enter Tryz.func37, Tryz.ntmps37
 go_wp2_with fail
 rw [← hW]
 clear hW
 refine (HSQ.out _).mono ?_
 rintro e w1 ⟨A, n, c, rfl, hs, hf, hb⟩
 have HF := hid hf
 have hB := keepBelow hb hB0
 have hlt : w.heap.size < W.heap.size := HZ.out.lt
 have HLT := hid hlt
 replace HZ := hid (keepBdZ hb HZ.out)
 obtain ⟨w2, hw2⟩ : ∃ w2, w2 = w1.alloc (.cells #[.int .i64 (x * 65536), .int .i64 (y * 65536), .int .i64 0, .int .i64 0, .int .i64 0, .int .i64 0, .int .i64 0, .int .i64 0, .int .i64 0, .int .i64 0, .slice A n c, .bool false, .int .i64 0] 58) := ⟨_, rfl⟩
 obtain ⟨g, hg⟩ : ∃ g, g = w1.heap.size := ⟨_, rfl⟩
 have HK := hid (show BdAt w2 g (bdK x y 0) A n c by rw [hw2, hg]; exact BdAt.here w1 (bdK x y 0) A n c _)
 have HS := hid (show Sl w2 A n c q by rw [hw2]; exact hs.below ((Below.refl _ _).alloc (Nat.le_refl _) _))
 have HZ2 := hid (show BdZ w2 w.heap.size by rw [hw2]; exact HZ.out.alloc _)
 have hB2 : Below w.heap.size w w2 := by rw [hw2]; exact hB.alloc hB.size _
 have HGF : Hid (q ≠ [] → ∀ bx off, A = some ⟨bx, off, none⟩ → bx ≠ g) := fun hne bx off e => by
  obtain ⟨b', off', e', hc⟩ := hs.at_ hne
  have := hc.lt
  rw [e] at e'; cases e'; rw [hg]; omega
 have HNF : Hid (∀ bx off, A = some ⟨bx, off, none⟩ → w.heap.size ≤ bx) := fun bx off e => by have := hf bx off e; omega
 have hgw : w.heap.size < g := by have := hb.size; rw [hg]; omega
 obtain ⟨z0, z1, z2, z3, z4, z5, z6, z7, z8, z9, z10, z11, z12, y0, y1, y2, y3, y4, y5, y6, y7, y8, y9, y10, y11, y12⟩ := HZ2.out.all
 have yf := HZ2.out.free
 obtain ⟨k0, k1, k2, k3, k4, k5, k6, k7, k8, k9, k10, k11, k12, kf⟩ := HK.out
 have hl1 : w.heap.size < w2.heap.size := HZ2.out.lt
 have hl2 : g < w2.heap.size := HK.out.lt
 clear hs hf hb hB hB0 hlt HZ HSQ HK
 simp only [bdK] at k0 k1 k2 k3 k4 k5 k6 k7 k8 k9 k11 k12
 go_upto_if 18 with fail
 rw [← hw2, ← hg]
 clear hw2 hg
 go_wp2
 refine bodyPost_ret (v := bodyV (bdK x y 0) A n c) (by simp [results, Tryz.results37, go_sem, y0, y1, y2, y3, y4, y5, y6, y7, y8, y9, y10, y11, y12, hl1, bodyV, bdK]) rfl ⟨A, n, c, rfl, ?_, HNF.out, ?_⟩
 ·exact HS.out.setBd (bdK x y 0) (fun bx off e h => by have := HF.out bx off e; have := HLT.out; omega)
 ·go_grown
set_option maxRecDepth 100000 in
set_option maxHeartbeats 2000000 in
theorem kblock_calls_mov (x y h : Int) (hx : -1048576 ≤ x ∧ x ≤ 1048576) (hy : -1048576 ≤ y ∧ y ≤ 1048576) (hh : -1048576 ≤ h ∧ h ≤ 1048576) (w : World) : Calls Tryz.prog 37 #[.int .i64 x, .int .i64 y, .int .i64 h, .bool true] w (RetBlk (bdK x y 65536) (sqK 0 0 h) w) := by
 have HSQ := hid (squareKV_calls 0 0 h (by omega) (by omega) hh)
 generalize sqK 0 0 h = q at *
 obtain ⟨W, hW⟩ : ∃ W, W = w.alloc (.cells #[.int .i64 0, .int .i64 0, .int .i64 0, .int .i64 0, .int .i64 0, .int .i64 0, .int .i64 0, .int .i64 0, .int .i64 0, .int .i64 0, .slice none 0 0, .bool false, .int .i64 0] 58) := ⟨_, rfl⟩
 have HZ := hid (show BdZ W w.heap.size by rw [hW]; exact BdZ.of (BdAt.here w (bdK 0 0 0) none 0 0 _))
 have hB0 : Below w.heap.size w W := by rw [hW]; go_grown
 go_enter Tryz.func37, Tryz.ntmps37
 go_wp2_with fail
 rw [← hW]
 clear hW
 refine (HSQ.out _).mono ?_
 rintro e w1 ⟨A, n, c, rfl, hs, hf, hb⟩
 have HF := hid hf
 have hB := keepBelow hb hB0
 have hlt : w.heap.size < W.heap.size := HZ.out.lt
 have HLT := hid hlt
 replace HZ := hid (keepBdZ hb HZ.out)
 obtain ⟨w2, hw2⟩ : ∃ w2, w2 = w1.alloc (.cells #[.int .i64 (x * 65536), .int .i64 (y * 65536), .int .i64 0, .int .i64 0, .int .i64 0, .int .i64 0, .int .i64 0, .int .i64 0, .int .i64 0, .int .i64 0, .slice A n c, .bool false, .int .i64 0] 58) := ⟨_, rfl⟩
 obtain ⟨g, hg⟩ : ∃ g, g = w1.heap.size := ⟨_, rfl⟩
 have HK := hid (show BdAt w2 g (bdK x y 0) A n c by rw [hw2, hg]; exact BdAt.here w1 (bdK x y 0) A n c _)
 have HS := hid (show Sl w2 A n c q by rw [hw2]; exact hs.below ((Below.refl _ _).alloc (Nat.le_refl _) _))
 have HZ2 := hid (show BdZ w2 w.heap.size by rw [hw2]; exact HZ.out.alloc _)
 have hB2 : Below w.heap.size w w2 := by rw [hw2]; exact hB.alloc hB.size _
 have HGF : Hid (q ≠ [] → ∀ bx off, A = some ⟨bx, off, none⟩ → bx ≠ g) := fun hne bx off e => by
  obtain ⟨b', off', e', hc⟩ := hs.at_ hne
  have := hc.lt
  rw [e] at e'; cases e'; rw [hg]; omega
 have HNF : Hid (∀ bx off, A = some ⟨bx, off, none⟩ → w.heap.size ≤ bx) := fun bx off e => by have := hf bx off e; omega
 have hgw : w.heap.size < g := by have := hb.size; rw [hg]; omega
 obtain ⟨z0, z1, z2, z3, z4, z5, z6, z7, z8, z9, z10, z11, z12, y0, y1, y2, y3, y4, y5, y6, y7, y8, y9, y10, y11, y12⟩ := HZ2.out.all
 have yf := HZ2.out.free
 obtain ⟨k0, k1, k2, k3, k4, k5, k6, k7, k8, k9, k10, k11, k12, kf⟩ := HK.out
 have hl1 : w.heap.size < w2.heap.size := HZ2.out.lt
 have hl2 : g < w2.heap.size := HK.out.lt
 clear hs hf hb hB hB0 hlt HZ HSQ HK
 simp only [bdK] at k0 k1 k2 k3 k4 k5 k6 k7 k8 k9 k11 k12
 go_upto_if 18 with fail
 rw [← hw2, ← hg]
 clear hw2 hg
 go_wp2
 refine bodyPost_ret (v := bodyV (bdK x y 65536) A n c) (by simp [results, Tryz.results37, go_sem, y0, y1, y2, y3, y4, y5, y6, y7, y8, y9, y10, y11, y12, hl1, bodyV, bdK]) rfl ⟨A, n, c, rfl, ?_, HNF.out, ?_⟩
 ·exact Sl.setBdN (Sl.setAt2 (Sl.setAt2 HS.out HGF.out) HGF.out) (bdK x y 65536) A n c (fun hne bx off e => by have := HF.out bx off e; have := HLT.out; omega)
 ·go_grown
end
end Go.Proofs.YtiaoandbdgdecaaGreat
namespace Go.Proofs.YtiaoandbdgdecaaGreat
section
set_option linter.unusedVariables false
set_option linter.unusedSimpArgs false
open Go.RowKit

theorem cells_setvyK {w : World} {g : Nat} {L : List BE} (h : CellsE layB w g 0 L) {k : Nat} (hk : k < L.length) (v : Int) : CellsE layB (w.setCell ⟨g, k * 13 + 3, none⟩ (.int .i64 v)) g 0 (L.set k { L[k] with b := { L[k].b with vy := v } }) := by
 refine ⟨by simp; exact h.lt, fun j hj i u hu => ?_⟩
 have hj' : j < L.length := by simpa using hj
 have hlen : ∀ x : BE, (encB x).length = 13 := fun _ => rfl
 by_cases e : j = k
 ·subst e
  have hu : (encB { L[j] with b := { L[j].b with vy := v } })[i]? = some u := by have hu2 : (encB (L.set j { L[j] with b := { L[j].b with vy := v } })[j])[i]? = some u := hu; rwa [List.getElem_set_self] at hu2
  show (w.setCell ⟨g, j * 13 + 3, none⟩ (.int .i64 v)).cell? ⟨g, 0 + j * 13 + i, none⟩ = some u
  rw [Nat.zero_add]
  by_cases e2 : i = 3
  ·subst e2
   have hu : some (Value.int .i64 v) = some u := hu
   cases hu
   have h2 := h.at_ j hj' 3 _ (show (encB L[j])[3]? = some (.int .i64 L[j].b.vy) from rfl)
   rw [Nat.zero_add] at h2
   exact cell_set_eq h2
  ·have hu2 : (encB L[j])[i]? = some u := by
    have hi : i < 13 := by
     rcases Nat.lt_or_ge i 13 with q | q
     ·exact q
     ·rw [List.getElem?_eq_none (by rw [hlen]; exact q)] at hu; cases hu
    rw [← hu]
    match i, hi, e2 with
    | 0, _, _ | 1, _, _ | 2, _, _ | 4, _, _ | 5, _, _ | 6, _, _ | 7, _, _ | 8, _, _ | 9, _, _ | 10, _, _ | 11, _, _ | 12, _, _ => rfl
    | 3, _, e2 => exact (e2 rfl).elim
   have h2 := h.at_ j hj' i u hu2
   have h2 : w.cell? ⟨g, 0 + j * 13 + i, none⟩ = some u := h2
   rw [Nat.zero_add] at h2
   exact cell_set_ne h2 (by omega)
 ·have hu : (encB L[j])[i]? = some u := by have hu2 : (encB (L.set k { L[k] with b := { L[k].b with vy := v } })[j])[i]? = some u := hu; rwa [List.getElem_set_ne (by omega)] at hu2
  have hi : i < 13 := by
   rcases Nat.lt_or_ge i 13 with q | q
   ·exact q
   ·rw [List.getElem?_eq_none (by rw [hlen]; exact q)] at hu; cases hu
  have h2 := h.at_ j hj' i u hu
  have h2 : w.cell? ⟨g, 0 + j * 13 + i, none⟩ = some u := h2
  show (w.setCell ⟨g, k * 13 + 3, none⟩ (.int .i64 v)).cell? ⟨g, 0 + j * 13 + i, none⟩ = some u
  exact cell_set_ne h2 (by omega)
def sbXK : Ct := ⟨0, 1, 0, 0, 65536, 0, 65536, 0, 0, 0⟩
theorem sbK_run (A1 A2 : Option Addr) (n1 n2 c1 c2 : Nat) : srunE [⟨bdK 0 0 0, A1, n1, c1, sqK 0 0 1⟩, ⟨{ bdK 0 2 65536 with vy := -131072 }, A2, n2, c2, sqK 0 0 1⟩] [sbXK] 8192 1 = 0 := by kernel_rfl
theorem sbK_v (A1 A2 : Option Addr) (n1 n2 c1 c2 : Nat) : (srunS [⟨bdK 0 0 0, A1, n1, c1, sqK 0 0 1⟩, ⟨{ bdK 0 2 65536 with vy := -131072 }, A2, n2, c2, sqK 0 0 1⟩] [sbXK] 8192 1).1.map (fun y => (y.1.vx, y.1.vy)) = [(0, 0), (0, 0)] := by kernel_rfl
theorem sbK_p (A1 A2 : Option Addr) (n1 n2 c1 c2 : Nat) : (srunS [⟨bdK 0 0 0, A1, n1, c1, sqK 0 0 1⟩, ⟨{ bdK 0 2 65536 with vy := -131072 }, A2, n2, c2, sqK 0 0 1⟩] [sbXK] 8192 1).2.map (fun x => x.push) = [131072] := by kernel_rfl
set_option maxRecDepth 100000 in
set_option maxHeartbeats 4000000 in
theorem solves_calls (w : World) : Calls Tryz.prog 26 #[] w (Ret (.bool true) w) := by
 have HQ : Hid (∀ A1 A2 n1 n2 c1 c2, srunE [⟨bdK 0 0 0, A1, n1, c1, sqK 0 0 1⟩, ⟨{ bdK 0 2 65536 with vy := -131072 }, A2, n2, c2, sqK 0 0 1⟩] [sbXK] 8192 1 = 0 ∧ (srunS [⟨bdK 0 0 0, A1, n1, c1, sqK 0 0 1⟩, ⟨{ bdK 0 2 65536 with vy := -131072 }, A2, n2, c2, sqK 0 0 1⟩] [sbXK] 8192 1).1.map (fun y => (y.1.vx, y.1.vy)) = [(0, 0), (0, 0)] ∧ (srunS [⟨bdK 0 0 0, A1, n1, c1, sqK 0 0 1⟩, ⟨{ bdK 0 2 65536 with vy := -131072 }, A2, n2, c2, sqK 0 0 1⟩] [sbXK] 8192 1).2.map (fun x => x.push) = [131072]) := fun A1 A2 n1 n2 c1 c2 => ⟨sbK_run _ _ _ _ _ _, sbK_v _ _ _ _ _ _, sbK_p _ _ _ _ _ _⟩
 have HB1 := hid (kblock_calls_fix 0 0 1 (by omega) (by omega) (by omega))
 have HB2 := hid (kblock_calls_mov 0 2 1 (by omega) (by omega) (by omega))
 generalize sqK 0 0 1 = q at *
 go_enter Tryz.func26, Tryz.ntmps26
 go_wp2_with fail
 refine (HB1.out _).mono ?_
 rintro e w1 ⟨A1, n1, c1, rfl, hs1, hf1, hb1⟩
 have HS1 := hid hs1
 clear hs1 hf1 HB1
 go_wp2_with fail
 refine (HB2.out _).mono ?_
 rintro e w2 ⟨A2, n2, c2, rfl, hs2, hf2, hb2⟩
 obtain ⟨g, hg⟩ : ∃ g, g = w2.heap.size := ⟨_, rfl⟩
 obtain ⟨w3, hw3⟩ : ∃ w3, w3 = w2.alloc (.cells #[.int .i64 (bdK 0 0 0).px, .int .i64 (bdK 0 0 0).py, .int .i64 (bdK 0 0 0).vx, .int .i64 (bdK 0 0 0).vy, .int .i64 (bdK 0 0 0).ang, .int .i64 (bdK 0 0 0).spin, .int .i64 (bdK 0 0 0).mass, .int .i64 (bdK 0 0 0).iner, .int .i64 (bdK 0 0 0).bounce, .int .i64 (bdK 0 0 0).rub, .slice A1 n1 c1, .bool (bdK 0 0 0).asleep, .int .i64 (bdK 0 0 0).calm, .int .i64 (bdK 0 2 65536).px, .int .i64 (bdK 0 2 65536).py, .int .i64 (bdK 0 2 65536).vx, .int .i64 (bdK 0 2 65536).vy, .int .i64 (bdK 0 2 65536).ang, .int .i64 (bdK 0 2 65536).spin, .int .i64 (bdK 0 2 65536).mass, .int .i64 (bdK 0 2 65536).iner, .int .i64 (bdK 0 2 65536).bounce, .int .i64 (bdK 0 2 65536).rub, .slice A2 n2 c2, .bool (bdK 0 2 65536).asleep, .int .i64 (bdK 0 2 65536).calm] 58) := ⟨_, rfl⟩
 have hB2 := keepBelow hb2 hb1
 have hb3 : Below w2.heap.size w2 w3 := by rw [hw3]; go_grown
 have HO : Hid (OwnE layB 58 w3 w2.heap.size (.slice (some ⟨g, 0, none⟩) 2 2) [⟨bdK 0 0 0, A1, n1, c1, q⟩, ⟨bdK 0 2 65536, A2, n2, c2, q⟩]) := by
  show OwnE _ _ _ _ _ _
  rw [hw3, hg]
  exact ⟨by simp [flatE, layB, encB], .inr ⟨w2.heap.size, 2, _, rfl, Nat.le_refl _, heap_alloc_new w2 _, Nat.le_refl _, by decide, by simp [layB], by simp [flatE, layB, encB, bdK]⟩⟩
 have hc3 : CellsE layB w3 g 0 [⟨bdK 0 0 0, A1, n1, c1, q⟩, ⟨bdK 0 2 65536, A2, n2, c2, q⟩] := by
  rcases HO.out.form with ⟨h1, -⟩ | ⟨g', cap', hv, -, -, -, -, hf, hc⟩
  ·cases h1
  ·cases hv; exact hc
 have hf3 : ∀ j, w3.frozen? ⟨g, j, none⟩ = false := by
  rcases HO.out.form with ⟨h1, -⟩ | ⟨g', cap', hv, -, -, -, -, hf, hc⟩
  ·cases h1
  ·cases hv; exact hf
 have hs13 := (HS1.out.below hb2).below hb3
 have hs23 := hs2.below hb3
 obtain ⟨w4, hw4⟩ : ∃ w4, w4 = w3.setCell ⟨g, 16, none⟩ (.int .i64 (-131072)) := ⟨_, rfl⟩
 have hgw : w.heap.size ≤ g := by have := hB2.size; omega
 have hc4 : CellsE layB w4 g 0 [⟨bdK 0 0 0, A1, n1, c1, q⟩, ⟨{ bdK 0 2 65536 with vy := -131072 }, A2, n2, c2, q⟩] := by rw [hw4]; exact cells_setvyK hc3 (k := 1) (by simp) (-131072)
 have hk15 : w3.cell? ⟨g, 16, none⟩ = some (.int .i64 0) := by
  have h9 : w3.cell? ⟨g, 0 + 1 * 13 + 3, none⟩ = some (.int .i64 0) := hc3.at_ 1 (by simp) 3 (.int .i64 0) rfl
  exact h9
 have hs14 : Sl w4 A1 n1 c1 q := by rw [hw4]; exact hs13.setAt2 (fun hl bx off e => by have := sl_lt HS1.out hl bx off e; have := hb2.size; omega)
 have hs24 : Sl w4 A2 n2 c2 q := by rw [hw4]; exact hs23.setAt2 (fun hl bx off e => by have := sl_lt hs2 hl bx off e; omega)
 have hB4 : Below w.heap.size w w4 := by rw [hw4]; exact (keepBelow hb3 hB2).setCell (p := ⟨g, 16, none⟩) hgw _
 obtain ⟨w5, hw5⟩ : ∃ w5, w5 = w4.alloc (.cells #[.int .i64 0, .int .i64 1, .int .i64 0, .int .i64 0, .int .i64 65536, .int .i64 0, .int .i64 65536, .int .i64 0, .int .i64 0, .int .i64 0] 40) := ⟨_, rfl⟩
 have hb5 : Below w4.heap.size w4 w5 := by rw [hw5]; go_grown
 have hB5 := keepBelow hb5 hB4
 obtain ⟨hr1, hr2, hr3⟩ := HQ.out A1 A2 n1 n2 c1 c2
 obtain ⟨L, hL⟩ : ∃ L : List BE, L = [⟨bdK 0 0 0, A1, n1, c1, q⟩, ⟨{ bdK 0 2 65536 with vy := -131072 }, A2, n2, c2, q⟩] := ⟨_, rfl⟩
 rw [← hL] at hr1 hr2 hr3
 have hS5 : SlB w5 (some ⟨g, 0, none⟩) 2 2 L := ⟨⟨by rw [hL]; rfl, Nat.le_refl _, by omega, fun _ => ⟨g, 0, rfl, by rw [hL]; exact hc4.below hb5⟩⟩, fun x hx => by
  rw [hL] at hx
  rcases List.mem_cons.1 hx with rfl | hx
  ·exact hs14.below hb5
  ·rw [List.mem_singleton.1 hx]; exact hs24.below hb5⟩
 have hJ5 : CellsE layC w5 w4.heap.size 0 [sbXK] := by rw [hw5]; exact cells_ct_one (by go_simp; rfl) (by go_simp; rfl) (by go_simp; rfl) (by go_simp; rfl) (by go_simp; rfl) (by go_simp; rfl) (by go_simp; rfl) (by go_simp; rfl) (by go_simp; rfl) (by go_simp; rfl)
 have hSC : SlE layC w5 (some ⟨w4.heap.size, 0, none⟩) 1 1 [sbXK] := ⟨rfl, Nat.le_refl _, by omega, fun _ => ⟨w4.heap.size, 0, rfl, hJ5⟩⟩
 have HRUN := hid (srun_calls (some ⟨g, 0, none⟩) (some ⟨w4.heap.size, 0, none⟩) 2 2 1 1 L [sbXK] 8192 1 w5 hS5 hSC)
 have HE := hid hr1
 have HVX := hid hr2
 have HPU := hid hr3
 have HF3 := hid hf3
 have hgl : g < w3.heap.size := hc3.lt
 clear hs2 hf2 hb1 hb2 hB2 hb3 HO hc3 hs13 hs23 hc4 hs14 hs24 hB4 hS5 hJ5 hr1 hr2 hr3 hSC hL HQ HS1 HB2 hgw hf3
 go_upto_region 2 with fail
 rw [← hg]
 rw [← hw3]
 have hf3 := HF3.out
 clear hw3 hg
 go_upto_region 3 with fail
 rw [← hw4]
 clear hw4 hk15 hf3 hgl HF3
 go_wp2_with fail
 rw [← hw5]
 clear hw5 hb5
 refine HRUN.out.mono ?_
 rintro e w6 ⟨A, B, n, c, m, d, L', rfl, hs, hcS, hm, hb6⟩
 rw [HE.out]
 obtain ⟨S, hS⟩ : ∃ S, S = srunS L [sbXK] 8192 1 := ⟨_, rfl⟩
 rw [← hS] at hcS hm HVX HPU
 obtain ⟨y, hyL, hyx, hyy⟩ : ∃ y, L'[1]? = some y ∧ y.b.vx = 0 ∧ y.b.vy = 0 := by
  have h1 := HVX.out
  rw [← hm, List.map_map] at h1
  rcases L' with _ | ⟨x, _ | ⟨y, l⟩⟩
  ·simp at h1
  ·simp at h1
  ·simp [valB] at h1
   exact ⟨y, rfl, h1.2.1.1, h1.2.1.2⟩
 have hL2 : L'.length = 2 := by have h1 := congrArg List.length HVX.out; rw [← hm, List.length_map, List.length_map] at h1; exact h1
 obtain ⟨z, hz, hzp⟩ : ∃ z, S.2 = [z] ∧ z.push = 131072 := by
  have h1 := HPU.out
  rcases hh : S.2 with _ | ⟨z, _ | ⟨u, l⟩⟩ <;> rw [hh] at h1
  ·simp at h1
  ·simp at h1; exact ⟨z, rfl, h1⟩
  ·simp at h1
 rw [hz] at hcS
 obtain ⟨bA, oA, rfl, hC⟩ := hs.sl.at_ (by intro h; rw [h] at hL2; simp at hL2)
 obtain ⟨bC, oC, rfl, hCc⟩ := hcS.at_ (by simp)
 have hn := hs.sl.len
 rw [hL2] at hn
 subst hn
 have hmn := hcS.len
 simp at hmn
 subst hmn
 have hcap := hs.sl.cap
 have hy1 : y = L'[1] := by rw [List.getElem?_eq_getElem (by omega)] at hyL; exact (Option.some.inj hyL).symm
 obtain ⟨-, -, p0, p1, -⟩ := cells_bd hC (k := 1) (by omega) hy1
 have q0 := (cells_ct hCc (k := 0) (by simp) (x := z) rfl).2.2.2.2.2.2.2.2.1
 rw [hyx] at p0
 rw [hyy] at p1
 rw [hzp] at q0
 have p0' : w6.cell? ⟨bA, oA + 13 + 2, none⟩ = some (.int .i64 0) := p0
 have p1' : w6.cell? ⟨bA, oA + 13 + 3, none⟩ = some (.int .i64 0) := p1
 have p0'' : w6.cell? ⟨bA, oA + 15, none⟩ = some (.int .i64 0) := p0
 have p1'' : w6.cell? ⟨bA, oA + 16, none⟩ = some (.int .i64 0) := p1
 have q0' : w6.cell? ⟨bC, oC + 8, none⟩ = some (.int .i64 131072) := by simpa using q0
 have hbA := hC.lt
 have hbC := hCc.lt
 have hB6 := keepBelow hb6 hB5
 have HEV := run_eqVJ 0 0 0 0
 simp only [beq_self_eq_true, Bool.and_self] at HEV
 clear hs hm hb6 hB5 hC hCc HRUN HE HVX HPU hyx hyy hzp hz hyL hy1 hcS hL2 hS p0 p1 q0
 go_wp2
 go_returns
 exact ret_bool (by simp) hB6
end
end Go.Proofs.YtiaoandbdgdecaaGreat
namespace Go.Proofs.YtiaoandbdgdecaaGreat
section
set_option linter.unusedVariables false
set_option linter.unusedSimpArgs false
open Go.RowKit

def sgK (a b : Int) : Int := if a < b then -1 else if b < a then 1 else 0
theorem sgK_zero {a b : Int} : sgK a b = 0 ↔ a = b := by
 unfold sgK
 split
 ·constructor <;> intro h <;> omega
 ·split
  ·constructor <;> intro h <;> omega
  ·constructor <;> intro h <;> omega

def ordC (x y : Ct) : Int := if sgK x.a y.a ≠ 0 then sgK x.a y.a else if sgK x.b y.b ≠ 0 then sgK x.b y.b else sgK x.id y.id
def sameK (x o : Ct) : Bool := decide (o.a = x.a ∧ o.b = x.b ∧ o.id = x.id)
theorem ordC_zero {x y : Ct} : ordC x y = 0 ↔ sameK y x = true := by
 unfold ordC sameK
 rw [decide_eq_true_iff]
 by_cases h1 : sgK x.a y.a = 0
 ·rw [if_neg (by simp [h1])]
  by_cases h2 : sgK x.b y.b = 0
  ·rw [if_neg (by simp [h2]), sgK_zero]
   exact ⟨fun h => ⟨sgK_zero.1 h1, sgK_zero.1 h2, h⟩, fun h => h.2.2⟩
  ·rw [if_pos h2]
   exact ⟨fun h => absurd h h2, fun h => absurd (sgK_zero.2 h.2.1) h2⟩
 ·rw [if_pos h1]
  exact ⟨fun h => absurd h h1, fun h => absurd (sgK_zero.2 h.1) h1⟩

def carC (old : List Ct) (x : Ct) : Ct := match old.find? (sameK x) with
 | some o => { x with push := o.push, sli := o.sli }
 | none => { x with push := 0, sli := 0 }
def carL (old fresh : List Ct) : List Ct := fresh.map (carC old)


theorem carC_at {old : List Ct} {x : Ct} {k : Nat} (hk : k < old.length) (h : sameK x old[k] = true) (hb : ∀ i (hi : i < old.length), i < k → sameK x old[i] = false) : carC old x = { x with push := old[k].push, sli := old[k].sli } := by
 have hf : old.find? (sameK x) = some old[k] := by
  rw [List.find?_eq_some_iff_getElem]
  exact ⟨h, k, hk, rfl, fun i hi => by rw [hb i (by omega) hi]; rfl⟩
 unfold carC
 rw [hf]
theorem carC_none {old : List Ct} {x : Ct} (hb : ∀ i (hi : i < old.length), sameK x old[i] = false) : carC old x = { x with push := 0, sli := 0 } := by
 have hf : old.find? (sameK x) = none := by
  rw [List.find?_eq_none]
  intro o ho
  obtain ⟨i, hi, rfl⟩ := List.mem_iff_getElem.1 ho
  rw [hb i hi]
  simp
 unfold carC
 rw [hf]
end
end Go.Proofs.YtiaoandbdgdecaaGreat
namespace Go.Proofs.YtiaoandbdgdecaaGreat
section
set_option linter.unusedVariables false
set_option linter.unusedSimpArgs false
open Go.Shelf
open Go.RowKit Go.Sort Go.Lib
def layCmpInt_ren : Go.Shelf.Ren := ⟨fun | 5 => 39 | 7 => 82 | n => n, fun | 22 => 3 | 3 => 3 | 4 => 4 | n => n, fun | n => n⟩
theorem layCmpInt : Go.Proofs.SlLaysC2.n5 Tryz.prog layCmpInt_ren := {
 mixed := by kernel_rfl
 f5 := ⟨Tryz.f39.name, by decide, Tryz.func39.trans (congrArg some (by kernel_rfl))⟩
 f7 := ⟨Tryz.f82.name, by decide, Tryz.func82.trans (congrArg some (by kernel_rfl))⟩
 t3 := Tryz.underlying3
 a3 := Tryz.isAgg3
 z3 := Tryz.sizeOf3
 v3 := Tryz.zeroValue3
 t4 := Tryz.underlying4
 a4 := Tryz.isAgg4
 z4 := Tryz.sizeOf4
 v4 := Tryz.zeroValue4
 t22 := Tryz.underlying3
 a22 := Tryz.isAgg3
 z22 := Tryz.sizeOf3
 v22 := Tryz.zeroValue3 }
theorem cmpInt_calls (x y : Int) (w : World) : Calls Tryz.prog 39 #[.int .i64 x, .int .i64 y] w fun e w' => e = .returned (.int .i64 (Lib.compareInt x y)) ∧ w' = w := AnyG.cmp_Compare_int layCmpInt x y w

abbrev Bx := (Int × Int) × (Int × Int)
def layBox : Lay Bx := ⟨fun b => [.int .i64 b.1.1, .int .i64 b.1.2, .int .i64 b.2.1, .int .i64 b.2.2], 4, fun _ => rfl, fun x v hv => by simp at hv; rcases hv with rfl | rfl | rfl | rfl <;> rfl, by omega⟩
def bxAt (l : List Bx) (i : Nat) : Bx := l.getD i ((0, 0), (0, 0))
theorem CellsE.box {w : World} {b off : Nat} {l : List Bx} (h : CellsE layBox w b off l) {i : Nat} (hi : i < l.length) :
  w.cell? ⟨b, off + i * 4, none⟩ = some (.int .i64 (bxAt l i).1.1) ∧ w.cell? ⟨b, off + i * 4 + 1, none⟩ = some (.int .i64 (bxAt l i).1.2) ∧ w.cell? ⟨b, off + i * 4 + 2, none⟩ = some (.int .i64 (bxAt l i).2.1) ∧ w.cell? ⟨b, off + i * 4 + 3, none⟩ = some (.int .i64 (bxAt l i).2.2) := by
 have e : bxAt l i = l[i] := by unfold bxAt; simp [hi]
 rw [e]
 exact ⟨h.at_ i hi 0 _ rfl, h.at_ i hi 1 _ rfl, h.at_ i hi 2 _ rfl, h.at_ i hi 3 _ rfl⟩
end
end Go.Proofs.YtiaoandbdgdecaaGreat
