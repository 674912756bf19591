/- Parts of a proof: contracts and laws. -/
import Derived.Test.YtiaoandbdgdecaaPT04
import Derived.Test.YtiaoandbdgdecaaPT02
import Derived.BigQuiet
import Derived.Test.YtiaoandbdgdecaaPT35
import Derived.Test.YtiaoandbdgdecaaPT36
namespace Go.Proofs.Ytiaoandbdgdecaa
section
set_option linter.unusedVariables false
set_option linter.unusedSimpArgs false
open Go.RowKit
set_option maxRecDepth 100000 in
set_option maxHeartbeats 1000000 in
theorem equalI_calls (A B : Option Addr) (n c m c' : Nat) (l r : List Int) (w : World) (hS : SlI w A n c l) (hR : SlI w B m c' r) :
    Calls Try.prog 22 #[.slice A n c, .slice B m c'] w (Ret (.bool (decide (l = r))) w) := by
  have hn := hS.len
  have hm := hR.len
  subst hn hm
  have h1 := hS.cap
  have h2 := hS.big
  have h3 := hR.cap
  have h4 := hR.big
  by_cases hl : l.length = r.length
  · have HS := hid hS
    have HR := hid hR
    clear hS hR
    go_enter Try.func22, Try.ntmps22
    go_wp2
    go_loopw [13] (fun i wr => ∃ k : Nat, k ≤ l.length ∧ i = .int .i64 k ∧ (∀ j, j < k → l[j]? = r[j]?) ∧ Below w.heap.size w wr) (fun i _ => l.length - (intOf i).toNat)
    case atStart => exact ⟨0, Nat.zero_le _, rfl, fun j hj => absurd hj (by omega), Below.refl _ _⟩
    case round =>
      obtain ⟨k, hk, rfl, heq, hB⟩ := hrel
      have HQ := hid heq
      clear heq
      by_cases hlt : k < l.length
      · obtain ⟨b, off, rfl, hlb, hC⟩ := (HS.out.below hB).at_ (by intro h; subst h; simp at hlt)
        obtain ⟨b2, off2, rfl, hlb2, hD⟩ := (HR.out.below hB).at_ (by intro h; rw [h] at hl; simp at hl; rw [hl] at hlt; simp at hlt)
        have hlt4 : k < r.length := by omega
        have hx := hC k hlt
        have hx2 := hD k hlt4
        have hlt2 : (k : Int) < (r.length : Int) := by omega
        have hlt3 : (k : Int) < (l.length : Int) := by omega
        have e1 : l.getD k 0 = l[k] := by simp [hlt]
        have e2 : r.getD k 0 = r[k] := by simp [hlt4]
        rw [e1] at hx
        rw [e2] at hx2
        clear e1 e2
        have HL := hid (show l[k]? = some l[k] from List.getElem?_eq_getElem hlt)
        have HR2 := hid (show r[k]? = some r[k] from List.getElem?_eq_getElem hlt4)
        clear hC hD
        generalize l[k] = u at *
        generalize r[k] = v at *
        by_cases v1 : u = v
        · subst v1
          have HE := hid (show l[k]? = r[k]? by rw [HL.out, HR2.out])
          go_wp2_with fail
          go_quiet (fail)
          have hB2 := below_drewN' hB nq
          go_wp2
          exact ⟨⟨k + 1, hlt, by go_num, fun j hj => by
            by_cases e : j = k
            · subst e; exact HE.out
            · exact HQ.out j (by omega), hB2⟩, by simp [intOf]; omega⟩
        · have hne : Hid (l ≠ r) := fun h => v1 (by have h2 := HR2.out; rw [← h, HL.out] at h2; exact Option.some.inj h2)
          have v3 : (u == v) = false := by simp [v1]
          go_wp2_with fail
          go_quiet (fail)
          have hB2 := below_drewN' hB nq
          go_wp2
          go_returns
          exact ret_bool (by simp [hne.out]) hB2
      · have he : Hid (l = r) := List.ext_getElem? fun j => by
          rcases Nat.lt_or_ge j l.length with g | g
          · exact HQ.out j (by omega)
          · rw [List.getElem?_eq_none g, List.getElem?_eq_none (by omega)]
        go_wp2
        go_returns
        exact ret_bool (by simp [he.out]) hB
  · have hne : Hid (l ≠ r) := fun h => hl (by rw [h])
    have hlb : ((l.length : Int) == (r.length : Int)) = false := by simp; omega
    clear hS hR
    go_enter Try.func22, Try.ntmps22
    go_wp2
    go_returns
    exact ret_bool (by simp [hne.out]) (Below.refl _ _)
end
end Go.Proofs.Ytiaoandbdgdecaa
namespace Go.Proofs.Ytiaoandbdgdecaa
section
set_option linter.unusedVariables false
set_option linter.unusedSimpArgs false
open Go.RowKit
theorem SlE.toI {w : World} {A : Option Addr} {n c : Nat} {l : List Nat} (h : SlE layNat w A n c l) : SlI w A n c (l.map (fun i : Nat => (i : Int))) :=
  ⟨by rw [List.length_map]; exact h.len, h.cap, h.big, fun hne => by
    obtain ⟨b, off, e, hC⟩ := h.at_ (by intro q; rw [q] at hne; exact hne rfl)
    refine ⟨b, off, e, hC.lt, fun k hk => ?_⟩
    rw [List.length_map] at hk
    have := hC.natB hk rfl
    rw [this, List.getD_eq_getElem?_getD, List.getElem?_map, List.getElem?_eq_getElem hk]
    rfl⟩
theorem below_out {D : Nat → Prop} {B : Nat} {a b : World} (o : Out D a b) (h : ∀ k, D k → B ≤ k) (hB : B ≤ a.heap.size) : Below B a b :=
  ⟨o.os, o.tape, o.output, o.size, fun k hk => o.block k (by omega) (fun q => by have := h k q; omega)⟩
def sqF : Nat → Option Bx := upF (upF (fun _ => none) 3 (some ((0, 0), (5, 5)))) 9 (some ((0, 0), (5, 5)))
theorem sqF_cnt : cntF sqF = 2 := by kernel_rfl
theorem sqF_hit : hitF sqF (fun x => tchB x ((0, 0), (5, 5))) = [3, 9] := by kernel_rfl
set_option maxRecDepth 100000 in
set_option maxHeartbeats 4000000 in
theorem tkgrows_calls (w : World) : Calls Try.prog 6 #[] w (Ret (.bool true) w) := by
  go_enter Try.func6, Try.ntmps6
  go_wp2_with fail
  refine (tnew_calls _).mono ?_
  rintro e w1 ⟨g, rfl, hg, ht, hb⟩
  obtain ⟨W, hW⟩ : ∃ W, W = w1.alloc (.cells #[.int .i64 0, .int .i64 0, .int .i64 5, .int .i64 5] 32) := ⟨_, rfl⟩
  obtain ⟨gb, hgb⟩ : ∃ x, x = w1.heap.size := ⟨_, rfl⟩
  have hbW : Below w1.heap.size w1 W := by rw [hW]; go_grown
  have k0 : W.cell? ⟨gb, 0, none⟩ = some (.int .i64 0) := by rw [hW, hgb]; go_simp
  have k1 : W.cell? ⟨gb, 1, none⟩ = some (.int .i64 0) := by rw [hW, hgb]; go_simp
  have k2 : W.cell? ⟨gb, 2, none⟩ = some (.int .i64 5) := by rw [hW, hgb]; go_simp
  have k3 : W.cell? ⟨gb, 3, none⟩ = some (.int .i64 5) := by rw [hW, hgb]; go_simp
  have hgs : g < w1.heap.size := by obtain ⟨s, T, m, -⟩ := ht; exact m.lt
  have hlt : g < gb := by omega
  have lb := lt_of_cell k0
  have HT := hid (TrA.below hbW ht)
  have HB := hid (keepBelow hbW hb)
  have HG := hid hg
  have HLT := hid hlt
  clear ht hb hbW hg hgs hlt
  go_upto_region 3 with fail
  rw [← hW, ← hgb]
  clear hW hgb
  go_wp2_with fail
  refine (tput_calls HT.out (i := 3) (by omega) 0 0 5 5 (by decide)).mono ?_
  rintro e w2 ⟨rfl, D2, ht2, o2, hd2⟩
  have hn : ¬ (fun k => k = g) gb := fun q => by have := HLT.out; have q : gb = g := q; omega
  replace k0 := o2.cell k0 hn
  replace k1 := o2.cell k1 hn
  replace k2 := o2.cell k2 hn
  replace k3 := o2.cell k3 hn
  have HB2 : Hid (Below w.heap.size w w2) := HB.out.trans (below_out o2 (fun k q => by have := HG.out; have q : k = g := q; omega) HB.out.size)
  have HT2 := hid ht2
  have HD2 : Hid (∀ k, D2 k → k = g ∨ W.heap.size ≤ k) := hd2
  have HWS : Hid (gb < W.heap.size ∧ W.heap.size ≤ w2.heap.size ∧ w.heap.size ≤ W.heap.size) := ⟨lb, o2.size, HB.out.size⟩
  have lb2 := lt_of_cell k0
  clear ht2 o2 hd2 hn HT HB lb
  go_wp2_with fail
  refine (tput_calls HT2.out (i := 9) (by omega) 0 0 5 5 (by decide)).mono ?_
  rintro e w3 ⟨rfl, D3, ht3, o3, hd3⟩
  have hn : ¬ D2 gb := fun q => by have := HLT.out; have := HWS.out; have := HD2.out gb q; omega
  replace k0 := o3.cell k0 hn
  replace k1 := o3.cell k1 hn
  replace k2 := o3.cell k2 hn
  replace k3 := o3.cell k3 hn
  have HB3 : Hid (Below w.heap.size w w3) := HB2.out.trans (below_out o3 (fun k q => by have := HG.out; have := HWS.out; have := HD2.out k q; omega) HB2.out.size)
  have HT3 : Hid (TrA w3 g D3 sqF) := ht3
  have lb3 := lt_of_cell k0
  clear ht3 o3 hd3 hn HT2 HB2 HD2 HWS HLT HG lb2
  go_wp2_with fail
  have hL := tlen_calls HT3.out
  rw [sqF_cnt] at hL
  refine hL.mono ?_
  rintro e w4 ⟨rfl, hb⟩
  replace k0 := keepCell hb k0
  replace k1 := keepCell hb k1
  replace k2 := keepCell hb k2
  replace k3 := keepCell hb k3
  replace HT3 := hid (TrA.below hb HT3.out)
  replace HB3 := hid (keepBelow hb HB3.out)
  have lb4 := lt_of_cell k0
  clear hb hL lb3
  go_wp2_with fail
  have hL := theight_calls HT3.out
  rw [sqF_cnt] at hL
  refine hL.mono ?_
  rintro e w5 ⟨z, rfl, hz, hb⟩
  obtain rfl : z = 1 := hz.2.2.2 rfl
  replace k0 := keepCell hb k0
  replace k1 := keepCell hb k1
  replace k2 := keepCell hb k2
  replace k3 := keepCell hb k3
  replace HT3 := hid (TrA.below hb HT3.out)
  replace HB3 := hid (keepBelow hb HB3.out)
  have lb5 := lt_of_cell k0
  clear hb hL hz lb4
  go_wp2_with fail
  have hL := tmeet_calls HT3.out 0 0 5 5
  rw [sqF_hit] at hL
  refine hL.mono ?_
  rintro e w6 ⟨A, n, c, rfl, hs, hb⟩
  have HS := hid hs.toI
  have HB6 := hid (keepBelow hb HB3.out)
  clear hb hL hs HT3 HB3 k0 k1 k2 k3 lb5
  obtain ⟨w7, hw7⟩ : ∃ x, x = w6.alloc (.cells #[.int .i64 3, .int .i64 9] 3) := ⟨_, rfl⟩
  obtain ⟨g7, hg7⟩ : ∃ x, x = w6.heap.size := ⟨_, rfl⟩
  have hb7 : Below w6.heap.size w6 w7 := by rw [hw7]; go_grown
  have d0 : w7.cell? ⟨g7, 0, none⟩ = some (.int .i64 3) := by rw [hw7, hg7]; go_simp
  have d1 : w7.cell? ⟨g7, 1, none⟩ = some (.int .i64 9) := by rw [hw7, hg7]; go_simp
  have hs7 : SlI w7 (some ⟨g7, 0, none⟩) 2 2 [3, 9] := ⟨rfl, Nat.le_refl _, by omega, fun _ => ⟨g7, 0, rfl, lt_of_cell d0, fun j hj => by
    match j, hj with
    | 0, _ => exact d0
    | 1, _ => exact d1
    | j + 2, hj => simp at hj; omega⟩⟩
  have HE := hid (equalI_calls A (some ⟨g7, 0, none⟩) n c 2 2 [3, 9] [3, 9] w7 (HS.out.below hb7) hs7)
  have HB7 := hid (keepBelow hb7 HB6.out)
  clear hb7 d0 d1 hs7 HS HB6
  go_wp2_with fail
  rw [← hw7, ← hg7]
  clear hw7 hg7
  refine HE.out.mono ?_
  rintro e w8 ⟨rfl, hb⟩
  have hB := keepBelow hb HB7.out
  clear HE hb HB7
  go_wp2
  go_returns
  exact ret_bool (by simp) hB
end
end Go.Proofs.Ytiaoandbdgdecaa
