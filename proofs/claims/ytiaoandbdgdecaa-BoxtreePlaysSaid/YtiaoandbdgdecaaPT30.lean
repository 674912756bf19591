/- Parts of a proof: contracts and laws. -/
import Derived.Test.YtiaoandbdgdecaaPT29
namespace Go.Proofs.Ytiaoandbdgdecaa
section
set_option linter.unusedVariables false
set_option linter.unusedSimpArgs false
open Go.RowKit

structure WkS (w0 w : World) (out : List Nat) : Prop where
  own : ∃ v, w.cell? ⟨w0.heap.size, 0, none⟩ = some v ∧ OwnE layNat 3 w (w0.heap.size + 1) v out
  free : ∀ j, w.frozen? ⟨w0.heap.size, j, none⟩ = false
  bel : Below w0.heap.size w0 w
theorem WkS.keep {w0 w w' : World} {out : List Nat} (hb : Below w.heap.size w w') (h : WkS w0 w out) : WkS w0 w' out := by
  obtain ⟨⟨v, hc, ho⟩, hf, hB⟩ := h
  have hl := lt_of_cell hc
  exact ⟨⟨v, keepCell hb hc, ho.below hb⟩, fun j => (World.frozen?_of_block (hb.block _ hl)).trans (hf j), keepBelow hb hB⟩

def wkL (is : Bx → Bool) : TB → List Nat
  | .lf _ i b => if is b = true then [i] else []
  | .nd g l r => if is (bxB (.nd g l r)) = true then wkL is l ++ wkL is r else []
theorem wk_len (is : Bx → Bool) : ∀ t : TB, (wkL is t).length ≤ t.lvs.length
  | .lf _ i b => by unfold wkL; split <;> simp [TB.lvs]
  | .nd g l r => by
    have h1 := wk_len is l
    have h2 := wk_len is r
    unfold wkL
    split
    · simp only [List.length_append, TB.lvs]; omega
    · simp
theorem wk_none {is : Bx → Bool} (hm : ∀ x y, is x = true ∨ is y = true → is (joinB x y) = true) : ∀ t : TB, is (bxB t) = false → t.lvs.filter (fun y => is y.2.2) = []
  | .lf g i b, h => by
    have h : is b = false := h
    simp [TB.lvs, h]
  | .nd g l r, h => by
    rw [bx_nd] at h
    have hl : is (bxB l) = false := by
      cases e : is (bxB l) with
      | false => rfl
      | true => rw [hm _ _ (.inl e)] at h; cases h
    have hr : is (bxB r) = false := by
      cases e : is (bxB r) with
      | false => rfl
      | true => rw [hm _ _ (.inr e)] at h; cases h
    simp only [TB.lvs, List.filter_append]
    rw [wk_none hm l hl, wk_none hm r hr]
    rfl
theorem wk_eq {is : Bx → Bool} (hm : ∀ x y, is x = true ∨ is y = true → is (joinB x y) = true) : ∀ t : TB, wkL is t = (t.lvs.filter (fun y => is y.2.2)).map (fun y => y.2.1)
  | .lf g i b => by
    unfold wkL
    cases h : is b with
    | true => simp [TB.lvs, h]
    | false => simp [TB.lvs, h]
  | .nd g l r => by
    unfold wkL
    by_cases h : is (bxB (.nd g l r)) = true
    · rw [if_pos h, wk_eq hm l, wk_eq hm r]
      simp only [TB.lvs, List.filter_append, List.map_append]
    · rw [if_neg h, wk_none hm (.nd g l r) (by simpa using h)]
      rfl
theorem tch_vld {x b : Bx} (h : tchB x b = true) : vldB x = true := by
  unfold tchB at h
  cases e : vldB x with
  | true => rfl
  | false => rw [e] at h; cases h
theorem joinB_tch {x y b : Bx} (h : tchB x b = true ∨ tchB y b = true) : tchB (joinB x y) b = true := by
  have hv : vldB x = true ∨ vldB y = true := h.imp tch_vld tch_vld
  cases ex : vldB x with
  | false =>
    have hy := hv.resolve_left (by rw [ex]; simp)
    have h2 : tchB y b = true := h.resolve_left fun q => by have := tch_vld q; rw [ex] at this; cases this
    have e : joinB x y = y := by unfold joinB; simp [ex, hy]
    rw [e]; exact h2
  | true =>
    cases ey : vldB y with
    | false =>
      have h2 : tchB x b = true := h.resolve_right fun q => by have := tch_vld q; rw [ey] at this; cases this
      have e : joinB x y = x := by unfold joinB; simp [ex, ey]
      rw [e]; exact h2
    | true =>
      have e : joinB x y = ((min x.1.1 y.1.1, min x.1.2 y.1.2), (max x.2.1 y.2.1, max x.2.2 y.2.2)) := by unfold joinB; simp [ex, ey]
      have vx : x.1.1 ≤ x.2.1 ∧ x.1.2 ≤ x.2.2 := by simpa [vldB] using ex
      have vy : y.1.1 ≤ y.2.1 ∧ y.1.2 ≤ y.2.2 := by simpa [vldB] using ey
      rw [e, tchB_iff]
      rw [tchB_iff, tchB_iff] at h
      simp only
      omega
set_option maxRecDepth 100000 in
set_option maxHeartbeats 4000000 in
theorem walk_calls {w0 : World} {g : Nat} {s : TS} (h : Mem w0 g s) (F G : Nat) (p1 : Value) (is : Bx → Bool)
    (hcf : ∀ (args : Array Value) (w : World), (callFunc F args).run Try.prog w = .ok (.enter F args) w) (hcg : ∀ (args : Array Value) (w : World), (callFunc G args).run Try.prog w = .ok (.enter G args) w)
    (HIS : Hid (∀ b1 b2 b3 b4 w', Below w0.heap.size w0 w' → Calls Try.prog F #[bxV ((b1, b2), (b3, b4)), p1] w' (Ret (.bool (is ((b1, b2), (b3, b4)))) w')))
    (HLF : Hid (∀ gl i b up w' out, s.nd gl = some ⟨b, ((i : Nat) : Int), 0, up, none, none⟩ → WkS w0 w' out → out.length < 256 → Calls Try.prog G #[.pointer (pA gl), .pointer (some ⟨w0.heap.size, 0, none⟩)] w' (fun e w'' => e = .returned (.tuple #[]) ∧ WkS w0 w'' (out ++ [i])))) :
    ∀ (t : TB) (up : Option Addr) (w : World) (out : List Nat), t.Rp s up → WkS w0 w out → out.length + t.lvs.length ≤ 256 →
      Calls Try.prog 54 #[.pointer (pA t.root), .func (.func F) #[] #[p1], .func (.func G) #[] #[.pointer (some ⟨w0.heap.size, 0, none⟩)]] w (fun e w' => e = .returned (.tuple #[]) ∧ WkS w0 w' (out ++ wkL is t))
  | .lf gl i b, up, w, out, hT, hS, hlen => by
    have HM := hid h
    have hT : s.nd gl = some ⟨b, (i : Nat), 0, up, none, none⟩ := hT
    have hn := (h.below hS.bel).nd _ _ hT
    obtain ⟨⟨b1, b2⟩, b3, b4⟩ := b
    have HLC := hid (fun w' (hw : WkS w0 w' out) => HLF.out gl i _ up w' out hT hw (by simp [TB.lvs] at hlen; omega))
    have HS := hid hS
    have HB := hid (HIS.out b1 b2 b3 b4 w hS.bel)
    have HE : Hid (wkL is (.lf gl i ((b1, b2), (b3, b4))) = if is ((b1, b2), (b3, b4)) = true then [i] else []) := rfl
    obtain ⟨c0, c1, c2, c3, c4, c5, c6, c7, c8⟩ := hn.cells
    have lg := lt_of_cell c0
    generalize wkL is (.lf gl i ((b1, b2), (b3, b4))) = L at *
    generalize is ((b1, b2), (b3, b4)) = z at *
    show Calls Try.prog 54 #[.pointer (pA gl), _, _] w _
    clear h hT hS hn hlen HM HIS HLF
    go_enter Try.func54, Try.ntmps54
    go_wp2_with fail
    refine HB.out.mono ?_
    rintro e w1 ⟨rfl, hb⟩
    have HS1 := hid (HS.out.keep hb)
    replace c5 := keepCell hb c5
    have lg1 := lt_of_cell c5
    clear c0 c1 c2 c3 c4 c6 c7 c8 lg hb HB HS
    cases z with
    | false =>
      have HR : Hid (WkS w0 w1 (out ++ L)) := by show WkS _ _ _; rw [HE.out]; simpa using HS1.out
      clear HS1 HE HLC
      go_wp2
      go_returns
      exact ⟨rfl, HR.out⟩
    | true =>
      have HR : Hid (out ++ L = out ++ [i]) := by show _ = _; rw [HE.out]; rfl
      have HC := hid (HLC.out w1 HS1.out)
      clear HS1 HE HLC
      go_wp2_with fail
      refine HC.out.mono ?_
      rintro e w2 ⟨rfl, hw2⟩
      have HW := hid hw2
      clear hw2 HC
      go_wp2
      go_returns
      exact ⟨rfl, by rw [HR.out]; exact HW.out⟩
  | .nd p l r, up, w, out, hT, hS, hlen => by
    obtain ⟨h1, h2, h3⟩ := hT
    have hn := (h.below hS.bel).nd _ _ h1
    rcases hbx : bxB (TB.nd p l r) with ⟨⟨b1, b2⟩, b3, b4⟩
    rw [hbx] at hn
    have hl2 : out.length + l.lvs.length + r.lvs.length ≤ 256 := by simp only [TB.lvs, List.length_append] at hlen; omega
    have HWL := hid (fun w' hw => walk_calls h F G p1 is hcf hcg HIS HLF l (pA p) w' out h2 hw (by omega))
    have hwl := wk_len is l
    have HWR := hid (fun w' hw => walk_calls h F G p1 is hcf hcg HIS HLF r (pA p) w' (out ++ wkL is l) h3 hw (by rw [List.length_append]; omega))
    have HN : Hid (∀ w', Below w0.heap.size w0 w' → w'.cell? ⟨p, 8, none⟩ = some (.pointer (pA r.root))) := fun w' hb => ((h.below hb).nd _ _ h1).c8
    have HS := hid hS
    have HB := hid (HIS.out b1 b2 b3 b4 w hS.bel)
    have HE : Hid (wkL is (.nd p l r) = if is ((b1, b2), (b3, b4)) = true then wkL is l ++ wkL is r else []) := by show _ = _; rw [← hbx]; rfl
    obtain ⟨zh, hzh⟩ : ∃ z, z = htB (TB.nd p l r) := ⟨_, rfl⟩
    have hz : 0 < zh := by rw [hzh, ht_nd]; have e1 : htB l = ((l.tr.ht : Nat) : Int) := rfl; have e2 : htB r = ((r.tr.ht : Nat) : Int) := rfl; omega
    have hz0 : (zh == 0) = false := by simp; omega
    have hz1 : ¬ zh = 0 := by omega
    rw [← hzh] at hn
    obtain ⟨c0, c1, c2, c3, c4, c5, c6, c7, c8⟩ := hn.cells
    have lg := lt_of_cell c0
    generalize wkL is (.nd p l r) = L at *
    generalize is ((b1, b2), (b3, b4)) = z at *
    show Calls Try.prog 54 #[.pointer (pA p), _, _] w _
    generalize l.root = gl at *
    generalize r.root = gr at *
    clear h h1 h2 h3 hS hn hlen HIS HLF hbx hzh hl2 hwl
    go_enter Try.func54, Try.ntmps54
    go_wp2_with fail
    refine HB.out.mono ?_
    rintro e w1 ⟨rfl, hb⟩
    have HS1 := hid (HS.out.keep hb)
    replace c5 := keepCell hb c5
    replace c7 := keepCell hb c7
    replace c8 := keepCell hb c8
    have lg1 := lt_of_cell c5
    clear c0 c1 c2 c3 c4 c6 lg hb HB HS
    cases z with
    | false =>
      have HR : Hid (WkS w0 w1 (out ++ L)) := by show WkS _ _ _; rw [HE.out]; simpa using HS1.out
      clear HS1 HE HWL HWR
      go_wp2
      go_returns
      exact ⟨rfl, HR.out⟩
    | true =>
      have HR : Hid (out ++ L = (out ++ wkL is l) ++ wkL is r) := by show _ = _; rw [HE.out, if_pos rfl, List.append_assoc]
      have HC := hid (HWL.out w1 HS1.out)
      clear HS1 HE HWL
      go_wp2_with fail
      refine HC.out.mono ?_
      rintro e w2 ⟨rfl, hw2⟩
      have k8 := HN.out w2 hw2.bel
      have kl := lt_of_cell k8
      have HC2 := hid (HWR.out w2 hw2)
      clear hw2 HC HWR HN c5 c7 c8 lg1
      go_wp2_with fail
      refine HC2.out.mono ?_
      rintro e w3 ⟨rfl, hw3⟩
      have HW := hid hw3
      clear hw3 HC2 k8 kl
      go_wp2
      go_returns
      exact ⟨rfl, by rw [HR.out]; exact HW.out⟩
end
end Go.Proofs.Ytiaoandbdgdecaa
