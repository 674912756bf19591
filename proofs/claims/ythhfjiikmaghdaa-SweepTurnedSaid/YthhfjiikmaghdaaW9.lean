/- The contracts of slices.Concat of boxes and of sweep.Between. -/
import Derived.Test.YthhfjiikmaghdaaW8
import Derived.Test.YthhfjiikmaghdaaW5
namespace Go.Proofs.Ythhfjiikmaghdaa
set_option linter.unusedVariables false
set_option linter.unusedSimpArgs false
open Go.RowKit

set_option maxRecDepth 100000 in
set_option maxHeartbeats 2000000 in
theorem grow_calls (k : Nat) (hk : k ≤ 100000) (w : World) : Calls Try.prog 206 #[.slice none 0 0, .int .i64 k] w fun e w' => ∃ s, e = .returned s ∧ OwnE layBox 55 w' w.heap.size s [] ∧ Below w.heap.size w w' := by
  by_cases h0 : k = 0
  · subst h0
    go_enter Try.func206, Try.ntmps206
    go_wp2
    refine bodyPost_ret (v := .slice none 0 0) (by simp [results, Try.results206, go_sem]) rfl ⟨_, rfl, OwnE.nil _ _ _ _, Below.refl _ _⟩
  · have h1 : ¬ (k : Int) < 0 := by omega
    have h2 : (0 : Int) < (k : Int) := by omega
    have h3 : IntKind.i64.wrap (k : Int) = (k : Int) := IntWalk.i64_in _ (by omega)
    go_enter Try.func206, Try.ntmps206
    go_wp2_with (at_builtin; refine wpList_append_room tyBox Try.underlying3 rfl _ _ rfl w.heap.size k rfl rfl (by omega) hk (by omega) (Nat.le_refl _) ?_; intro g cap w1 ho hg hge hkc hcm; have HO := hid ho; have HG := hid hg; clear ho hg)
    refine bodyPost_ret (v := .slice (some ⟨g, 0, none⟩) 0 cap) (by simp [results, Try.results206, go_sem]) rfl ⟨_, rfl, HO.out, (Below.refl _ _).grown HG.out (Nat.le_refl _) (fun k hk => by cases hk)⟩

def RetBx (l : List Bx) (w : World) (e : Ending) (w' : World) : Prop := ∃ A n c, e = .returned (.slice A n c) ∧ SlE layBox w' A n c l ∧ (∀ b off, A = some ⟨b, off, none⟩ → w.heap.size ≤ b) ∧ Below w.heap.size w w'
set_option maxRecDepth 100000 in
set_option maxHeartbeats 4000000 in
theorem concat_calls (A B : Option Addr) (n c n' c' : Nat) (l m : List Bx) (G : Nat) (w : World) (hS : SlE layBox w A n c l) (hM : SlE layBox w B n' c' m) (hl : l.length ≤ 1000) (hm : m.length ≤ 1000)
    (h0 : w.cell? ⟨G, 0, none⟩ = some (.slice A n c)) (h1 : w.cell? ⟨G, 1, none⟩ = some (.slice B n' c')) :
    Calls Try.prog 151 #[.slice (some ⟨G, 0, none⟩) 2 2] w (RetBx (l ++ m) w) := by
  have hn := hS.len
  have hn' := hM.len
  subst hn hn'
  have HS := hid hS
  have HM := hid hM
  have H0 := hid h0
  have H1 := hid h1
  have hw1 : IntKind.i64.wrap (l.length : Int) = (l.length : Int) := IntWalk.i64_in _ (by omega)
  have hw2 : IntKind.i64.wrap ((l.length : Int) + (m.length : Int)) = (l.length : Int) + (m.length : Int) := IntWalk.i64_in _ (by omega)
  have hn1 : ¬ (l.length : Int) < 0 := by omega
  have hn2 : ¬ (l.length : Int) + (m.length : Int) < 0 := by omega
  have HG := hid (grow_calls (l.length + m.length) (by omega))
  have hcast : ((l.length + m.length : Nat) : Int) = (l.length : Int) + (m.length : Int) := by omega
  rw [hcast] at HG
  have hG := lt_of_cell h0
  clear hS hM h0 h1 hcast
  go_enter Try.func151, Try.ntmps151
  go_wp2
  go_loopw [3, 11] (fun s i wr => ((i = .int .i64 0 ∧ s = .int .i64 0) ∨ (i = .int .i64 1 ∧ s = .int .i64 (l.length : Int)) ∨ (i = .int .i64 2 ∧ s = .int .i64 ((l.length : Int) + (m.length : Int)))) ∧ Below w.heap.size w wr) (fun _ i _ => 2 - (intOf i).toNat)
  case atStart => exact ⟨.inl ⟨rfl, rfl⟩, Below.refl _ _⟩
  case round =>
    obtain ⟨hcase, hB⟩ := hrel
    obtain ⟨wo, rfl⟩ : ∃ wo : World, wo = wr := ⟨_, rfl⟩
    have c0 := keepCell hB H0.out
    have c1 := keepCell hB H1.out
    have hGo := lt_of_cell c0
    rcases hcase with ⟨rfl, rfl⟩ | ⟨rfl, rfl⟩ | ⟨rfl, rfl⟩
    · go_wp2
      go_roundw
      case rel => exact ⟨.inr (.inl ⟨rfl, rfl⟩), hB⟩
      case measure => simp [intOf]
    · go_wp2
      go_roundw
      case rel => exact ⟨.inr (.inr ⟨rfl, rfl⟩), hB⟩
      case measure => simp [intOf]
    · clear c0 c1
      go_wp2_with fail
      refine (HG.out _).mono ?_
      rintro e w1 ⟨s, rfl, ho, hb1⟩
      have HO1 := hid (ho.mono hB.size)
      have hB1 := keepBelow hb1 hB
      clear ho hb1 HG hB hGo
      go_wp2
      go_loopw [6, 27] (fun s i wr => ((i = .int .i64 0 ∧ OwnE layBox 55 wr w.heap.size s []) ∨ (i = .int .i64 1 ∧ OwnE layBox 55 wr w.heap.size s l) ∨ (i = .int .i64 2 ∧ OwnE layBox 55 wr w.heap.size s (l ++ m))) ∧ Below w.heap.size w wr) (fun _ i _ => 2 - (intOf i).toNat)
      case atStart => exact ⟨.inl ⟨rfl, HO1.out⟩, hB1⟩
      case round =>
        clear HO1 hB1
        obtain ⟨hcase, hB⟩ := hrel
        obtain ⟨wv, rfl⟩ : ∃ wo : World, wo = wr := ⟨_, rfl⟩
        have c0 := keepCell hB H0.out
        have c1 := keepCell hB H1.out
        have hGo := lt_of_cell c0
        rcases hcase with ⟨rfl, ho⟩ | ⟨rfl, ho⟩ | ⟨rfl, ho⟩
        · have HO := hid ho
          clear ho
          go_wp2_with (at_builtin; refine wpList_append_S tyBox rfl _ _ rfl w.heap.size _ _ rfl HO.out A _ c l rfl (HS.out.below hB) (by first | omega | (simp; omega)) (by first | omega | (simp; omega)) (by have := hB.size; first | omega | (simp; omega)) ?_; intro v' w7 ho1 hg1 hat; have HO7 := hid ho1; have HB7 := hid (hB.grown hg1 hB.size (fun k hk => (HO.out.lt hk).1)); clear ho1 hg1 hat)
          go_roundw
          case rel => exact ⟨.inr (.inl ⟨rfl, by simpa using HO7.out⟩), HB7.out⟩
          case measure => simp [intOf]
        · have HO := hid ho
          clear ho
          go_wp2_with (at_builtin; refine wpList_append_S tyBox rfl _ _ rfl w.heap.size _ _ rfl HO.out B _ c' m rfl (HM.out.below hB) (by first | omega | (simp; omega)) (by first | omega | (simp; omega)) (by have := hB.size; first | omega | (simp; omega)) ?_; intro v' w7 ho1 hg1 hat; have HO7 := hid ho1; have HB7 := hid (hB.grown hg1 hB.size (fun k hk => (HO.out.lt hk).1)); clear ho1 hg1 hat)
          go_roundw
          case rel => exact ⟨.inr (.inr ⟨rfl, HO7.out⟩), HB7.out⟩
          case measure => simp [intOf]
        · obtain ⟨Ar, nr, cr, rfl, hs, hf⟩ := ho.sl
          have HR : Hid (RetBx (l ++ m) w (.returned (.slice Ar nr cr)) wv) := ⟨_, _, _, rfl, hs, hf, hB⟩
          clear hs hf ho hB c0 c1
          go_wp2
          refine bodyPost_ret (v := .slice Ar nr cr) (by simp [results, Try.results151, go_sem]) rfl HR.out

theorem cutP_len (n : Nat) (r : List (Nat × Nat)) : (cutP n r).length ≤ r.length := by unfold cutP; rw [List.length_map]; exact List.length_filter_le _ _
theorem pairsL_len (l : List Bx) (h : l.length ≤ 1000) : (pairsL l).length ≤ 1000000 := by
  have := prsTo_len l l.length
  have : l.length * l.length ≤ 1000 * 1000 := Nat.mul_le_mul h h
  unfold pairsL
  omega
set_option maxRecDepth 100000 in
set_option maxHeartbeats 4000000 in
theorem between_calls (A B : Option Addr) (n c n' c' : Nat) (l m : List Bx) (w : World) (hS : SlE layBox w A n c l) (hM : SlE layBox w B n' c' m) (hl : l.length ≤ 500) (hm : m.length ≤ 500) :
    Calls Try.prog 68 #[.slice A n c, .slice B n' c'] w (RetPrs (btw l m) w) := by
  have hn := hS.len
  have hn' := hM.len
  subst hn hn'
  obtain ⟨W, hW⟩ : ∃ W, W = w.alloc (.cells #[.slice A l.length c, .slice B m.length c'] 52) := ⟨_, rfl⟩
  have hB0 : Below w.heap.size w W := by rw [hW]; go_grown
  have HCC := hid (concat_calls A B _ c _ c' l m w.heap.size W (hS.below hB0) (hM.below hB0) (by omega) (by omega) (by rw [hW]; go_simp) (by rw [hW]; go_simp))
  clear hS hM
  go_enter Try.func68, Try.ntmps68
  go_wp2_with fail
  rw [← hW]
  clear hW
  refine HCC.out.mono ?_
  rintro e w1 ⟨A1, n1, c1, rfl, hs1, -, hb1⟩
  have HPR := hid (pairs_calls A1 n1 c1 (l ++ m) w1 hs1 (by simp; omega))
  have hB1 := keepBelow hb1 hB0
  clear hs1 hb1 HCC hB0
  go_wp2_with fail
  refine HPR.out.mono ?_
  rintro e w2 ⟨A2, n2, c2, rfl, hs2, -, hb2⟩
  have hB2 := keepBelow hb2 hB1
  have HS2 := hid hs2
  have hn2 := hs2.len
  have HPL := hid (pairsL_len (l ++ m) (by simp; omega))
  have HPM : Hid (∀ p ∈ pairsL (l ++ m), p.2 ≤ 1000) := fun p hp => by have := (mem_pairs.1 hp).2.1; simp at this; omega
  have HFIN : Hid (cutP l.length (pairsL (l ++ m)) = btw l m) := rfl
  have HB2 := hid hB2
  generalize pairsL (l ++ m) = P at *
  subst hn2
  have hpl := HPL.out
  clear hs2 hb2 HPR hB1 hB2
  go_wp2
  go_loopw [5, 14] (fun s i wr => ∃ k : Nat, k ≤ P.length ∧ i = .int .i64 k ∧ PO w2 s (cutP l.length (P.take k)) wr) (fun _ i _ => P.length - (intOf i).toNat)
  case atStart => exact ⟨0, Nat.zero_le _, rfl, PO.nil _⟩
  case round =>
    obtain ⟨k, hk, rfl, hpo⟩ := hrel
    obtain ⟨wo, rfl⟩ : ∃ wo : World, wo = wr := ⟨_, rfl⟩
    have HPO := hid hpo
    by_cases hlt : k < P.length
    · have hlt' : (k : Int) < (P.length : Int) := by omega
      have hwk : IntKind.i64.wrap ((k : Int) + 1) = (k : Int) + 1 := IntWalk.i64_in _ (by omega)
      obtain ⟨b, off, hA, hC0⟩ := HS2.out.at_ (by intro h; rw [h] at hlt; simp at hlt)
      subst hA
      have hC := hC0.below hpo.bel
      obtain ⟨e0, e1⟩ := hC.pair hlt
      have hbl := hC.lt
      have HCT := hid (cutP_take (n := l.length) hlt)
      have HCL : Hid ((cutP l.length (P.take k)).length ≤ 1000000) := by
        have := cutP_len l.length (P.take k)
        rw [List.length_take] at this
        show _ ≤ _
        omega
      have HPB : Hid (P[k].2 ≤ 1000) := HPM.out _ (List.getElem_mem hlt)
      obtain ⟨p1, hp1⟩ : ∃ z, z = P[k].1 := ⟨_, rfl⟩
      obtain ⟨p2, hp2⟩ : ∃ z, z = P[k].2 := ⟨_, rfl⟩
      rw [← hp1] at e0 HCT
      rw [← hp2] at e1 HCT HPB
      obtain ⟨wp, hwp⟩ : ∃ w', w' = wo.alloc (.cells #[.int .i64 (p1 : Int), .int .i64 (p2 : Int)] 96) := ⟨_, rfl⟩
      obtain ⟨gp, hgp⟩ : ∃ g, g = wo.heap.size := ⟨_, rfl⟩
      have t0 : wp.cell? ⟨gp, 0, none⟩ = some (.int .i64 (p1 : Int)) := by rw [hwp, hgp]; go_simp
      have t1 : wp.cell? ⟨gp, 1, none⟩ = some (.int .i64 (p2 : Int)) := by rw [hwp, hgp]; go_simp
      have HP : Hid (PO w2 u5 (cutP l.length (P.take k)) wp) := by show PO _ _ _ _; rw [hwp]; exact HPO.out.keep ((Below.refl _ _).alloc (Nat.le_refl _) _)
      obtain ⟨Q, hQ⟩ : ∃ Q, Q = cutP l.length (P.take k) := ⟨_, rfl⟩
      rw [← hQ] at HP HCT HCL
      clear hC hC0 hpo hp1 hp2 hQ
      go_upto_region 5 with fail
      rw [← hwp, ← hgp]
      clear hwp hgp e0 e1 hbl HPO
      by_cases d1 : p1 < l.length
      · have d1' : (p1 : Int) < (l.length : Int) := by omega
        by_cases d2 : l.length ≤ p2
        · have d2' : (l.length : Int) ≤ (p2 : Int) := by omega
          have HO2 : Hid (cutP l.length (P.take (k + 1)) = Q ++ [(p1, p2 - l.length)]) := by show _ = _; rw [HCT.out, if_pos ⟨d1, d2⟩]
          have hws : IntKind.i64.wrap ((p2 : Int) - (l.length : Int)) = ((p2 - l.length : Nat) : Int) := by have := HPB.out; rw [IntWalk.i64_in _ (by omega)]; omega
          clear HCT
          go_wp2_with (at_builtin; refine wpList_append_E tyPair rfl _ _ rfl w2.heap.size _ _ rfl (HP.out.own.alloc _) wp.heap.size 0 1 1 [(p1, p2 - l.length)] rfl rfl (cells_pair (by go_simp) (by go_simp)) (by have := HCL.out; simp; omega) (by have := HCL.out; simp; omega) (by have := HP.out.bel.size; simp; omega) ?_; intro v' w7 ho1 hg1 hat; have HP7 := hid ((HP.out.keep ((Below.refl _ _).alloc (Nat.le_refl _) _)).app ho1 hg1); clear ho1 hg1 hat)
          clear HP
          go_roundw
          case rel => exact ⟨k + 1, hlt, by go_num, by rw [HO2.out]; exact HP7.out⟩
          case measure => simp [intOf]; omega
        · have d2' : ¬ (l.length : Int) ≤ (p2 : Int) := by omega
          have HO2 : Hid (cutP l.length (P.take (k + 1)) = Q) := by show _ = _; rw [HCT.out, if_neg (fun h => d2 h.2), List.append_nil]
          clear HCT
          go_wp2
          go_roundw
          case rel => exact ⟨k + 1, hlt, by go_num, by rw [HO2.out]; exact HP.out⟩
          case measure => simp [intOf]; omega
      · have d1' : ¬ (p1 : Int) < (l.length : Int) := by omega
        have HO2 : Hid (cutP l.length (P.take (k + 1)) = Q) := by show _ = _; rw [HCT.out, if_neg (fun h => d1 h.1), List.append_nil]
        clear HCT
        go_wp2
        go_roundw
        case rel => exact ⟨k + 1, hlt, by go_num, by rw [HO2.out]; exact HP.out⟩
        case measure => simp [intOf]; omega
    · have hke : k = P.length := by omega
      subst hke
      rw [List.take_length, HFIN.out] at HPO
      obtain ⟨Ar, nr, cr, rfl, hs, hf⟩ := HPO.out.own.sl
      have HRT : Hid (RetPrs (btw l m) w (.returned (.slice Ar nr cr)) wo) := ⟨Ar, nr, cr, rfl, hs, fun b off e => by have := hf b off e; have := HB2.out.size; omega, HB2.out.trans (HPO.out.bel.mono HB2.out.size)⟩
      clear hpo hs hf HPO
      go_wp2
      refine bodyPost_ret (v := .slice Ar nr cr) (by simp [results, Try.results68, go_sem]) rfl HRT.out

end Go.Proofs.Ythhfjiikmaghdaa
