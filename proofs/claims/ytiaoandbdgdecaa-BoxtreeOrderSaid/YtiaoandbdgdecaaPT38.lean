/- The walk of BoxtreeLow. -/
import Derived.Test.YtiaoandbdgdecaaPT37
namespace Go.Proofs.Ytiaoandbdgdecaa
section
set_option linter.unusedVariables false
set_option linter.unusedSimpArgs false
open Go.RowKit
def lowB (L : List Bx) (j : Nat) : Bx := (((bxAt L (j % L.length)).1.1, (bxAt L (j % L.length)).1.2), ((bxAt L (j % L.length)).2.1 + (j : Int), (bxAt L (j % L.length)).2.2))

def lowF (L : List Bx) (k m : Nat) : Nat → Option Bx := fun j => if k ≤ j ∧ j < m then some (lowB L j) else none
theorem low_up (L : List Bx) (m : Nat) : upF (lowF L 0 m) m (some (lowB L m)) = lowF L 0 (m + 1) := by
  funext j
  show (if j = m then _ else lowF L 0 m j) = _
  unfold lowF
  by_cases e : j = m
  · subst e; rw [if_pos rfl, if_pos ⟨Nat.zero_le _, Nat.lt_succ_self _⟩]
  · rw [if_neg e]
    by_cases h : j < m
    · rw [if_pos ⟨Nat.zero_le _, h⟩, if_pos ⟨Nat.zero_le _, by omega⟩]
    · rw [if_neg (by omega), if_neg (by omega)]
theorem low_down (L : List Bx) (k m : Nat) : upF (lowF L k m) k none = lowF L (k + 1) m := by
  funext j
  show (if j = k then _ else lowF L k m j) = _
  unfold lowF
  by_cases e : j = k
  · subst e; rw [if_pos rfl, if_neg (by omega)]
  · rw [if_neg e]
    by_cases h : k ≤ j ∧ j < m
    · rw [if_pos h, if_pos ⟨by omega, h.2⟩]
    · rw [if_neg h, if_neg (by omega)]
theorem low_none (L : List Bx) (m : Nat) : lowF L m m = fun _ => none := by
  funext j
  unfold lowF
  rw [if_neg (by omega)]
theorem low_cnt (L : List Bx) : ∀ m, m ≤ 256 → cntF (lowF L 0 m) = m
  | 0, _ => by rw [low_none]; exact cnt_none
  | m + 1, h => by
    have ih := low_cnt L m (by omega)
    have := cnt_up (F := lowF L 0 m) (i := m) (by omega) (some (lowB L m))
    rw [low_up, ih, show lowF L 0 m m = none by unfold lowF; rw [if_neg (by omega)]] at this
    simpa using this
theorem prs_none : prsF (fun _ => none) tchB 256 = [] := by
  have : ∀ n, prsF (fun _ => none) tchB n = [] := fun n => by
    induction n with
    | zero => rfl
    | succ n ih => rw [prs_succ, ih]; rfl
  exact this 256

structure LowS (w0 : World) (g : Nat) (L : List Bx) (A : Option Addr) (c : Nat) (wl : World) (F : Nat → Option Bx) (wr : World) : Prop where
  tr : ∃ D, TrA wr g D F ∧ ∀ k, D k → k = g ∨ wl.heap.size ≤ k
  sl : SlE layBox wr A L.length c L
  fr : ∀ b off, A = some ⟨b, off, none⟩ → g < b ∧ b < wl.heap.size
  bel : Below w0.heap.size w0 wr
  g0 : w0.heap.size ≤ g
  sz : wl.heap.size ≤ wr.heap.size ∧ w0.heap.size ≤ wl.heap.size
theorem LowS.keep {w0 : World} {g : Nat} {L : List Bx} {A : Option Addr} {c : Nat} {wl : World} {F : Nat → Option Bx} {wr w' : World} (hb : Below wr.heap.size wr w') (h : LowS w0 g L A c wl F wr) : LowS w0 g L A c wl F w' := by
  obtain ⟨⟨D, h1, h2⟩, hs, hf, hB, h3, h4⟩ := h
  exact ⟨⟨D, TrA.below hb h1, h2⟩, hs.below hb, hf, keepBelow hb hB, h3, Nat.le_trans h4.1 hb.size, h4.2⟩
theorem SlE.outB {α : Type} {L : Lay α} {w w' : World} {A : Option Addr} {n c : Nat} {l : List α} {D : Nat → Prop} (h : SlE L w A n c l) (o : Out D w w') (hne : ∀ b off, A = some ⟨b, off, none⟩ → ¬ D b) : SlE L w' A n c l :=
  ⟨h.len, h.cap, h.big, fun q => by
    obtain ⟨b, off, e, hC⟩ := h.at_ q
    exact ⟨b, off, e, Nat.lt_of_lt_of_le hC.lt o.size, fun j hj i u hu => o.cell (hC.at_ j hj i u hu) (hne b off e)⟩⟩
theorem LowS.ret {w0 : World} {g : Nat} {L : List Bx} {A : Option Addr} {c : Nat} {wl : World} {F F' : Nat → Option Bx} {wr w' : World} (h : LowS w0 g L A c wl F wr) {D : Nat → Prop} (hD : ∀ k, D k → k = g ∨ wl.heap.size ≤ k) {z : Int} {e : Ending} (hr : RetTr g D F' z wr e w') : e = .returned (.int .i64 z) ∧ LowS w0 g L A c wl F' w' := by
  obtain ⟨-, hs, hf, hB, h3, h4⟩ := h
  obtain ⟨rfl, D', h1, o, h2⟩ := hr
  refine ⟨rfl, ⟨D', h1, fun k hk => ?_⟩, hs.outB o (fun b off e q => ?_), hf, hB.trans (below_out o (fun k q => ?_) (by omega)), h3, Nat.le_trans h4.1 o.size, h4.2⟩
  · rcases h2 k hk with q | q
    · exact hD k q
    · exact .inr (by omega)
  · have := hf b off e
    have := hD b q
    omega
  · have := hD k q
    omega
theorem grown_outB {w w' : World} {row : Option Nat} (h : w.grownBy w' row) : Out (fun k => some k = row) w w' := ⟨h.os, h.tape, h.output, h.size, fun k hk hn => h.block k hk hn⟩
set_option maxRecDepth 100000 in
set_option maxHeartbeats 8000000 in
theorem boxtreeLow_walk (A : Option Addr) (n c : Nat) (r : List Int) (z : Int) (w : World) (hS : SlI w A n c r) : Calls Try.prog 3 #[.slice A n c, .int .i64 z] w (Ret (.bool true) w) := by
  have HSI := hid hS
  clear hS
  go_enter Try.func3, Try.ntmps3
  go_wp2_with fail
  refine (tkgrows_calls _).mono ?_
  rintro e w1 ⟨rfl, hb⟩
  have HS1 := hid (HSI.out.below hb)
  have HB1 := hid hb
  clear hb HSI
  go_wp2_with fail
  refine (tnew_calls _).mono ?_
  rintro e w2 ⟨g, rfl, hg, ht, hb⟩
  have HS2 := hid (HS1.out.below hb)
  have HB2 := hid (keepBelow hb HB1.out)
  have HT2 := hid ht
  have HG : Hid (w.heap.size ≤ g ∧ g < w2.heap.size) := ⟨Nat.le_trans HB1.out.size hg, by obtain ⟨s, T, m, -⟩ := ht; exact m.lt⟩
  clear hb ht hg HS1 HB1
  go_wp2_with fail
  refine (tbelow_calls z 257 (by omega) (by omega) _).mono ?_
  rintro e w3 ⟨rfl, hb⟩
  have HS3 := hid (HS2.out.below hb)
  have HB3 := hid (keepBelow hb HB2.out)
  have HT3 := hid (TrA.below hb HT2.out)
  have HG3 : Hid (w.heap.size ≤ g ∧ g < w3.heap.size) := ⟨HG.out.1, Nat.lt_of_lt_of_le HG.out.2 hb.size⟩
  obtain ⟨m, hm⟩ : ∃ m : Nat, (m : Int) = z % 257 := ⟨(z % 257).toNat, by omega⟩
  have hm256 : m ≤ 256 := by omega
  rw [← hm]
  clear hb hm HS2 HB2 HT2 HG
  go_wp2_with fail
  refine (boxesB_calls A n c r _ HS3.out).mono ?_
  rintro e w4 ⟨l, A4, n4, c4, rfl, ho, hl24, hok, hb⟩
  have HB4 := hid (keepBelow hb HB3.out)
  have HT4 := hid (TrA.below hb HT3.out)
  have HO4 := hid ho
  have HOK := hid hok
  have HSZ : Hid (w3.heap.size ≤ w4.heap.size) := hb.size
  clear hb ho hok HS3 HB3 HT3
  have hsz4 := HSZ.out
  go_wp2_with (at_builtin; refine wpList_append_E tyBoxB rfl _ _ rfl w3.heap.size _ _ rfl (HO4.out.alloc _) w4.heap.size 0 1 1 [((0, 0), (0, 0))] rfl rfl (cells_boxB (by go_simp) (by go_simp) (by go_simp) (by go_simp)) (by simp; omega) (by simp; omega) (by simp; omega) ?_; intro v' w5 ho1 hg1 hat; have HO5 := hid ho1; have HG5 : Hid ((w4.alloc _).grownBy w5 (Value.slice A4 n4 c4).ownBlock) := hid hg1; clear ho1 hg1 hat)
  obtain ⟨L, hL⟩ : ∃ L, L = l ++ [((0, 0), (0, 0))] := ⟨_, rfl⟩
  rw [← hL] at HO5
  have hLl : L.length = l.length + 1 := by rw [hL]; simp
  have HLK : Hid (∀ b ∈ L, okB b) := fun b hb => by
    rw [hL] at hb
    rcases List.mem_append.1 hb with q | q
    · exact HOK.out b q
    · rw [List.mem_singleton.1 q]; exact ⟨by decide, by dsimp only; omega⟩
  obtain ⟨A5, n5, c5, rfl, hsl5, hfr5⟩ := HO5.out.sl
  obtain rfl : n5 = L.length := hsl5.len
  have hb45 : Below w4.heap.size w4 (w4.alloc (.cells #[.int .i64 0, .int .i64 0, .int .i64 0, .int .i64 0] 32)) := by go_grown
  have HS0 : Hid (LowS w g L A5 c5 w5 (lowF L 0 0) w5) := by
    have o5 := grown_outB HG5.out
    have hsz := hb45.size
    refine ⟨⟨_, (TrA.below hb45 HT4.out).out o5 (fun k hk q => ?_), fun k hk => .inl hk⟩, hsl5, fun b off e => ⟨?_, ?_⟩, (keepBelow hb45 HB4.out).trans (below_out o5 (fun k q => ?_) (keepBelow hb45 HB4.out).size), HG3.out.1, Nat.le_refl _, Nat.le_trans (keepBelow hb45 HB4.out).size o5.size⟩
    · have := (HO4.out.lt q.symm).1
      have := HG3.out
      have hk : k = g := hk
      omega
    · have := hfr5 b off e
      have := HG3.out
      omega
    · obtain ⟨b', off', e', hC⟩ := hsl5.at_ (by intro q; rw [q] at hLl; simp at hLl)
      rw [e] at e'
      cases e'
      exact hC.lt
    · have := (HO4.out.lt q.symm).1
      have := HG3.out
      omega
  have hL25 : L.length ≤ 25 := by omega
  have hL0 : 0 < L.length := by omega
  clear hL hLl HOK hsl5 hfr5 hb45 HO5 HG5 HO4 HT4 HB4 HSZ hsz4 hl24 HG3
  go_loopw [21] (fun j wr => ∃ k : Nat, k ≤ m ∧ j = .int .i64 k ∧ Hid (LowS w g L A5 c5 w5 (lowF L 0 k) wr)) (fun j _ => m - (intOf j).toNat)
  case atStart => exact ⟨0, Nat.zero_le _, rfl, HS0⟩
  case round =>
    clear HS0
    obtain ⟨k, hk, rfl, HK⟩ := hrel
    obtain ⟨wo, rfl⟩ : ∃ wo : World, wo = wr := ⟨_, rfl⟩
    by_cases hlt : k < m
    · have hlt' : (k : Int) < (m : Int) := by omega
      have hwk : IntKind.i64.wrap ((k : Int) + 1) = (k : Int) + 1 := IntWalk.i64_in _ (by omega)
      obtain ⟨q, hq⟩ : ∃ q, q = k % L.length := ⟨_, rfl⟩
      have hql : q < L.length := by rw [hq]; exact Nat.mod_lt _ hL0
      have hql' : (q : Int) < (L.length : Int) := by omega
      have hmod : (k : Int).tmod (L.length : Int) = (q : Int) := by rw [hq, Int.tmod_eq_emod_of_nonneg (by omega)]; exact (Int.natCast_emod _ _).symm
      have hne0 : ((L.length : Int) == 0) = false := by rw [beq_eq_false_iff_ne]; omega
      obtain ⟨bl, off, hA, hC⟩ := HK.out.sl.at_ (by intro q; rw [q] at hL0; simp at hL0)
      subst hA
      obtain ⟨b, hb⟩ : ∃ b, b = bxAt L q := ⟨_, rfl⟩
      have hbk : okB b := by
        rw [hb]
        have e : bxAt L q = L[q] := by unfold bxAt; simp [hql]
        rw [e]; exact HLK.out _ (List.getElem_mem hql)
      obtain ⟨d0, d1, d2, d3⟩ := hC.box hql
      rw [← hb] at d0 d1 d2 d3
      have hlb : lowB L k = ((b.1.1, b.1.2), (b.2.1 + (k : Int), b.2.2)) := by unfold lowB; rw [← hq, ← hb]
      obtain ⟨⟨b1, b2⟩, b3, b4⟩ := b
      obtain ⟨v1, v2, v3, v4, v5⟩ := hbk
      dsimp only at d0 d1 d2 d3 hlb v2 v3 v4 v5
      have v1 : b1 ≤ b3 ∧ b2 ≤ b4 := by simpa [vldB] using v1
      have hw3 : IntKind.i64.wrap (b3 + (k : Int)) = b3 + (k : Int) := IntWalk.i64_in _ (by omega)
      have hvl : vldB ((b1, b2), (b3 + (k : Int), b4)) = true := by simp [vldB]; omega
      have ld := lt_of_cell d0
      obtain ⟨w6, hw6⟩ : ∃ x, x = wo.alloc (.cells #[.int .i64 b1, .int .i64 b2, .int .i64 b3, .int .i64 b4] 32) := ⟨_, rfl⟩
      obtain ⟨gx, hgx⟩ : ∃ x, x = wo.heap.size := ⟨_, rfl⟩
      have hb6 : Below wo.heap.size wo w6 := by rw [hw6]; go_grown
      have x0 : w6.cell? ⟨gx, 0, none⟩ = some (.int .i64 b1) := by rw [hw6, hgx]; go_simp
      have x1 : w6.cell? ⟨gx, 1, none⟩ = some (.int .i64 b2) := by rw [hw6, hgx]; go_simp
      have x2 : w6.cell? ⟨gx, 2, none⟩ = some (.int .i64 b3) := by rw [hw6, hgx]; go_simp
      have x3 : w6.cell? ⟨gx, 3, none⟩ = some (.int .i64 b4) := by rw [hw6, hgx]; go_simp
      have xf : ∀ j, w6.frozen? ⟨gx, j, none⟩ = false := fun j => by rw [hw6, hgx]; unfold World.frozen?; rw [heap_alloc_new]; simp
      have lx := lt_of_cell x0
      obtain ⟨w7, hw7⟩ : ∃ x, x = w6.setCell ⟨gx, 2, none⟩ (.int .i64 (b3 + (k : Int))) := ⟨_, rfl⟩
      have y0 : w7.cell? ⟨gx, 0, none⟩ = some (.int .i64 b1) := by rw [hw7]; exact cell_neB x0 (by omega)
      have y1 : w7.cell? ⟨gx, 1, none⟩ = some (.int .i64 b2) := by rw [hw7]; exact cell_neB x1 (by omega)
      have y2 : w7.cell? ⟨gx, 2, none⟩ = some (.int .i64 (b3 + (k : Int))) := by rw [hw7]; exact cell_eqB x2
      have y3 : w7.cell? ⟨gx, 3, none⟩ = some (.int .i64 b4) := by rw [hw7]; exact cell_neB x3 (by omega)
      have ly := lt_of_cell y0
      have hb7 : Below wo.heap.size wo w7 := by rw [hw7]; exact hb6.setCell (p := ⟨gx, 2, none⟩) (Nat.le_of_eq hgx.symm) _
      have HK7 := hid (HK.out.keep hb7)
      obtain ⟨D, hD1, hD2⟩ := HK7.out.tr
      have HP := hid (tput_calls hD1 (i := k) (by omega) b1 b2 (b3 + (k : Int)) b4 hvl)
      have HD2 := hid hD2
      have heF : upF (lowF L 0 k) k (some ((b1, b2), (b3 + (k : Int), b4))) = lowF L 0 (k + 1) := by rw [← hlb]; exact low_up L k
      rw [heF] at HP
      clear heF hD1 hD2 hC hb hlb hb6 hb7 hvl v1 v2 v3 v4 v5 hq HK
      go_upto_region 10 with fail
      rw [← hw6, ← hgx]
      clear hw6 hgx d0 d1 d2 d3 ld
      go_upto_region 11 with fail
      rw [← hw7]
      clear hw7 x0 x1 x2 x3 xf lx
      go_wp2_with fail
      refine HP.out.mono ?_
      rintro e w8 hr
      obtain ⟨rfl, hn⟩ := HK7.out.ret HD2.out hr
      have HN := hid hn
      clear hr hn HP HD2 HK7 y0 y1 y2 y3 ly
      go_wp2
      go_roundw
      case rel => exact ⟨k + 1, hlt, by go_num, HN⟩
      case measure => simp [intOf]; omega
    · have hke : k = m := by omega
      subst hke
      obtain ⟨D, hD1, hD2⟩ := HK.out.tr
      have hLN := tlen_calls hD1
      rw [low_cnt L k hm256] at hLN
      have HLN := hid hLN
      clear hD1 hD2 hLN
      go_wp2_with fail
      refine HLN.out.mono ?_
      rintro e w6 ⟨rfl, hb⟩
      replace HK := hid (HK.out.keep hb)
      clear hb HLN
      obtain ⟨D, hD1, hD2⟩ := HK.out.tr
      have hHT := theight_calls hD1
      rw [low_cnt L k hm256] at hHT
      have HHT := hid hHT
      clear hD1 hD2 hHT
      go_wp2_with fail
      refine HHT.out.mono ?_
      rintro e w7 ⟨z1, rfl, hz, hb⟩
      have hz0 : ¬ (z1 : Int) < 0 := by omega
      replace HK := hid (HK.out.keep hb)
      clear hb HHT hz
      obtain ⟨D, hD1, hD2⟩ := HK.out.tr
      have hHT := theight_calls hD1
      rw [low_cnt L k hm256] at hHT
      have HHT := hid hHT
      clear hD1 hD2 hHT
      go_wp2_with fail
      refine HHT.out.mono ?_
      rintro e w8 ⟨z2, rfl, hz, hb⟩
      have hz1 : ¬ (z2 : Int) > 11 := by have := hz.2.2.1; omega
      replace HK := hid (HK.out.keep hb)
      clear hb HHT hz
      go_wp2
      go_loopw [59] (fun j wr => ∃ q : Nat, q ≤ k ∧ j = .int .i64 q ∧ Hid (LowS w g L A5 c5 w5 (lowF L q k) wr)) (fun j _ => k - (intOf j).toNat)
      case atStart => exact ⟨0, Nat.zero_le _, rfl, HK⟩
      case round =>
        clear HK
        obtain ⟨q, hq, rfl, HK⟩ := hrel
        obtain ⟨wo, rfl⟩ : ∃ wo : World, wo = wr := ⟨_, rfl⟩
        by_cases hqk : q < k
        · have hqk' : (q : Int) < (k : Int) := by omega
          have hwq : IntKind.i64.wrap ((q : Int) + 1) = (q : Int) + 1 := IntWalk.i64_in _ (by omega)
          obtain ⟨D, hD1, hD2⟩ := HK.out.tr
          have HP := hid (tdrop_calls hD1 (i := q) (by omega) (b := lowB L q) (by unfold lowF; rw [if_pos ⟨Nat.le_refl _, hqk⟩]))
          have HD2 := hid hD2
          rw [low_down] at HP
          clear hD1 hD2
          go_wp2_with fail
          refine HP.out.mono ?_
          rintro e w9 hr
          obtain ⟨rfl, hn⟩ := HK.out.ret HD2.out hr
          have HN := hid hn
          clear hr hn HP HD2 HK
          go_wp2
          go_roundw
          case rel => exact ⟨q + 1, hqk, by go_num, HN⟩
          case measure => simp [intOf]; omega
        · have hqe : q = k := by omega
          subst hqe
          rw [low_none] at HK
          obtain ⟨D, hD1, hD2⟩ := HK.out.tr
          have hLN := tlen_calls hD1
          rw [cnt_none] at hLN
          have HLN := hid hLN
          clear hD1 hD2 hLN
          go_wp2_with fail
          refine HLN.out.mono ?_
          rintro e w6 ⟨rfl, hb⟩
          replace HK := hid (HK.out.keep hb)
          clear hb HLN
          obtain ⟨D, hD1, hD2⟩ := HK.out.tr
          have hHT := theight_calls hD1
          rw [cnt_none] at hHT
          have HHT := hid hHT
          clear hD1 hD2 hHT
          go_wp2_with fail
          refine HHT.out.mono ?_
          rintro e w7 ⟨z3, rfl, hz, hb⟩
          obtain rfl : z3 = 0 := hz.1 rfl
          replace HK := hid (HK.out.keep hb)
          clear hb HHT hz
          obtain ⟨D, hD1, hD2⟩ := HK.out.tr
          have hPR := tpairs_calls hD1
          rw [prs_none] at hPR
          have HPR := hid hPR
          clear hD1 hD2 hPR
          go_wp2_with fail
          refine HPR.out.mono ?_
          rintro e w9 ⟨A9, n9, c9, rfl, hs, hb⟩
          obtain rfl : n9 = 0 := hs.len
          have hB := keepBelow hb HK.out.bel
          clear hb HPR hs HK
          go_wp2
          go_returns
          exact ret_bool (by simp) hB
end
end Go.Proofs.Ytiaoandbdgdecaa
