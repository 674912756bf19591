/- The walk of BoxtreeOrder. -/
import Derived.Test.YtiaoandbdgdecaaPT38
namespace Go.Proofs.Ytiaoandbdgdecaa
section
set_option linter.unusedVariables false
set_option linter.unusedSimpArgs false
open Go.RowKit

structure OrdS (w0 : World) (ga gb B : Nat) (l : List Bx) (A : Option Addr) (c : Nat) (Fa Fb : Nat → Option Bx) (wr : World) : Prop where
  tr : ∃ D E, TrA wr ga D Fa ∧ TrA wr gb E Fb ∧ (∀ k, D k → ¬ E k) ∧ (∀ k, D k → B ≤ k) ∧ (∀ k, E k → B ≤ k)
  sl : SlE layBox wr A l.length c l
  fr : ∀ b off, A = some ⟨b, off, none⟩ → b < B
  bel : Below w0.heap.size w0 wr
  sz : w0.heap.size ≤ B ∧ B ≤ wr.heap.size
theorem TrA.lt {w : World} {g : Nat} {D : Nat → Prop} {F : Nat → Option Bx} (h : TrA w g D F) : ∀ k, D k → k < w.heap.size := by
  obtain ⟨s, T, m, hW, h1, h2, h3⟩ := h
  exact h2
theorem OrdS.keep {w0 : World} {ga gb B : Nat} {l : List Bx} {A : Option Addr} {c : Nat} {Fa Fb : Nat → Option Bx} {wr w' : World} (hb : Below wr.heap.size wr w') (h : OrdS w0 ga gb B l A c Fa Fb wr) : OrdS w0 ga gb B l A c Fa Fb w' := by
  obtain ⟨⟨D, E, h1, h2, h3⟩, hs, hf, hB, h4⟩ := h
  exact ⟨⟨D, E, TrA.below hb h1, TrA.below hb h2, h3⟩, hs.below hb, hf, keepBelow hb hB, h4.1, Nat.le_trans h4.2 hb.size⟩
theorem OrdS.retA {w0 : World} {ga gb B : Nat} {l : List Bx} {A : Option Addr} {c : Nat} {Fb Fa' : Nat → Option Bx} {wr w' : World} {D E : Nat → Prop} (hb : TrA wr gb E Fb) (hde : ∀ k, D k → ¬ E k) (hd : ∀ k, D k → B ≤ k) (hE : ∀ k, E k → B ≤ k)
    (hs : SlE layBox wr A l.length c l) (hf : ∀ b off, A = some ⟨b, off, none⟩ → b < B) (hB : Below w0.heap.size w0 wr) (hz : w0.heap.size ≤ B ∧ B ≤ wr.heap.size) {z : Int} {e : Ending} (hr : RetTr ga D Fa' z wr e w') : e = .returned (.int .i64 z) ∧ OrdS w0 ga gb B l A c Fa' Fb w' := by
  obtain ⟨rfl, D', h1, o, h2⟩ := hr
  refine ⟨rfl, ⟨D', E, h1, hb.out o (fun k hk q => hde k q hk), fun k hk he => ?_, fun k hk => ?_, hE⟩, hs.outB o (fun b off e q => ?_), hf, hB.trans (below_out o (fun k q => ?_) (by omega)), hz.1, Nat.le_trans hz.2 o.size⟩
  · rcases h2 k hk with q | q
    · exact hde k q he
    · have := hb.lt k he; omega
  · rcases h2 k hk with q | q
    · exact hd k q
    · omega
  · have := hf b off e
    have := hd b q
    omega
  · have := hd k q
    omega
theorem OrdS.swap {w0 : World} {ga gb B : Nat} {l : List Bx} {A : Option Addr} {c : Nat} {Fa Fb : Nat → Option Bx} {wr : World} (h : OrdS w0 ga gb B l A c Fa Fb wr) : OrdS w0 gb ga B l A c Fb Fa wr := by
  obtain ⟨⟨D, E, h1, h2, h3, h4, h5⟩, hs, hf, hB, h6⟩ := h
  exact ⟨⟨E, D, h2, h1, fun k he hd => h3 k hd he, h5, h4⟩, hs, hf, hB, h6⟩
theorem OrdS.putA {w0 : World} {ga gb B : Nat} {l : List Bx} {A : Option Addr} {c : Nat} {Fa Fb : Nat → Option Bx} {wr : World} (h : OrdS w0 ga gb B l A c Fa Fb wr) {i : Nat} (hi : i < 256) (b1 b2 b3 b4 : Int) (hv : vldB ((b1, b2), (b3, b4)) = true) :
    Calls Try.prog 10 #[.pointer (some ⟨ga, 0, none⟩), .int .i64 (i : Nat), bxV ((b1, b2), (b3, b4))] wr (fun e w' => e = .returned (.int .i64 0) ∧ OrdS w0 ga gb B l A c (upF Fa i (some ((b1, b2), (b3, b4)))) Fb w') := by
  obtain ⟨⟨D, E, h1, h2, h3, h4, h5⟩, hs, hf, hB, h6⟩ := h
  exact (tput_calls h1 hi b1 b2 b3 b4 hv).mono fun e w' hr => OrdS.retA h2 h3 h4 h5 hs hf hB h6 hr
theorem OrdS.putB {w0 : World} {ga gb B : Nat} {l : List Bx} {A : Option Addr} {c : Nat} {Fa Fb : Nat → Option Bx} {wr : World} (h : OrdS w0 ga gb B l A c Fa Fb wr) {i : Nat} (hi : i < 256) (b1 b2 b3 b4 : Int) (hv : vldB ((b1, b2), (b3, b4)) = true) :
    Calls Try.prog 10 #[.pointer (some ⟨gb, 0, none⟩), .int .i64 (i : Nat), bxV ((b1, b2), (b3, b4))] wr (fun e w' => e = .returned (.int .i64 0) ∧ OrdS w0 ga gb B l A c Fa (upF Fb i (some ((b1, b2), (b3, b4)))) w') :=
  (h.swap.putA hi b1 b2 b3 b4 hv).mono fun e w' hr => ⟨hr.1, hr.2.swap⟩
theorem OrdS.dropB {w0 : World} {ga gb B : Nat} {l : List Bx} {A : Option Addr} {c : Nat} {Fa Fb : Nat → Option Bx} {wr : World} (h : OrdS w0 ga gb B l A c Fa Fb wr) {i : Nat} (hi : i < 256) {b : Bx} (hF : Fb i = some b) :
    Calls Try.prog 13 #[.pointer (some ⟨gb, 0, none⟩), .int .i64 (i : Nat)] wr (fun e w' => e = .returned (.int .i64 0) ∧ OrdS w0 ga gb B l A c Fa (upF Fb i none) w') := by
  obtain ⟨⟨D, E, h1, h2, h3, h4, h5⟩, hs, hf, hB, h6⟩ := h.swap
  exact (tdrop_calls h1 hi hF).mono fun e w' hr => by
    obtain ⟨q1, q2⟩ := OrdS.retA h2 h3 h4 h5 hs hf hB h6 hr
    exact ⟨q1, q2.swap⟩
theorem OrdS.lenA {w0 : World} {ga gb B : Nat} {l : List Bx} {A : Option Addr} {c : Nat} {Fa Fb : Nat → Option Bx} {wr : World} (h : OrdS w0 ga gb B l A c Fa Fb wr) : Calls Try.prog 11 #[.pointer (some ⟨ga, 0, none⟩)] wr (Ret (.int .i64 (cntF Fa : Nat)) wr) := by
  obtain ⟨⟨D, E, h1, -⟩, -⟩ := h
  exact tlen_calls h1
theorem OrdS.pairsA {w0 : World} {ga gb B : Nat} {l : List Bx} {A : Option Addr} {c : Nat} {Fa Fb : Nat → Option Bx} {wr : World} (h : OrdS w0 ga gb B l A c Fa Fb wr) : Calls Try.prog 14 #[.pointer (some ⟨ga, 0, none⟩)] wr (RetPrF (prsF Fa tchB 256) wr) := by
  obtain ⟨⟨D, E, h1, -⟩, -⟩ := h
  exact tpairs_calls h1

def prtF (l : List Bx) (k : Nat) : Nat → Option Bx := fun j => if j < k then l[j]? else none
theorem prt_up {l : List Bx} {k : Nat} (h : k < l.length) : upF (prtF l k) k (some (bxAt l k)) = prtF l (k + 1) := by
  funext j
  show (if j = k then _ else prtF l k j) = _
  unfold prtF
  by_cases e : j = k
  · subst e
    rw [if_pos rfl, if_pos (Nat.lt_succ_self _), List.getElem?_eq_getElem h]
    unfold bxAt
    rw [List.getD_eq_getElem?_getD, List.getElem?_eq_getElem h]
    rfl
  · rw [if_neg e]
    by_cases q : j < k
    · rw [if_pos q, if_pos (by omega)]
    · rw [if_neg q, if_neg (by omega)]
theorem prt_all (l : List Bx) : prtF l l.length = fun j => l[j]? := by
  funext j
  unfold prtF
  split
  · rfl
  · rw [List.getElem?_eq_none (by omega)]
theorem prt_zero (l : List Bx) : prtF l 0 = fun _ => none := by
  funext j
  unfold prtF
  rw [if_neg (by omega)]
theorem prt_cnt (l : List Bx) (hl : l.length ≤ 256) : ∀ k, k ≤ l.length → cntF (prtF l k) = k
  | 0, _ => by rw [prt_zero]; exact cnt_none
  | k + 1, h => by
    have ih := prt_cnt l hl k (by omega)
    have := cnt_up (F := prtF l k) (i := k) (by omega) (some (bxAt l k))
    rw [prt_up (by omega), ih, show prtF l k k = none by unfold prtF; rw [if_neg (by omega)]] at this
    simpa using this

def DonF (l : List Bx) (k : Nat) (F : Nat → Option Bx) : Prop := ∀ j, k ≤ j → F j = l[j]?
theorem don_step {l : List Bx} {k : Nat} {F : Nat → Option Bx} (hk : k < l.length) (hl : l.length ≤ 24) (h : DonF l (k + 1) F) (b0 : Bx) : DonF l k (upF (upF (upF F k (some (bxAt l k))) (200 + k) (some b0)) (200 + k) none) := fun j hj => by
  unfold upF
  by_cases e : j = 200 + k
  · rw [if_pos e, List.getElem?_eq_none (by omega)]
  · rw [if_neg e, if_neg e]
    by_cases q : j = k
    · subst q
      rw [if_pos rfl, List.getElem?_eq_getElem hk]
      unfold bxAt
      rw [List.getD_eq_getElem?_getD, List.getElem?_eq_getElem hk]
      rfl
    · rw [if_neg q]; exact h j (by omega)
theorem don_all {l : List Bx} {F : Nat → Option Bx} (h : DonF l 0 F) : F = fun j => l[j]? := funext fun j => h j (Nat.zero_le _)
theorem ok_at {l : List Bx} (h : ∀ b ∈ l, okB b) {k : Nat} (hk : k < l.length) : vldB (bxAt l k) = true := by
  have e : bxAt l k = l[k] := by unfold bxAt; simp [hk]
  rw [e]
  exact (h _ (List.getElem_mem hk)).1
set_option maxRecDepth 100000 in
set_option maxHeartbeats 16000000 in
theorem boxtreeOrder_walk (A : Option Addr) (n c : Nat) (r : List Int) (z : Int) (w : World) (hS : SlI w A n c r) : Calls Try.prog 5 #[.slice A n c, .int .i64 z] w (Ret (.bool true) w) := by
  have HSI := hid hS
  clear hS
  go_enter Try.func5, Try.ntmps5
  go_wp2_with fail
  refine (tkgrows_calls _).mono ?_
  rintro e w1 ⟨rfl, hb⟩
  have HS1 := hid (HSI.out.below hb)
  have HB1 := hid hb
  clear hb HSI
  go_wp2_with fail
  refine (boxesB_calls A n c r _ HS1.out).mono ?_
  rintro e w2 ⟨l, A2, n2, c2, rfl, ho, hl24, hok, hb⟩
  have HB2 := hid (keepBelow hb HB1.out)
  have HOK := hid hok
  obtain ⟨A9, n9, c9, hse, hsl, -⟩ := ho.sl
  cases hse
  obtain rfl : n2 = l.length := hsl.len
  have HFR : Hid (∀ b off, A2 = some ⟨b, off, none⟩ → b < w2.heap.size) := fun b off e => by
    rcases ho.form with ⟨h1, -⟩ | ⟨g, cap, h1, -, h2, -⟩
    · injection h1 with e1 e2 e3
      rw [e1] at e; cases e
    · injection h1 with e1 e2 e3
      rw [e1] at e; cases e; exact h2
  have HSL := hid hsl
  clear hb ho hok HS1 HB1 hsl
  go_wp2_with fail
  refine (tnew_calls _).mono ?_
  rintro e w3 ⟨ga, rfl, hga, hta, hba⟩
  have HA3 := hid hta
  have HBA := hid hba
  have HGA := hid hga
  clear hta hba hga
  go_wp2_with fail
  refine (tnew_calls _).mono ?_
  rintro e w4 ⟨gb, rfl, hgb, htb, hbb⟩
  have HO : Hid (OrdS w ga gb w2.heap.size l A2 c2 (prtF l 0) (fun _ => none) w4) := by
    have h1 := HA3.out.lt ga rfl
    have h2 := HGA.out
    rw [prt_zero]
    exact ⟨⟨_, _, TrA.below hbb HA3.out, htb, fun k (q1 : k = ga) (q2 : k = gb) => by omega, fun k (q : k = ga) => by omega, fun k (q : k = gb) => by have := HBA.out.size; omega⟩, (HSL.out.below HBA.out).below hbb, HFR.out, keepBelow hbb (keepBelow HBA.out HB2.out), HB2.out.size, Nat.le_trans HBA.out.size hbb.size⟩
  clear htb hbb hgb HA3 HBA HGA HSL HB2 HFR
  go_wp2
  go_loopw [21] (fun j wr => ∃ k : Nat, k ≤ l.length ∧ j = .int .i64 k ∧ Hid (OrdS w ga gb w2.heap.size l A2 c2 (prtF l k) (fun _ => none) wr)) (fun j _ => l.length - (intOf j).toNat)
  case atStart => exact ⟨0, Nat.zero_le _, rfl, HO⟩
  case round =>
    clear HO
    obtain ⟨k, hk, rfl, HK⟩ := hrel
    obtain ⟨wo, rfl⟩ : ∃ wo : World, wo = wr := ⟨_, rfl⟩
    by_cases hlt : k < l.length
    · have hlt' : (k : Int) < (l.length : Int) := by omega
      have hwk : IntKind.i64.wrap ((k : Int) + 1) = (k : Int) + 1 := IntWalk.i64_in _ (by omega)
      obtain ⟨bl, off, hA, hC⟩ := HK.out.sl.at_ (by intro q; rw [q] at hlt; simp at hlt)
      subst hA
      obtain ⟨d0, d1, d2, d3⟩ := hC.box hlt
      have hv := ok_at HOK.out hlt
      have hup := prt_up hlt
      generalize bxAt l k = b at *
      obtain ⟨⟨b1, b2⟩, b3, b4⟩ := b
      dsimp only at d0 d1 d2 d3
      have ld := lt_of_cell d0
      obtain ⟨w6, hw6⟩ : ∃ x, x = wo.alloc (.cells #[.int .i64 b1, .int .i64 b2, .int .i64 b3, .int .i64 b4] 32) := ⟨_, rfl⟩
      obtain ⟨gx, hgx⟩ : ∃ x, x = wo.heap.size := ⟨_, rfl⟩
      have hb6 : Below wo.heap.size wo w6 := by rw [hw6]; go_grown
      have x0 : w6.cell? ⟨gx, 0, none⟩ = some (.int .i64 b1) := by rw [hw6, hgx]; go_simp
      have x1 : w6.cell? ⟨gx, 1, none⟩ = some (.int .i64 b2) := by rw [hw6, hgx]; go_simp
      have x2 : w6.cell? ⟨gx, 2, none⟩ = some (.int .i64 b3) := by rw [hw6, hgx]; go_simp
      have x3 : w6.cell? ⟨gx, 3, none⟩ = some (.int .i64 b4) := by rw [hw6, hgx]; go_simp
      have lx := lt_of_cell x0
      have HP := hid ((HK.out.keep hb6).putA (i := k) (by omega) b1 b2 b3 b4 hv)
      rw [hup] at HP
      clear hup hv hb6 hC HK
      go_upto_region 8 with fail
      rw [← hw6, ← hgx]
      clear hw6 hgx d0 d1 d2 d3 ld
      go_wp2_with fail
      refine HP.out.mono ?_
      rintro e w8 ⟨rfl, hn⟩
      have HN := hid hn
      clear hn HP x0 x1 x2 x3 lx
      go_wp2
      go_roundw
      case rel => exact ⟨k + 1, hlt, by go_num, HN⟩
      case measure => simp [intOf]; omega
    · have hke : k = l.length := by omega
      subst hke
      have HO1 : Hid (∃ F, (∀ j, l.length ≤ j → F j = none) ∧ OrdS w ga gb w2.heap.size l A2 c2 (prtF l l.length) F wo) := ⟨_, fun _ _ => rfl, HK.out⟩
      clear HK
      go_wp2
      go_loopw [34] (fun j wr => ∃ k : Nat, k ≤ l.length ∧ j = .int .i64 k ∧ Hid (∃ F, (∀ j, l.length ≤ j → F j = none) ∧ OrdS w ga gb w2.heap.size l A2 c2 (prtF l l.length) F wr)) (fun j _ => l.length - (intOf j).toNat)
      case atStart => exact ⟨0, Nat.zero_le _, rfl, HO1⟩
      case round =>
        clear HO1
        obtain ⟨k, hk, rfl, HK⟩ := hrel
        obtain ⟨wo, rfl⟩ : ∃ wo : World, wo = wr := ⟨_, rfl⟩
        by_cases hlt : k < l.length
        · have hlt' : (k : Int) < (l.length : Int) := by omega
          have hwk : IntKind.i64.wrap ((k : Int) + 1) = (k : Int) + 1 := IntWalk.i64_in _ (by omega)
          obtain ⟨t, ht⟩ : ∃ t : Nat, (t : Int) = z % (l.length : Int) := ⟨(z % (l.length : Int)).toNat, by have := Int.emod_nonneg z (show (l.length : Int) ≠ 0 by omega); omega⟩
          have htl : t < l.length := by have := Int.emod_lt_of_pos z (show (0 : Int) < (l.length : Int) by omega); omega
          have HTB := hid (fun w => tbelow_calls z (l.length : Int) (by omega) (by omega) w)
          rw [← ht] at HTB
          have hwt : IntKind.i64.wrap ((k : Int) + (t : Int)) = (k : Int) + (t : Int) := IntWalk.i64_in _ (by omega)
          obtain ⟨q, hq⟩ : ∃ q, q = (k + t) % l.length := ⟨_, rfl⟩
          have hql : q < l.length := by rw [hq]; exact Nat.mod_lt _ (by omega)
          have hmod : ((k : Int) + (t : Int)).tmod (l.length : Int) = (q : Int) := by rw [hq, Int.tmod_eq_emod_of_nonneg (by omega)]; exact (Int.natCast_emod _ _).symm
          have hne0 : ((l.length : Int) == 0) = false := by rw [beq_eq_false_iff_ne]; omega
          obtain ⟨p, hp⟩ : ∃ p, p = l.length - 1 - q := ⟨_, rfl⟩
          have hpl : p < l.length := by omega
          have hpl' : (p : Int) < (l.length : Int) := by omega
          have hw1 : IntKind.i64.wrap ((l.length : Int) - 1) = (l.length : Int) - 1 := IntWalk.i64_in _ (by omega)
          have hw2 : IntKind.i64.wrap ((l.length : Int) - 1 - (q : Int)) = (p : Int) := by rw [IntWalk.i64_in _ (by omega)]; omega
          clear ht hq hp
          go_wp2_with fail
          refine (HTB.out _).mono ?_
          rintro e w5 ⟨rfl, hb⟩
          obtain ⟨F, hF, hO⟩ := HK.out
          have hO5 := hO.keep hb
          have HFN := hid hF
          obtain ⟨bl, off, hA, hC⟩ := hO5.sl.at_ (by intro q; rw [q] at hlt; simp at hlt)
          subst hA
          obtain ⟨d0, d1, d2, d3⟩ := hC.box hpl
          have hv := ok_at HOK.out hpl
          generalize bxAt l p = b at *
          obtain ⟨⟨b1, b2⟩, b3, b4⟩ := b
          dsimp only at d0 d1 d2 d3
          have ld := lt_of_cell d0
          have HP := hid (hO5.putB (i := q) (by omega) b1 b2 b3 b4 hv)
          clear hv hb hO5 hO hF hC HK HTB
          go_wp2_with fail
          refine HP.out.mono ?_
          rintro e w8 ⟨rfl, hn⟩
          have HN : Hid (∃ F, (∀ j, l.length ≤ j → F j = none) ∧ OrdS w ga gb w2.heap.size l (some ⟨bl, off, none⟩) c2 (prtF l l.length) F w8) := ⟨_, fun j hj => by
            unfold upF
            rw [if_neg (by omega)]
            exact HFN.out j hj, hn⟩
          clear hn HP d0 d1 d2 d3 ld HFN
          go_wp2
          go_roundw
          case rel => exact ⟨k + 1, hlt, by go_num, HN⟩
          case measure => simp [intOf]; omega
        · have hke : k = l.length := by omega
          subst hke
          have hw1 : IntKind.i64.wrap ((l.length : Int) - 1) = (l.length : Int) - 1 := IntWalk.i64_in _ (by omega)
          have HO2 : Hid (∃ F, DonF l l.length F ∧ OrdS w ga gb w2.heap.size l A2 c2 (prtF l l.length) F wo) := by
            obtain ⟨F, hF, hO⟩ := HK.out
            exact ⟨F, fun j hj => by rw [hF j hj, List.getElem?_eq_none hj], hO⟩
          clear HK
          go_wp2
          go_loopw [12] (fun j wr => ∃ q : Nat, q ≤ l.length ∧ j = .int .i64 ((q : Int) - 1) ∧ Hid (∃ F, DonF l q F ∧ OrdS w ga gb w2.heap.size l A2 c2 (prtF l l.length) F wr)) (fun j _ => (intOf j + 1).toNat)
          case atStart => exact ⟨l.length, Nat.le_refl _, rfl, HO2⟩
          case round =>
            clear HO2 hw1
            obtain ⟨q, hq, rfl, HK⟩ := hrel
            obtain ⟨wo, rfl⟩ : ∃ wo : World, wo = wr := ⟨_, rfl⟩
            cases q with
            | zero =>
              obtain ⟨F, hF, hO⟩ := HK.out
              have hFe := don_all hF
              subst hFe
              rw [prt_all] at hO
              have hcn : cntF (fun j => l[j]?) = l.length := by rw [← prt_all]; exact prt_cnt l (by omega) _ (Nat.le_refl _)
              have HPE : Hid (prsF (fun j => l[j]?) tchB 256 = pairsL l) := prs_list (fun _ => rfl) (by omega)
              have HCN := hid hcn
              have HO3 := hid hO
              clear hF hO hcn HK hlt hk
              rw [show ((0 : Nat) : Int) - 1 = -1 from rfl]
              have hLN := HO3.out.lenA
              rw [HCN.out] at hLN
              have HLN := hid hLN
              clear hLN
              go_wp2_with fail
              refine HLN.out.mono ?_
              rintro e w5 ⟨rfl, hb⟩
              replace HO3 := hid (HO3.out.keep hb)
              clear hb HLN
              have hLN := HO3.out.swap.lenA
              rw [HCN.out] at hLN
              have HLN := hid hLN
              clear hLN
              go_wp2_with fail
              refine HLN.out.mono ?_
              rintro e w6 ⟨rfl, hb⟩
              replace HO3 := hid (HO3.out.keep hb)
              clear hb HLN HCN
              have hPA := HO3.out.pairsA
              rw [HPE.out] at hPA
              have HPA := hid hPA
              clear hPA
              go_wp2_with fail
              refine HPA.out.mono ?_
              rintro e w7 ⟨A7, n7, c7, rfl, hs7, hb⟩
              replace HO3 := hid (HO3.out.keep hb)
              have HS7 := hid hs7
              clear hb HPA hs7
              have hPA := HO3.out.swap.pairsA
              rw [HPE.out] at hPA
              have HPA := hid hPA
              clear hPA
              go_wp2_with fail
              refine HPA.out.mono ?_
              rintro e w8 ⟨A8, n8, c8, rfl, hs8, hb⟩
              replace HO3 := hid (HO3.out.keep hb)
              have HEQ := hid (equalP_calls A7 A8 n7 c7 n8 c8 _ _ w8 (HS7.out.below hb) hs8)
              clear hb HPA hs8 HS7
              go_wp2_with fail
              refine HEQ.out.mono ?_
              rintro e w9 ⟨rfl, hb⟩
              replace HO3 := hid (HO3.out.keep hb)
              clear hb HEQ
              have hPA := HO3.out.pairsA
              rw [HPE.out] at hPA
              have HPA := hid hPA
              clear hPA
              go_wp2_with fail
              refine HPA.out.mono ?_
              rintro e w10 ⟨A10, n10, c10, rfl, hs10, hb⟩
              replace HO3 := hid (HO3.out.keep hb)
              have HS10 := hid hs10
              have HSP := hid (pairs_calls A2 l.length c2 l w10 HO3.out.sl (by omega))
              clear hb HPA hs10
              go_wp2_with fail
              refine HSP.out.mono ?_
              rintro e w11 ⟨A11, n11, c11, rfl, hs11, -, hb⟩
              replace HO3 := hid (HO3.out.keep hb)
              have HEQ := hid (equalP_calls A10 A11 n10 c10 n11 c11 _ _ w11 (HS10.out.below hb) hs11)
              clear hb HSP hs11 HS10
              go_wp2_with fail
              refine HEQ.out.mono ?_
              rintro e w12 ⟨rfl, hb⟩
              have hB := keepBelow hb HO3.out.bel
              clear hb HEQ HO3
              go_wp2
              go_returns
              exact ret_bool (by simp) hB
            | succ p =>
              have ep : ((p + 1 : Nat) : Int) - 1 = (p : Int) := by omega
              rw [ep]
              have hpl : p < l.length := by omega
              have hpl' : (p : Int) < (l.length : Int) := by omega
              have hwp : IntKind.i64.wrap ((p : Int) - 1) = (p : Int) - 1 := IntWalk.i64_in _ (by omega)
              obtain ⟨p2, hp2⟩ : ∃ p2, p2 = 200 + p := ⟨_, rfl⟩
              have hw200 : IntKind.i64.wrap (200 + (p : Int)) = (p2 : Int) := by rw [IntWalk.i64_in _ (by omega)]; omega
              have hp256 : p2 < 256 := by omega
              have HE2 := hid hp2
              clear hp2
              have h0l : 0 < l.length := by omega
              have h0l' : (0 : Int) < (l.length : Int) := by omega
              have hp0 : (p : Int) ≥ 0 := by omega
              obtain ⟨F, hF, hO⟩ := HK.out
              have HFN := hid hF
              obtain ⟨bl, off, hA, hC⟩ := hO.sl.at_ (by intro q; rw [q] at h0l; simp at h0l)
              subst hA
              obtain ⟨d0, d1, d2, d3⟩ := hC.box hpl
              have hv := ok_at HOK.out hpl
              have hv0 := hid (ok_at HOK.out h0l)
              obtain ⟨b, hbe⟩ : ∃ b, b = bxAt l p := ⟨_, rfl⟩
              rw [← hbe] at d0 d1 d2 d3 hv
              have HBE := hid hbe
              obtain ⟨⟨b1, b2⟩, b3, b4⟩ := b
              dsimp only at d0 d1 d2 d3
              have ld := lt_of_cell d0
              have HP := hid (hO.putB (i := p) (by omega) b1 b2 b3 b4 hv)
              clear hv hO hF hC HK hbe ep
              go_wp2_with fail
              refine HP.out.mono ?_
              rintro e w5 ⟨rfl, hO⟩
              obtain ⟨bl', off', hA, hC⟩ := hO.sl.at_ (by intro q; rw [q] at h0l; simp at h0l)
              cases hA
              obtain ⟨z0, z1, z2, z3⟩ := hC.box h0l
              simp only [Nat.zero_mul, Nat.add_zero] at z0 z1 z2 z3
              have hv := hv0.out
              generalize bxAt l 0 = b at *
              obtain ⟨⟨a1, a2⟩, a3, a4⟩ := b
              dsimp only at z0 z1 z2 z3
              have lc := lt_of_cell z0
              have HP2 := hid (hO.putB (i := p2) hp256 a1 a2 a3 a4 hv)
              clear hv hv0 hO hC HP d0 d1 d2 d3 ld
              go_wp2_with fail
              refine HP2.out.mono ?_
              rintro e w6 ⟨rfl, hO⟩
              have HD := hid (hO.dropB (i := p2) hp256 (upF_at _ _ _))
              clear hO HP2 z0 z1 z2 z3 lc
              go_wp2_with fail
              refine HD.out.mono ?_
              rintro e w7 ⟨rfl, hO⟩
              have HN : Hid (∃ F, DonF l p F ∧ OrdS w ga gb w2.heap.size l (some ⟨bl, off, none⟩) c2 (prtF l l.length) F w7) := ⟨_, by
                have := don_step hpl hl24 HFN.out ((a1, a2), (a3, a4))
                rw [← HBE.out, ← HE2.out] at this
                exact this, hO⟩
              clear hO HD HFN HBE
              go_wp2
              go_roundw
              case rel => exact ⟨p, by omega, rfl, HN⟩
              case measure => simp [intOf]
end
end Go.Proofs.Ytiaoandbdgdecaa
