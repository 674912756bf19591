/- Contracts for RayHits: inside, its closures, ContainsFunc and Contains of integers. -/
import Derived.Test.YtienmhgbildhhaaB45
import Derived.Test.YtienmhgbildhhaaB17
namespace Go.Proofs.Ytienmhgbildhhaa
section
set_option linter.unusedVariables false
set_option linter.unusedSimpArgs false
open Go.RowKit
theorem keepCE {w w' : World} {ba off : Nat} {L : List BE} (hb : Below w.heap.size w w') (h : CellsE layB w ba off L) : CellsE layB w' ba off L := h.below hb
set_option maxRecDepth 100000 in
set_option maxHeartbeats 4000000 in
theorem kinside_calls (b : Bd) (A : Option Addr) (n c : Nat) (l : List V) (x y : Int) (w : World) (hE : bodyE b l = 0) (hw : withinB 65536000 x y = true) (hS : Sl w A n c l) :
    Calls Try.prog 36 #[bodyV b A n c, vecV x y] w (Ret (.bool (hasB (placeL b l) x y)) w) := by
  have hok := placed_ok hE
  obtain ⟨l8, l3, lw, -⟩ := checkE_zero hok
  have HLW := hid lw
  obtain ⟨hx1, hx2, hy1, hy2⟩ := withinB_iff.1 hw
  obtain ⟨W, hW⟩ : ∃ W, W = (w.alloc (.cells #[.int .i64 b.px, .int .i64 b.py, .int .i64 b.vx, .int .i64 b.vy, .int .i64 b.ang, .int .i64 b.spin, .int .i64 b.mass, .int .i64 b.iner, .int .i64 b.bounce, .int .i64 b.rub, .slice A n c, .bool b.asleep, .int .i64 b.calm] 27)).alloc (.cells #[.int .i64 x, .int .i64 y] 24) := ⟨_, rfl⟩
  have x0 : W.cell? ⟨w.heap.size + 1, 0, none⟩ = some (.int .i64 x) := by rw [hW]; go_simp
  have x1 : W.cell? ⟨w.heap.size + 1, 1, none⟩ = some (.int .i64 y) := by rw [hW]; go_simp
  have hB : Below w.heap.size w W := by rw [hW]; go_grown
  have HSW : Hid (Sl W A n c l) := by show Sl _ _ _ _ _; rw [hW]; exact (hS.alloc _).alloc _
  have HPR : Hid (placeR b l = placeL b l) := by show _ = _; unfold placeR; rw [if_neg (by simp [hE])]
  have HR : Hid (hasB (placeL b l) x y = true ↔ ∀ i, i < (placeL b l).length → 0 ≤ edgeP (placeL b l) i x y) := by
    show _ ↔ _
    unfold hasB
    rw [decide_eq_true hok, hw]
    simp
  clear hS hok hw
  go_enter Try.func36, Try.ntmps36
  go_wp2_with fail
  rw [← hW]
  clear hW
  refine (bplace_calls b A n c l _ HSW.out).mono ?_
  rintro e w1 ⟨A1, n1, c1, rfl, hs, -, -, hb⟩
  rw [HPR.out] at hs
  generalize placeL b l = P at *
  replace x0 := keepCell hb x0
  replace x1 := keepCell hb x1
  replace hB := keepBelow hb hB
  have HP := hid hs
  obtain rfl : n1 = P.length := hs.len
  have hcap := hs.cap
  have hbig := hs.big
  have HX0 := hid (fun (w' : World) (hb : Below w1.heap.size w1 w') => And.intro (keepCell hb x0) (keepCell hb x1))
  clear hs hb HPR HSW x0 x1 hE
  go_wp2
  go_loopw [13] (fun i wr => ∃ k : Nat, k ≤ P.length ∧ i = .int .i64 k ∧ (∀ j, j < k → 0 ≤ edgeP P j x y) ∧ Below w1.heap.size w1 wr) (fun i _ => P.length - (intOf i).toNat)
  case atStart => exact ⟨0, Nat.zero_le _, rfl, fun j hj => absurd hj (by omega), Below.refl _ _⟩
  case round =>
    obtain ⟨k, hk, rfl, hno, hB1⟩ := hrel
    obtain ⟨wo, rfl⟩ : ∃ wo : World, wo = wr := ⟨_, rfl⟩
    have HN := hid hno
    clear hno
    obtain ⟨x0, x1⟩ := HX0.out _ hB1
    have hg2 := lt_of_cell x0
    have hg3 : ¬ w.heap.size = wo.heap.size := by omega
    have hg4 : w.heap.size < wo.heap.size := by omega
    by_cases hlt : k < P.length
    · obtain ⟨b1, off, hA, hC⟩ := (HP.out.below hB1).at_ (by intro h; subst h; simp at hlt)
      subst hA
      obtain ⟨j, hj⟩ : ∃ j, j = (k + 1) % P.length := ⟨_, rfl⟩
      have hjl : j < P.length := by rw [hj]; exact Nat.mod_lt _ (by omega)
      have c0 := hC.x k hlt
      have c1' := hC.y k hlt
      have d0 := hC.x j hjl
      have d1 := hC.y j hjl
      have hbo := hC.lt
      obtain ⟨a1, a2, a3, a4⟩ := withinB_iff.1 (allWithin_at HLW.out hlt)
      obtain ⟨e1, e2, e3, e4⟩ := withinB_iff.1 (allWithin_at HLW.out hjl)
      have HED : Hid (edgeP P k x y = (px P j - px P k) * (y - py P k) - (py P j - py P k) * (x - px P k)) := by show _ = _; unfold edgeP sideZ; rw [← hj]
      have hlt' : (k : Int) < (P.length : Int) := by omega
      have hkw : IntKind.i64.wrap ((k : Int) + 1) = (k : Int) + 1 := IntWalk.i64_in _ (by omega)
      have hmod : ((k : Int) + 1).tmod (P.length : Int) = (j : Int) := by
        rw [hj, show ((k : Int) + 1) = ((k + 1 : Nat) : Int) by omega, ← Int.ofNat_tmod]
      have hjl' : (j : Int) < (P.length : Int) := by omega
      have hn0 : ¬ ((P.length : Int) = 0) := by omega
      have hjw : IntKind.i64.wrap (j : Int) = (j : Int) := IntWalk.i64_in _ (by omega)
      generalize px P k = ax at *
      generalize py P k = ay at *
      generalize px P j = bx at *
      generalize py P j = by_ at *
      have s1 : IntKind.i64.wrap (bx - ax) = bx - ax := IntWalk.i64_in _ (by omega)
      have s2 : IntKind.i64.wrap (by_ - ay) = by_ - ay := IntWalk.i64_in _ (by omega)
      have s3 : IntKind.i64.wrap (y - ay) = y - ay := IntWalk.i64_in _ (by omega)
      have s4 : IntKind.i64.wrap (x - ax) = x - ax := IntWalk.i64_in _ (by omega)
      obtain ⟨m1, m1'⟩ := mul_bd (x := bx - ax) (y := y - ay) (M := 131072000) (N := 131072000) (by omega) (by omega) (by omega) (by omega)
      obtain ⟨m2, m2'⟩ := mul_bd (x := by_ - ay) (y := x - ax) (M := 131072000) (N := 131072000) (by omega) (by omega) (by omega) (by omega)
      have s5 : IntKind.i64.wrap ((bx - ax) * (y - ay)) = (bx - ax) * (y - ay) := IntWalk.i64_in _ (by omega)
      have s6 : IntKind.i64.wrap ((by_ - ay) * (x - ax)) = (by_ - ay) * (x - ax) := IntWalk.i64_in _ (by omega)
      have s7 : IntKind.i64.wrap ((bx - ax) * (y - ay) - (by_ - ay) * (x - ax)) = (bx - ax) * (y - ay) - (by_ - ay) * (x - ax) := IntWalk.i64_in _ (by omega)
      have hB2 := keepBelow hB1 hB
      have hsz1 := hB1.size
      clear hC hj
      by_cases hneg : (bx - ax) * (y - ay) - (by_ - ay) * (x - ax) < 0
      · have HF : Hid (hasB P x y = false) := by
          show _ = _
          rw [← Bool.not_eq_true, HR.out]
          intro h
          have := h k hlt
          rw [HED.out] at this
          omega
        clear HED HN
        go_wp2
        go_returns
        exact ret_bool HF.out.symm (by go_grown)
      · have HN2 : Hid (∀ i, i < k + 1 → 0 ≤ edgeP P i x y) := fun i hi => by
          rcases Nat.lt_or_ge i k with g | g
          · exact HN.out i g
          · rw [show i = k by omega, HED.out]; omega
        clear HED HN
        go_wp2
        go_roundw
        case rel => exact ⟨k + 1, by omega, by go_num, HN2.out, by go_grown⟩
        case measure => simp [intOf]; omega
    · have hkn : k = P.length := by omega
      subst hkn
      have HT : Hid (hasB P x y = true) := HR.out.2 (fun i hi => HN.out i hi)
      have hpos : (0 : Int) < (P.length : Int) := by omega
      have hB2 := keepBelow hB1 hB
      clear HN HR
      go_wp2
      go_returns
      exact ret_bool (by rw [HT.out]; simp; omega) hB2
set_option maxRecDepth 100000 in
set_option maxHeartbeats 1000000 in
theorem indexI_calls (A : Option Addr) (n c : Nat) (l : List Int) (z : Int) (hz : z ∈ l) (w : World) (hS : SlI w A n c l) :
    Calls Try.prog 104 #[.slice A n c, .int .i64 z] w (fun e w' => ∃ i : Nat, i < l.length ∧ e = .returned (.int .i64 (i : Int)) ∧ Below w.heap.size w w') := by
  obtain ⟨hn, hcap, hbig, hat⟩ := hS
  subst hn
  go_enter Try.func104, Try.ntmps104
  go_wp2
  go_loopw [8] (fun i wr => ∃ k : Nat, k ≤ l.length ∧ i = .int .i64 k ∧ (∀ j (hj : j < l.length), j < k → l[j] ≠ z) ∧ Below w.heap.size w wr) (fun i _ => l.length - (intOf i).toNat)
  case atStart => exact ⟨0, Nat.zero_le _, rfl, fun j _ hj => absurd hj (by omega), Below.refl _ _⟩
  case round =>
    obtain ⟨k, hk, rfl, hno, hB⟩ := hrel
    obtain ⟨wo, rfl⟩ : ∃ wo : World, wo = wr := ⟨_, rfl⟩
    have HN := hid hno
    clear hno
    by_cases hlt : k < l.length
    · obtain ⟨b, off, rfl, hbl, hC⟩ := hat (by intro h; subst h; simp at hlt)
      have c0 : wo.cell? ⟨b, off + k, none⟩ = some (.int .i64 l[k]) := by have := hC k hlt; exact ((bcell hB).1 _ _ hbl).trans (by rw [List.getD_eq_getElem?_getD, List.getElem?_eq_getElem hlt] at this; exact this)
      have hlt' : (k : Int) < (l.length : Int) := by omega
      have hkw : IntKind.i64.wrap ((k : Int) + 1) = (k : Int) + 1 := IntWalk.i64_in _ (by omega)
      have HNX : Hid (l[k] ≠ z → ∀ j (hj : j < l.length), j < k + 1 → l[j] ≠ z) := fun e j hj h => by
        rcases Nat.lt_or_ge j k with g | g
        · exact HN.out j hj g
        · have : j = k := by omega
          subst this
          exact e
      generalize l[k] = v at *
      clear hat hC HN
      by_cases hv : z = v
      · clear HNX
        go_wp2
        go_returns
        exact ⟨k, hlt, rfl, hB⟩
      · have HR := hid (HNX.out (fun h => hv h.symm))
        clear HNX
        go_wp2
        go_roundw
        case rel => exact ⟨k + 1, by omega, by go_num, HR.out, hB⟩
        case measure => simp [intOf]; omega
    · exfalso
      obtain ⟨j, hj, rfl⟩ := List.getElem_of_mem hz
      exact HN.out j hj (by omega) rfl
theorem containsI_calls (A : Option Addr) (n c : Nat) (l : List Int) (z : Int) (hz : z ∈ l) (w : World) (hS : SlI w A n c l) :
    Calls Try.prog 38 #[.slice A n c, .int .i64 z] w (Ret (.bool true) w) := by
  go_enter Try.func38, Try.ntmps38
  go_wp2_with fail
  refine (indexI_calls A n c l z hz _ hS).mono ?_
  rintro e w1 ⟨i, hi, rfl, hb⟩
  have h0 : 0 ≤ (i : Int) := by omega
  clear hS hz
  go_wp2
  go_returns
  exact ret_bool (by simp) hb
set_option maxRecDepth 100000 in
set_option maxHeartbeats 1000000 in
theorem indexFuncI_none (F : Nat) (c1 c2 : Value) (hcf : ∀ (args : Array Value) (w : World), (callFunc F args).run Try.prog w = .ok (.enter F args) w) (A : Option Addr) (n c : Nat) (l : List Int) (w : World) (hg : ∀ k w', Below w.heap.size w w' → Calls Try.prog F #[.int .i64 k, c1, c2] w' (Ret (.bool false) w')) (hS : SlI w A n c l) :
    Calls Try.prog 103 #[.slice A n c, .func (.func F) #[] #[c1, c2]] w (Ret (.int .i64 (-1)) w) := by
  obtain ⟨hn, hcap, hbig, hat⟩ := hS
  subst hn
  go_enter Try.func103, Try.ntmps103
  go_wp2
  go_loopw [8] (fun i wr => ∃ k : Nat, k ≤ l.length ∧ i = .int .i64 k ∧ Below w.heap.size w wr) (fun i _ => l.length - (intOf i).toNat)
  case atStart => exact ⟨0, Nat.zero_le _, rfl, Below.refl _ _⟩
  case round =>
    obtain ⟨k, hk, rfl, hB⟩ := hrel
    obtain ⟨wo, rfl⟩ : ∃ wo : World, wo = wr := ⟨_, rfl⟩
    have HG := hid hg
    clear hg
    by_cases hlt : k < l.length
    · obtain ⟨b, off, rfl, hbl, hC⟩ := hat (by intro h; subst h; simp at hlt)
      have c0 : wo.cell? ⟨b, off + k, none⟩ = some (.int .i64 l[k]) := by have := hC k hlt; exact ((bcell hB).1 _ _ hbl).trans (by rw [List.getD_eq_getElem?_getD, List.getElem?_eq_getElem hlt] at this; exact this)
      have hlt' : (k : Int) < (l.length : Int) := by omega
      have hkw : IntKind.i64.wrap ((k : Int) + 1) = (k : Int) + 1 := IntWalk.i64_in _ (by omega)
      generalize l[k] = v at *
      clear hat hC
      go_wp2_with fail
      refine (HG.out _ _ hB).mono ?_
      rintro e w1 ⟨rfl, hb1⟩
      have hB1 := hB.trans (hb1.mono hB.size)
      clear hb1
      go_wp2
      go_roundw
      case rel => exact ⟨k + 1, by omega, by go_num, hB1⟩
      case measure => simp [intOf]; omega
    · clear hat HG
      go_wp2
      go_returns
      exact ret_int rfl hB
theorem containsFuncI_none (F : Nat) (c1 c2 : Value) (hcf : ∀ (args : Array Value) (w : World), (callFunc F args).run Try.prog w = .ok (.enter F args) w) (A : Option Addr) (n c : Nat) (l : List Int) (w : World) (hg : ∀ k w', Below w.heap.size w w' → Calls Try.prog F #[.int .i64 k, c1, c2] w' (Ret (.bool false) w')) (hS : SlI w A n c l) :
    Calls Try.prog 34 #[.slice A n c, .func (.func F) #[] #[c1, c2]] w (Ret (.bool false) w) := by
  have HG := hid hg
  clear hg
  go_enter Try.func34, Try.ntmps34
  go_wp2_with (go_at_call 103; refine (indexFuncI_none F c1 c2 hcf _ _ _ l _ HG.out hS).mono ?_; rintro e w1 ⟨rfl, hb⟩)
  go_returns
  exact ret_bool (by simp) hb
end
end Go.Proofs.Ytienmhgbildhhaa
