/- Plain law: a hull contains its points, and is its own hull. Contracts: slices.Index and Contains of vectors, ContainsFunc at a function with one captured variable, the closure of PolyHullOnce. -/
import Derived.Test.YtldlogcpnfmomaaI3
namespace Go.Proofs.Ytldlogcpnfmomaa
set_option linter.unusedVariables false
set_option linter.unusedSimpArgs false
open Go.RowKit

theorem sort_ex : ∀ l : List V, ∃ p : List V, p.Pairwise lowV ∧ ∀ x, x ∈ p ↔ x ∈ l
  | [] => ⟨[], List.Pairwise.nil, fun _ => Iff.rfl⟩
  | a :: l => by
    obtain ⟨p, hp, hm⟩ := sort_ex l
    by_cases ha : a ∈ p
    · exact ⟨p, hp, fun x => by
        rw [List.mem_cons]
        constructor
        · exact fun h => .inr ((hm x).1 h)
        · rintro (rfl | h)
          · exact ha
          · exact (hm x).2 h⟩
    · have key : ∀ q : List V, q.Pairwise lowV → a ∉ q → ∃ r : List V, r.Pairwise lowV ∧ ∀ x, x ∈ r ↔ (x = a ∨ x ∈ q) := by
        intro q
        induction q with
        | nil => exact fun _ _ => ⟨[a], List.pairwise_singleton _ _, fun x => by simp⟩
        | cons b q ih =>
          intro hq hn
          obtain ⟨h1, h2⟩ := List.pairwise_cons.1 hq
          have hab : a ≠ b := fun e => hn (by rw [e]; exact List.mem_cons_self ..)
          rcases lowV_or a b with g | g | g
          · exact ⟨a :: b :: q, List.pairwise_cons.2 ⟨fun x hx => by
              rcases List.mem_cons.1 hx with rfl | hx
              · exact g
              · exact lowV_tr g (h1 x hx), hq⟩, fun x => by simp⟩
          · exact absurd g hab
          · obtain ⟨r, hr, hrm⟩ := ih h2 (fun e => hn (List.mem_cons_of_mem _ e))
            refine ⟨b :: r, List.pairwise_cons.2 ⟨fun x hx => ?_, hr⟩, fun x => ?_⟩
            · rcases (hrm x).1 hx with rfl | hx
              · exact g
              · exact h1 x hx
            · rw [List.mem_cons, hrm, List.mem_cons]
              constructor
              · rintro (h | h | h)
                · exact .inr (.inl h)
                · exact .inl h
                · exact .inr (.inr h)
              · rintro (h | h | h)
                · exact .inr (.inl h)
                · exact .inl h
                · exact .inr (.inr h)
      obtain ⟨r, hr, hrm⟩ := key p hp ha
      exact ⟨r, hr, fun x => by rw [hrm, hm, List.mem_cons]⟩
theorem hull_ok {l : List V} (h : hullE l = 0) : HulOk l (hullL l) ∧ 3 ≤ (hullL l).length ∧ (hullL l).length ≤ 8 ∧ allWithin 65536000 l = true := by
  have hL : hullL l = wrapL l := by unfold hullL; rw [if_pos h]
  have hw : l.length ≤ 64 ∧ allWithin 65536000 l = true ∧ 3 ≤ (wrapL l).length ∧ (wrapL l).length ≤ 8 := by
    unfold hullE at h
    by_cases h1 : 64 < l.length
    · rw [if_pos h1] at h; cases h
    · rw [if_neg h1] at h
      by_cases h2 : allWithin 65536000 l = false
      · rw [if_pos h2] at h; cases h
      · rw [if_neg h2] at h
        by_cases h3 : (wrapL l).length < 3
        · rw [if_pos h3] at h; cases h
        · rw [if_neg h3] at h
          by_cases h4 : 8 < (wrapL l).length
          · rw [if_pos h4] at h; cases h
          · exact ⟨by omega, by simpa using h2, by omega, by omega⟩
  obtain ⟨p, hp, hm⟩ := sort_ex l
  have h2 : 2 ≤ p.length := by
    rcases Nat.lt_or_ge p.length 2 with g | g
    · have := (hul_few hm g).2; omega
    · exact g
  have ho := hul_ok hp hm h2
  rw [hL]
  rw [ho.wrap] at hw ⊢
  exact ⟨ho, hw.2.2.1, hw.2.2.2, hw.2.1⟩
theorem allWithin_mem {m : Int} {l : List V} (h : allWithin m l = true) {x : V} (hx : x ∈ l) : withinB m x.1 x.2 = true := List.all_eq_true.1 h x hx
theorem allWithin_of {m : Int} {l : List V} (h : ∀ x ∈ l, withinB m x.1 x.2 = true) : allWithin m l = true := List.all_eq_true.2 h
theorem hull_check {l : List V} (h : hullE l = 0) : checkE (hullL l) = 0 := by
  obtain ⟨ho, h3, h8, hw⟩ := hull_ok h
  generalize hullL l = D at *
  refine checkE_ok h8 h3 (allWithin_of fun x hx => allWithin_mem hw (ho.mem' x hx)) fun i hi k hk => ?_
  unfold edgeBad
  rw [decide_eq_false_iff_not]
  rintro ⟨a, b, g⟩
  have := ho.out i k hi hk a b
  unfold sd cyP at this
  rw [Nat.mod_eq_of_lt hi, Nat.mod_eq_of_lt hk] at this
  exact absurd this (Int.not_lt.2 g)
theorem hull_has {l : List V} (h : hullE l = 0) {x : V} (hx : x ∈ l) : hasB (hullL l) x.1 x.2 = true := by
  obtain ⟨ho, h3, h8, hw⟩ := hull_ok h
  refine hasB_true (hull_check h) (allWithin_mem hw hx) fun i hi => ?_
  have := ho.left hi hx
  unfold sd cyP at this
  rw [Nat.mod_eq_of_lt hi] at this
  exact this
theorem hull_self {l : List V} (h : hullE l = 0) : hullE (hullL l) = 0 ∧ hullL (hullL l) = hullL l := by
  obtain ⟨ho, h3, h8, hw⟩ := hull_ok h
  have hW : allWithin 65536000 (hullL l) = true := allWithin_of fun x hx => allWithin_mem hw (ho.mem' x hx)
  have e := ho.self.wrap
  have e1 : hullE (hullL l) = 0 := by
    unfold hullE
    rw [if_neg (by omega), if_neg (by rw [hW]; simp), e, if_neg (by omega), if_neg (by omega)]
  refine ⟨e1, ?_⟩
  show (if hullE (hullL l) = 0 then wrapL (hullL l) else []) = hullL l
  rw [if_pos e1, e]

theorem memB_any (l : List V) (x y : Int) : (l.any fun p => decide (p = (x, y))) = decide ((x, y) ∈ l) := by
  rw [Bool.eq_iff_iff, List.any_eq_true, decide_eq_true_iff]
  constructor
  · rintro ⟨p, hp, e⟩; rw [← of_decide_eq_true e]; exact hp
  · intro h; exact ⟨_, h, decide_eq_true rfl⟩
set_option maxRecDepth 100000 in
set_option maxHeartbeats 4000000 in
theorem index_calls (A : Option Addr) (n c : Nat) (l : List V) (x y : Int) (w : World) (hS : Sl w A n c l) : Calls Try.prog 150 #[.slice A n c, vecV x y] w (Ret (.int .i64 (firstIdx (fun p => decide (p = (x, y))) l)) w) := by
  obtain ⟨hn, hcap, hbig, hat⟩ := hS
  subst hn
  obtain ⟨W, hW⟩ : ∃ W, W = w.alloc (.cells #[.int .i64 x, .int .i64 y] 25) := ⟨_, rfl⟩
  have c0 : W.cell? ⟨w.heap.size, 0, none⟩ = some (.int .i64 x) := by rw [hW]; go_simp
  have c1 : W.cell? ⟨w.heap.size, 1, none⟩ = some (.int .i64 y) := by rw [hW]; go_simp
  have hB0 : Below w.heap.size w W := by rw [hW]; go_grown
  go_enter Try.func150, Try.ntmps150
  go_wp2_with fail
  rw [← hW]
  clear hW
  go_loopw [8] (fun i wr => ∃ k : Nat, k ≤ l.length ∧ i = .int .i64 k ∧ noneTo (fun p => decide (p = (x, y))) l k ∧ wr.cell? ⟨w.heap.size, 0, none⟩ = some (.int .i64 x) ∧ wr.cell? ⟨w.heap.size, 1, none⟩ = some (.int .i64 y) ∧ Below w.heap.size w wr) (fun i _ => l.length - (intOf i).toNat)
  case atStart => exact ⟨0, Nat.zero_le _, rfl, noneTo_zero _ _, c0, c1, hB0⟩
  case round =>
    clear c0 c1 hB0
    obtain ⟨k, hk, rfl, hno, k0, k1, hB⟩ := hrel
    obtain ⟨wo, rfl⟩ : ∃ wo : World, wo = wr := ⟨_, rfl⟩
    have HN := hid hno
    clear hno
    by_cases hlt : k < l.length
    · obtain ⟨b, off, rfl, hC⟩ := hat (by intro h; subst h; simp at hlt)
      have hC' := hC.below hB
      have hx := hC'.x k hlt
      have hy := hC'.y k hlt
      have hlt' : (k : Int) < (l.length : Int) := by omega
      have hkw : IntKind.i64.wrap ((k : Int) + 1) = (k : Int) + 1 := IntWalk.i64_in _ (by omega)
      have HHI : Hid (decide ((px l k, py l k) = (x, y)) = true → firstIdx (fun p => decide (p = (x, y))) l = k) := fun e => firstIdx_hit hlt HN.out e
      have HNX : Hid (decide ((px l k, py l k) = (x, y)) = false → noneTo (fun p => decide (p = (x, y))) l (k + 1)) := fun e => noneTo_succ HN.out e
      generalize px l k = ax at *
      generalize py l k = ay at *
      have HQ := run_eqV x y ax ay
      clear hat hC hC' HN
      go_upto_region 4 with fail
      refine wp_region_noPanic ?_
      refine wp_region_U (S := (S2 (fun w' => w'.cell? ⟨w.heap.size, 0, none⟩ = some (.int .i64 x) ∧ w'.cell? ⟨w.heap.size, 1, none⟩ = some (.int .i64 y) ∧ w'.cell? ⟨b, off + k * 2, none⟩ = some (.int .i64 ax) ∧ w'.cell? ⟨b, off + k * 2 + 1, none⟩ = some (.int .i64 ay) ∧ Below w.heap.size w w'))) (T := (fun _ => 0)) (by kernel_rfl) (S2i0 ⟨k0, k1, hx, hy, hB.drew⟩) (fun hH => ?_)
      have hWr1 : Weaker (S2 (fun w' => w'.cell? ⟨w.heap.size, 0, none⟩ = some (.int .i64 x) ∧ w'.cell? ⟨w.heap.size, 1, none⟩ = some (.int .i64 y) ∧ w'.cell? ⟨b, off + k * 2, none⟩ = some (.int .i64 ax) ∧ w'.cell? ⟨b, off + k * 2 + 1, none⟩ = some (.int .i64 ay) ∧ Below w.heap.size w w')) := weaker2 _
      refine Ut 0 11 5 0 0 (v := ?vr1_1) rfl hWr1 hH ?yr1_1 ?_
      case yr1_1 => (intro w' hSw; replace hSw := S2o0 hSw; (try dsimp only at hSw); have q0 := hSw.1; have q1 := hSw.2.1; have q2 := hSw.2.2.1; have q3 := hSw.2.2.2.1; have q4 := hSw.2.2.2.2; go_simp; try (with_reducible rfl))
      simp only [sB, sC]
      refine Ut 1 12 4 0 0 (v := ?vr1_2) rfl hWr1 hH ?yr1_2 ?_
      case yr1_2 => (intro w' hSw; clear hSw; go_simp; try (with_reducible rfl))
      simp only [sB, sC]
      refine Ut 2 13 3 0 0 (v := ?vr1_3) rfl hWr1 hH ?yr1_3 ?_
      case yr1_3 => (intro w' hSw; clear hSw; go_simp; try (with_reducible rfl))
      simp only [sB, sC]
      refine Ut 3 14 2 0 0 (v := ?vr1_4) rfl hWr1 hH ?yr1_4 ?_
      case yr1_4 => (intro w' hSw; clear hSw; go_simp; try (with_reducible rfl))
      simp only [sB, sC]
      refine Ut 4 15 1 0 0 (v := ?vr1_5) rfl hWr1 hH ?yr1_5 ?_
      case yr1_5 => (intro w' hSw; replace hSw := S2o0 hSw; (try dsimp only at hSw); have q0 := hSw.1; have q1 := hSw.2.1; have q2 := hSw.2.2.1; have q3 := hSw.2.2.2.1; have q4 := hSw.2.2.2.2; go_simp; try (with_reducible rfl))
      simp only [sB, sC]
      refine Ut 5 16 0 0 0 (v := ?vr1_6) rfl hWr1 hH ?yr1_6 ?_
      case yr1_6 => (intro w' hSw; clear hSw; go_simp; try (with_reducible rfl))
      simp only [sB, sC]
      refine wpAnyU_done (by kernel_rfl) ?_ _ _
      refine NoPanic.normal ?_
      clear hWr1
      replace hH := S2o0 hH
      (try dsimp only at hH)
      have q0 := hH.1
      have q1 := hH.2.1
      have q2 := hH.2.2.1
      have q3 := hH.2.2.2.1
      have q4 := hH.2.2.2.2
      clear hH q0 q1 q2 q3
      by_cases e1 : x = ax
      · by_cases e2 : y = ay
        · have HR := hid (HHI.out (decide_eq_true (by rw [e1, e2])))
          have b1 : (x == ax && y == ay) = true := by simp [e1, e2]
          rw [b1]
          clear HHI HNX e1 e2 b1 HQ
          go_wp2
          go_returns
          exact ret_int HR.out.symm q4
        · have HR := hid (HNX.out (decide_eq_false (by intro h; injection h with h1 h2; exact e2 h2.symm)))
          have b1 : (x == ax && y == ay) = false := by simp [e2]
          rw [b1]
          clear HHI HNX e1 e2 b1 HQ
          go_wp2
          go_roundw
          case rel => exact ⟨k + 1, by omega, by go_num, HR.out, k0, k1, q4⟩
          case measure => simp [intOf]; omega
      · have HR := hid (HNX.out (decide_eq_false (by intro h; injection h with h1 h2; exact e1 h1.symm)))
        have b1 : (x == ax && y == ay) = false := by simp [e1]
        rw [b1]
        clear HHI HNX e1 b1 HQ
        go_wp2
        go_roundw
        case rel => exact ⟨k + 1, by omega, by go_num, HR.out, k0, k1, q4⟩
        case measure => simp [intOf]; omega
    · have HR := hid (firstIdx_none (by have := HN.out; rwa [show k = l.length by omega] at this) : firstIdx (fun p => decide (p = (x, y))) l = -1)
      clear hat HN
      go_wp2
      go_returns
      exact ret_int HR.out.symm hB
set_option maxRecDepth 100000 in
theorem contains_calls (A : Option Addr) (n c : Nat) (l : List V) (x y : Int) (w : World) (hS : Sl w A n c l) : Calls Try.prog 83 #[.slice A n c, vecV x y] w (Ret (.bool (decide ((x, y) ∈ l))) w) := by
  have HS := hid hS
  clear hS
  have HR := hid (by rw [← memB_any, ← firstIdx_any] : decide ((x, y) ∈ l) = decide (firstIdx (fun p => decide (p = (x, y))) l ≥ 0))
  go_enter Try.func83, Try.ntmps83
  go_wp2_with fail
  refine (index_calls A n c l x y _ (HS.out.alloc _)).mono ?_
  rintro e w1 ⟨rfl, hb⟩
  generalize firstIdx (fun p => decide (p = (x, y))) l = z at *
  go_wp2
  go_returns
  exact ret_bool (by rw [HR.out]) (keepBelow hb ((Below.refl _ _).alloc (Nat.le_refl _) _))

/-- a slice in a variable's cell -/
structure Vs (w : World) (g : Nat) (s : Value) : Prop where
  a : w.cell? ⟨g, 0, none⟩ = some s
  f : ∀ j, w.frozen? ⟨g, j, none⟩ = false
theorem keepVs {w w' : World} {g : Nat} {s : Value} (hb : Below w.heap.size w w') (h : Vs w g s) : Vs w' g s :=
  ⟨keepCell hb h.a, fun j => ((bcell hb).2 _ _ (lt_of_cell h.a)).trans (h.f j)⟩
theorem Vs.lt {w : World} {g : Nat} {s : Value} (h : Vs w g s) : g < w.heap.size := lt_of_cell h.a
theorem keepVsB {w w' : World} {B g : Nat} {s : Value} (hb : Below B w w') (hg : g < B) (h : Vs w g s) : Vs w' g s :=
  ⟨((bcell hb).1 _ _ hg).trans h.a, fun j => ((bcell hb).2 _ _ hg).trans (h.f j)⟩
set_option maxRecDepth 100000 in
theorem once1_calls (a b : Int) (g : Nat) (A : Option Addr) (n c : Nat) (l : List V) (w : World) (hg : w.cell? ⟨g, 0, none⟩ = some (.slice A n c)) (hS : Sl w A n c l) : Calls Try.prog 82 #[vecV a b, .pointer (some ⟨g, 0, none⟩)] w (Ret (.bool (!decide ((a, b) ∈ l))) w) := by
  have HS := hid hS
  clear hS
  have hlt := lt_of_cell hg
  go_enter Try.func82, Try.ntmps82
  go_wp2_with fail
  refine (contains_calls A n c l a b _ (HS.out.alloc _)).mono ?_
  rintro e w1 ⟨rfl, hb⟩
  go_wp2
  go_returns
  exact ret_bool (by simp) (keepBelow hb ((Below.refl _ _).alloc (Nat.le_refl _) _))
theorem cf_once (args : Array Value) (w : World) : (callFunc 82 args).run Try.prog w = .ok (.enter 82 args) w := by kernel_rfl
set_option maxRecDepth 100000 in
set_option maxHeartbeats 1000000 in
theorem indexFunc_cap (g : Nat) (cap : Value) (f : V → Bool) (hcf : ∀ (args : Array Value) (w : World), (callFunc g args).run Try.prog w = .ok (.enter g args) w) (A : Option Addr) (n c : Nat) (l : List V) (w : World) (hg : ∀ a b w', Below w.heap.size w w' → Calls Try.prog g #[vecV a b, cap] w' (Ret (.bool (f (a, b))) w')) (hS : Sl w A n c l) :
    Calls Try.prog 149 #[.slice A n c, .func (.func g) #[] #[cap]] w (Ret (.int .i64 (firstIdx f l)) w) := by
  obtain ⟨hn, hcap, hbig, hat⟩ := hS
  subst hn
  go_enter Try.func149, Try.ntmps149
  go_wp2
  go_loopw [8] (fun i wr => ∃ k : Nat, k ≤ l.length ∧ i = .int .i64 k ∧ noneTo f l k ∧ Below w.heap.size w wr) (fun i _ => l.length - (intOf i).toNat)
  case atStart => exact ⟨0, Nat.zero_le _, rfl, noneTo_zero _ _, Below.refl _ _⟩
  case round =>
    obtain ⟨k, hk, rfl, hno, hB⟩ := hrel
    obtain ⟨wo, rfl⟩ : ∃ wo : World, wo = wr := ⟨_, rfl⟩
    by_cases hlt : k < l.length
    · obtain ⟨b, off, rfl, hC⟩ := hat (by intro h; subst h; simp at hlt)
      have hC' := hC.below hB
      have hx := hC'.x k hlt
      have hy := hC'.y k hlt
      have HN := hid hno
      have HG := hid hg
      clear hno hat hC hC' hg
      have hBA : Below w.heap.size w (wo.alloc (.cells #[.int .i64 (px l k), .int .i64 (py l k)] 25)) := hB.alloc hB.size _
      cases hv : f (px l k, py l k) with
      | true =>
        have HV := hid hv
        clear hv
        go_wp2_with fail
        first | refine (HG.out _ _ _ hB).mono ?_ | refine (HG.out _ _ _ hBA).mono ?_
        rintro e w1 ⟨rfl, hb1⟩
        rw [HV.out]
        go_wp2
        go_returns
        exact ret_int (firstIdx_hit hlt HN.out HV.out).symm (by first | exact hB.trans (hb1.mono hB.size) | exact hBA.trans (hb1.mono hBA.size))
      | false =>
        have HV := hid hv
        clear hv
        go_wp2_with fail
        first | refine (HG.out _ _ _ hB).mono ?_ | refine (HG.out _ _ _ hBA).mono ?_
        rintro e w1 ⟨rfl, hb1⟩
        rw [HV.out]
        go_wp2
        exact ⟨⟨k + 1, hlt, by go_num, noneTo_succ HN.out HV.out, by first | exact hB.trans (hb1.mono hB.size) | exact hBA.trans (hb1.mono hBA.size)⟩, by simp [intOf]; omega⟩
    · have hge : l.length ≤ k := by omega
      have HN := hid hno
      clear hno hat hlt hg
      go_wp2
      go_returns
      exact ret_int (firstIdx_none (by have := HN.out; rwa [show k = l.length by omega] at this)).symm hB
set_option maxRecDepth 100000 in
theorem containsFunc_cap (g : Nat) (cap : Value) (f : V → Bool) (hcf : ∀ (args : Array Value) (w : World), (callFunc g args).run Try.prog w = .ok (.enter g args) w) (A : Option Addr) (n c : Nat) (l : List V) (w : World) (hg : ∀ a b w', Below w.heap.size w w' → Calls Try.prog g #[vecV a b, cap] w' (Ret (.bool (f (a, b))) w')) (hS : Sl w A n c l) :
    Calls Try.prog 81 #[.slice A n c, .func (.func g) #[] #[cap]] w (Ret (.bool (l.any f)) w) := by
  have HG := hid hg
  clear hg
  go_enter Try.func81, Try.ntmps81
  go_wp2_with (go_at_call 149; refine (indexFunc_cap g cap f hcf _ _ _ l _ HG.out hS).mono ?_; rintro e w1 ⟨rfl, hb⟩)
  go_returns
  exact ret_bool (firstIdx_any f l) hb
end Go.Proofs.Ytldlogcpnfmomaa
