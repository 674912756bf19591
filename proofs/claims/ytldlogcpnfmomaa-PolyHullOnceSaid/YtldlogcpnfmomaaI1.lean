/- Contracts: slices.Compact of own slices of vectors. -/
import Derived.Test.YtldlogcpnfmomaaI0
namespace Go.Proofs.Ytldlogcpnfmomaa
set_option linter.unusedVariables false
set_option linter.unusedSimpArgs false
open Go.RowKit Go.Sort Go.Lib

/-- corner j is kept: it is not the one before it -/
def keepB (l : List V) (j : Nat) : Bool := decide (j = 0 ∨ ptL l j ≠ ptL l (j - 1))
def cmTo (l : List V) : Nat → List V
  | 0 => []
  | m + 1 => cmTo l m ++ (if keepB l m = true then [ptL l m] else [])
def cmpL (l : List V) : List V := cmTo l l.length
theorem cmTo_all (l : List V) : ∀ m, m ≤ l.length → (∀ j, j < m → keepB l j = true) → cmTo l m = l.take m
  | 0, _, _ => by simp [cmTo]
  | m + 1, hm, h => by
    rw [cmTo, cmTo_all l m (by omega) (fun j hj => h j (by omega)), if_pos (h m (by omega)), ptL_get (by omega), List.take_append_getElem]
theorem cmTo_spec {l : List V} (h : l.Pairwise fun p q => ¬ lowV q p) : ∀ m, m ≤ l.length → (cmTo l m).Pairwise lowV ∧ (∀ x, x ∈ cmTo l m ↔ ∃ j, j < m ∧ x = ptL l j) ∧ ∀ x ∈ cmTo l m, x = ptL l (m - 1) ∨ lowV x (ptL l (m - 1))
  | 0, _ => ⟨List.Pairwise.nil, fun x => by simp [cmTo], fun x hx => by cases hx⟩
  | m + 1, hm => by
    obtain ⟨h1, h2, h3⟩ := cmTo_spec h m (by omega)
    rw [cmTo, Nat.add_sub_cancel]
    by_cases hk : keepB l m = true
    · rw [if_pos hk]
      have hlow : ∀ x ∈ cmTo l m, lowV x (ptL l m) := fun x hx => by
        have hm0 : m ≠ 0 := by rintro rfl; cases hx
        have hne : ptL l m ≠ ptL l (m - 1) := by
          rcases of_decide_eq_true hk with q | q
          · exact absurd q hm0
          · exact q
        have hle := List.pairwise_iff_getElem.1 h (m - 1) m (by omega) (by omega) (by omega)
        rw [← ptL_get, ← ptL_get] at hle
        have hlt : lowV (ptL l (m - 1)) (ptL l m) := by
          rcases lowV_or (ptL l (m - 1)) (ptL l m) with q | q | q
          · exact q
          · exact absurd q.symm hne
          · exact absurd q hle
        rcases h3 x hx with q | q
        · rw [q]; exact hlt
        · exact lowV_tr q hlt
      refine ⟨List.pairwise_append.2 ⟨h1, List.pairwise_singleton _ _, fun x hx y hy => by rw [List.mem_singleton.1 hy]; exact hlow x hx⟩, fun x => ?_, fun x hx => ?_⟩
      · rw [List.mem_append, h2, List.mem_singleton]
        constructor
        · rintro (⟨j, hj, e⟩ | e)
          · exact ⟨j, by omega, e⟩
          · exact ⟨m, by omega, e⟩
        · rintro ⟨j, hj, e⟩
          rcases Nat.lt_or_ge j m with g | g
          · exact .inl ⟨j, g, e⟩
          · exact .inr (by rw [e, show j = m by omega])
      · rcases List.mem_append.1 hx with q | q
        · exact .inr (hlow x q)
        · exact .inl (List.mem_singleton.1 q)
    · rw [if_neg hk, List.append_nil]
      have he : m ≠ 0 ∧ ptL l m = ptL l (m - 1) := by
        have : ¬ (m = 0 ∨ ptL l m ≠ ptL l (m - 1)) := fun q => hk (decide_eq_true q)
        exact ⟨fun q => this (.inl q), Classical.byContradiction fun q => this (.inr q)⟩
      refine ⟨h1, fun x => ?_, fun x hx => by rw [he.2]; exact h3 x hx⟩
      rw [h2]
      constructor
      · rintro ⟨j, hj, e⟩
        exact ⟨j, by omega, e⟩
      · rintro ⟨j, hj, e⟩
        rcases Nat.lt_or_ge j m with g | g
        · exact ⟨j, g, e⟩
        · exact ⟨m - 1, by omega, by rw [e, show j = m by omega, he.2]⟩
theorem cmp_spec {l : List V} (h : l.Pairwise fun p q => ¬ lowV q p) : (cmpL l).Pairwise lowV ∧ ∀ x, x ∈ cmpL l ↔ x ∈ l := by
  obtain ⟨h1, h2, -⟩ := cmTo_spec h l.length (Nat.le_refl _)
  refine ⟨h1, fun x => (h2 x).trans ⟨?_, fun hx => ?_⟩⟩
  · rintro ⟨j, hj, rfl⟩
    exact ptL_mem hj
  · obtain ⟨k, hk, e⟩ := mem_ptL hx
    exact ⟨k, hk, e.symm⟩
theorem cmTo_len (l : List V) : ∀ m, (cmTo l m).length ≤ m
  | 0 => Nat.le_refl _
  | m + 1 => by
    have := cmTo_len l m
    rw [cmTo, List.length_append]
    split <;> simp <;> omega

theorem grown_drewN (w : World) (q : Nat) (row : Option Nat) : w.grownBy (w.drewN q) row := ⟨rfl, rfl, rfl, Nat.le_refl _, fun _ _ _ => rfl⟩
theorem Own.over {w : World} {B g n cap : Nat} {l : List V} (h : Own w B (.slice (some ⟨g, 0, none⟩) n cap) l) {j : Nat} (hj : l.length * 2 ≤ j) (u : Value) : Own (w.setCell ⟨g, j, none⟩ u) B (.slice (some ⟨g, 0, none⟩) n cap) l := by
  have hn : n = l.length := by
    obtain ⟨-, h2 | ⟨g', cap', cur, hv, _⟩⟩ := h
    · cases h2.1
    · cases hv; rfl
  subst hn
  have := (World.ownsRow.stored h j u).1
  rwa [List.set_eq_of_length_le (by rw [flat_len]; exact hj)] at this
theorem Own.overs {B g n cap : Nat} {l : List V} : ∀ (vs : List Value) (j : Nat) (w : World), l.length * 2 ≤ j → Own w B (.slice (some ⟨g, 0, none⟩) n cap) l → Own (w.setCells g j vs) B (.slice (some ⟨g, 0, none⟩) n cap) l ∧ w.grownBy (w.setCells g j vs) (some g)
  | [], j, w, _, h => ⟨h, World.grownBy.refl _ _⟩
  | v :: vs, j, w, hj, h => by
    obtain ⟨h1, h2⟩ := Own.overs vs (j + 1) _ (by omega) (h.over hj v)
    exact ⟨h1, (grown_setCell w g j v).trans h2⟩
theorem run_clearV (w : World) (ty : TypeId) (g o n c : Nat) (hc : ∀ j, j < n * 2 → (w.cell? ⟨g, o + j, none⟩).isSome = true) (hf : ∀ j, w.frozen? ⟨g, j, none⟩ = false) :
    (Builtin.clear_ #[23] ty #[.slice (some ⟨g, o, none⟩) n c]).run Try.prog w = .ok (.tuple #[]) (w.setCells g o (List.replicate (n * 2) (.int .i64 0))) := by
  have hz : ∀ w, (zeroValue 25).run Try.prog w = .ok (.agg #[.int .i64 0, .int .i64 0]) w := fun w => Try.zeroValue25 w
  have hzc : (Builtin.zeroCells (Value.agg #[.int .i64 0, .int .i64 0]).cells n).toList = List.replicate (n * 2) (.int .i64 0) := by
    apply List.ext_getElem
    · simp [Builtin.zeroCells, Value.cells]
    · intro i h1 h2
      simp only [List.length_replicate] at h2
      have : i % 2 = 0 ∨ i % 2 = 1 := by omega
      rcases this with q | q <;> simp [Builtin.zeroCells, Value.cells, q]
  have hst := run_storeCells_cells (P := Try.prog) g o (List.replicate (n * 2) (.int .i64 0)) 0 w (by simpa using hc) (fun j _ => by simpa using hf _) (by intro v hv'; rw [List.eq_of_mem_replicate hv']; rfl)
  simp only [Nat.add_zero] at hst
  cases n with
  | zero => simp [Builtin.clear_, run_underlying Try.underlying23, World.setCells]
  | succ m => simp [Builtin.clear_, run_underlying Try.underlying23, hz, hzc, hst]

theorem ptL_set {M : List V} {k j : Nat} {x : V} : ptL (M.set k x) j = if k = j ∧ j < M.length then x else ptL M j := by
  unfold ptL px py
  rw [List.getD_eq_getElem?_getD, List.getD_eq_getElem?_getD, List.getElem?_set]
  by_cases h : k = j
  · subst h
    by_cases h2 : k < M.length
    · simp [h2]
    · simp [h2]
  · simp [h]

set_option maxRecDepth 100000 in
set_option maxHeartbeats 4000000 in
theorem compactV_calls (s : Value) (l : List V) (B : Nat) (w : World) (hO : Own w B s l) (hl : l.length ≤ 100000) : Calls Try.prog 122 #[s] w fun e w' => ∃ s', e = .returned s' ∧ s'.ownBlock = s.ownBlock ∧ Own w' B s' (cmpL l) ∧ w.grownBy w' s.ownBlock := by
  rcases hO.frm with ⟨rfl, rfl⟩ | ⟨g, cap, rfl, hBg, hg, hn, hm, -, -⟩
  · go_enter Try.func122, Try.ntmps122
    go_wp2
    refine bodyPost_ret (v := .slice none 0 0) (by simp [results, Try.results122, go_sem]) rfl ⟨_, rfl, rfl, hO, World.grownBy.refl _ _⟩
  · have HO0 := hid hO
    clear hO
    by_cases h2 : l.length < 2
    · have hz : cmpL l = l := by
        unfold cmpL
        rw [cmTo_all l _ (Nat.le_refl _) (fun j hj => decide_eq_true (.inl (by omega))), List.take_of_length_le (Nat.le_refl _)]
      have HZ := hid hz
      clear hz
      go_enter Try.func122, Try.ntmps122
      go_wp2
      go_returns
      exact ⟨_, rfl, rfl, by rw [HZ.out]; exact HO0.out, World.grownBy.refl _ _⟩
    · go_enter Try.func122, Try.ntmps122
      go_wp2
      go_loopw [3] (fun i wr => ∃ k : Nat, 1 ≤ k ∧ k ≤ l.length ∧ i = .int .i64 k ∧ (∀ j, j < k → keepB l j = true) ∧ Own wr B (.slice (some ⟨g, 0, none⟩) l.length cap) l ∧ w.grownBy wr (some g)) (fun i _ => l.length - (intOf i).toNat)
      case atStart => exact ⟨1, Nat.le_refl _, by omega, rfl, fun j hj => decide_eq_true (.inl (by omega)), HO0.out, World.grownBy.refl _ _⟩
      case round =>
        clear HO0
        obtain ⟨k, hk1, hk, rfl, hall, ho, hG⟩ := hrel
        have HA := hid hall
        have HO := hid ho
        have HG := hid hG
        obtain ⟨wo, rfl⟩ : ∃ wo : World, wo = wr := ⟨_, rfl⟩
        clear hall hG
        by_cases hlt : k < l.length
        · rcases ho.frm with ⟨e1, -⟩ | ⟨g', cap', e1, -, hgw, -, -, -, hc⟩
          · cases e1
          obtain ⟨rfl, rfl⟩ : g = g' ∧ cap = cap' := by injection e1 with e1 e2 e3; injection e1 with e1; injection e1 with e1; exact ⟨e1, e3⟩
          obtain ⟨x0, x1⟩ := hc k hlt
          obtain ⟨y0, y1⟩ := hc (k - 1) (by omega)
          have hlt' : (k : Int) < (l.length : Int) := by omega
          have hk1' : (1 : Int) ≤ (k : Int) := by omega
          have hkw : IntKind.i64.wrap ((k : Int) - 1) = ((k - 1 : Nat) : Int) := by rw [IntWalk.i64_in _ (by omega)]; omega
          have hk3 : ((k - 1 : Nat) : Int) < (l.length : Int) := by omega
          have hk4 : k - 1 < l.length := by omega
          have hkp : IntKind.i64.wrap ((k : Int) + 1) = (k : Int) + 1 := IntWalk.i64_in _ (by omega)
          clear hc e1 ho
          have HQ := run_eqV (px l k) (py l k) (px l (k - 1)) (py l (k - 1))
          by_cases hdup : ptL l k = ptL l (k - 1)
          · have HD : Hid (keepB l k = false) := decide_eq_false (by rintro (q | q); omega; exact q hdup)
            have e1 : px l k = px l (k - 1) := congrArg Prod.fst hdup
            have e2 : py l k = py l (k - 1) := congrArg Prod.snd hdup
            rw [e1, e2] at HQ
            rw [e1] at x0
            rw [e2] at x1
            simp only [beq_self_eq_true, Bool.and_self] at HQ
            clear hdup e1 e2
            generalize px l (k - 1) = u at *
            generalize py l (k - 1) = v at *
            go_wp2_with fail
            go_quiet (fail)
            go_wp2
            clear x0 y0 x1 y1 HQ
            obtain ⟨n2, hn2⟩ : ∃ n2, n2 = l.length - k := ⟨_, rfl⟩
            rw [← hn2]
            have HN2 := hid hn2
            have HO1 : Hid (Own (wo.drewN nq) B (.slice (some ⟨g, 0, none⟩) l.length cap) l) := HO.out
            have HG1 : Hid (w.grownBy (wo.drewN nq) (some g)) := HG.out.trans (grown_drewN _ _ _)
            have hgw1 : g < (wo.drewN nq).heap.size := hgw
            clear HO HG hgw hkw hk3 hk4 hkp hlt' hk1' hn2
            generalize wo.drewN nq = wi at *
            go_loopw [3, 5] (fun s3 s5 wr => ∃ (kk k2 : Nat) (M : List V), s3 = .int .i64 kk ∧ s5 = .int .i64 k2 ∧ 1 ≤ k2 ∧ k2 ≤ n2 ∧ kk + 1 ≤ k + k2 ∧ M.length = l.length ∧ M.take kk = cmTo l (k + k2) ∧ (∀ j, k + k2 ≤ j + 1 → ptL M j = ptL l j) ∧ Own wr B (.slice (some ⟨g, 0, none⟩) l.length cap) M ∧ w.grownBy wr (some g)) (fun _ s5 _ => n2 - (intOf s5).toNat)
            case atStart =>
              have := HN2.out
              refine ⟨k, 1, l, rfl, rfl, Nat.le_refl _, by omega, by omega, rfl, ?_, fun j _ => rfl, HO1.out, HG1.out⟩
              rw [cmTo, cmTo_all l k (by omega) HA.out, if_neg (by rw [HD.out]; simp), List.append_nil]
            case round =>
              clear HO1 HG1
              obtain ⟨kk, k2, M, rfl, rfl, p1, p2, p3, p4, p5, p6, p7, p8⟩ := hrel
              obtain ⟨wj, rfl⟩ : ∃ wj : World, wj = wr := ⟨_, rfl⟩
              have HM := hid (And.intro p4 (And.intro p5 p6))
              have HO := hid p7
              have HG := hid p8
              rcases p7.frm with ⟨e1, -⟩ | ⟨g', cap', e1, -, hgw, -, -, hfz, hc⟩
              · cases e1
              obtain ⟨rfl, rfl⟩ : g = g' ∧ cap = cap' := by injection e1 with e1 e2 e3; injection e1 with e1; injection e1 with e1; exact ⟨e1, e3⟩
              have hkkL : kk < l.length := by have := HN2.out; omega
              have HF := hid hfz
              by_cases hlt2 : k2 < n2
              · have q1 : k + k2 < l.length := by have := HN2.out; omega
                obtain ⟨x0, x1⟩ := hc (k + k2) (by rw [p4]; exact q1)
                obtain ⟨y0, y1⟩ := hc (k + k2 - 1) (by rw [p4]; omega)
                obtain ⟨z0, z1⟩ := hc kk (by rw [p4]; exact hkkL)
                have m1 : px M (k + k2) = (ptL l (k + k2)).1 := congrArg Prod.fst (p6 _ (by omega))
                have m2 : py M (k + k2) = (ptL l (k + k2)).2 := congrArg Prod.snd (p6 _ (by omega))
                have m3 : px M (k + k2 - 1) = (ptL l (k + k2 - 1)).1 := congrArg Prod.fst (p6 _ (by omega))
                have m4 : py M (k + k2 - 1) = (ptL l (k + k2 - 1)).2 := congrArg Prod.snd (p6 _ (by omega))
                rw [m1] at x0
                rw [m2] at x1
                rw [m3] at y0
                rw [m4] at y1
                rw [show (k + k2) * 2 = k * 2 + k2 * 2 by omega] at x0 x1
                rw [show (k + k2 - 1) * 2 = k * 2 + (k2 - 1) * 2 by omega] at y0 y1
                have f0 := HF.out (kk * 2)
                have f1 := HF.out (kk * 2 + 1)
                have hlt' : (k2 : Int) < (n2 : Int) := by omega
                have hkL : (k : Int) < (l.length : Int) := by omega
                have h1' : (1 : Int) ≤ (k2 : Int) := by omega
                have hkw : IntKind.i64.wrap ((k2 : Int) - 1) = ((k2 - 1 : Nat) : Int) := by rw [IntWalk.i64_in _ (by omega)]; omega
                have hk3 : ((k2 - 1 : Nat) : Int) < (n2 : Int) := by omega
                have hk4 : k2 - 1 < n2 := by omega
                have hkp : IntKind.i64.wrap ((k2 : Int) + 1) = (k2 : Int) + 1 := IntWalk.i64_in _ (by have := HN2.out; omega)
                have hkkp : IntKind.i64.wrap ((kk : Int) + 1) = (kk : Int) + 1 := IntWalk.i64_in _ (by omega)
                have hkkL' : (kk : Int) < (l.length : Int) := by omega
                have HKB : Hid (keepB l (k + k2) = decide (ptL l (k + k2) ≠ ptL l (k + k2 - 1))) := by
                  show keepB l (k + k2) = _
                  unfold keepB
                  rw [decide_eq_decide]
                  constructor
                  · rintro (q | q)
                    · omega
                    · exact q
                  · exact .inr
                have HX : Hid (ptL l (k + k2) = ptL l (k + k2)) := rfl
                have HP := hid (And.intro p1 (And.intro p2 p3))
                clear p1 p2 p3 p4 p5 p6 p7 p8 e1 hc m1 m2 m3 m4 hfz hlt2 hk1 hk
                obtain ⟨X, hX⟩ : ∃ X, X = ptL l (k + k2) := ⟨_, rfl⟩
                obtain ⟨Y, hY⟩ : ∃ Y, Y = ptL l (k + k2 - 1) := ⟨_, rfl⟩
                rw [← hX] at HKB x0 x1
                rw [← hY] at HKB y0 y1
                have HXX := hid hX
                clear hX hY HX
                obtain ⟨x, y⟩ := X
                obtain ⟨u, v⟩ := Y
                try dsimp only at x0 x1 y0 y1
                have HQ := run_eqV x y u v
                by_cases hxy : (x, y) = (u, v)
                · have HK0 : Hid (keepB l (k + k2) = false) := by rw [HKB.out]; exact decide_eq_false (fun q => q hxy)
                  injection hxy with e1 e2
                  subst e1
                  subst e2
                  simp only [beq_self_eq_true, Bool.and_self] at HQ
                  clear HKB z0 z1 f0 f1
                  go_wp2_with fail
                  go_quiet (fail)
                  go_wp2
                  go_roundw
                  case rel =>
                    obtain ⟨r1, r2, r3⟩ := HP.out
                    obtain ⟨r4, r5, r6⟩ := HM.out
                    refine ⟨kk, k2 + 1, M, rfl, by go_num, by omega, by omega, by omega, r4, ?_, fun j hj => r6 j (by omega), HO.out, HG.out.trans (grown_drewN _ _ _)⟩
                    rw [r5, ← Nat.add_assoc, cmTo, HK0.out]
                    simp
                  case measure => simp [intOf]; omega
                · have HK0 : Hid (keepB l (k + k2) = true) := by rw [HKB.out]; exact decide_eq_true hxy
                  have hb : (x == u && y == v) = false := by
                    rw [Bool.eq_false_iff]
                    intro q
                    simp only [Bool.and_eq_true, beq_iff_eq] at q
                    exact hxy (by rw [q.1, q.2])
                  rw [hb] at HQ
                  clear HKB hxy hb
                  go_wp2_with fail
                  go_quiet (fail)
                  go_wp2
                  go_roundw
                  case rel =>
                    obtain ⟨r1, r2, r3⟩ := HP.out
                    obtain ⟨r4, r5, r6⟩ := HM.out
                    have HO2 : Own (wj.drewN nq) B (.slice (some ⟨g, 0, none⟩) l.length cap) M := HO.out
                    refine ⟨kk + 1, k2 + 1, M.set kk (x, y), by go_num, by go_num, by omega, by omega, by omega, by rw [List.length_set]; exact r4, ?_, fun j hj => by rw [ptL_set, if_neg (by omega)]; exact r6 j (by omega), HO2.put2 x y (by omega), (HG.out.trans (grown_drewN _ _ _)).trans ((grown_setCell _ _ _ _).trans (grown_setCell _ _ _ _))⟩
                    have e3 : (M.set kk (x, y)).take (kk + 1) = M.take kk ++ [(x, y)] := by
                      rw [List.take_add_one, List.take_set_of_le (Nat.le_refl _)]
                      simp [show kk < M.length by omega]
                    rw [e3, r5, ← Nat.add_assoc, cmTo, HK0.out, if_pos rfl, ← HXX.out]
                  case measure => simp [intOf]; omega
              · have hend : k + k2 = l.length := by have := HN2.out; omega
                have hcl : ∀ ty, (Builtin.clear_ #[23] ty #[.slice (some ⟨g, kk * 2, none⟩) (l.length - kk) (cap - kk)]).run Try.prog wj = .ok (.tuple #[]) (wj.setCells g (kk * 2) (List.replicate ((l.length - kk) * 2) (.int .i64 0))) := fun ty => run_clearV wj ty g (kk * 2) (l.length - kk) (cap - kk) (fun j hj => by
                  have hj2 : kk + j / 2 < M.length := by rw [p4]; omega
                  obtain ⟨z0, z1⟩ := hc (kk + j / 2) hj2
                  have : j % 2 = 0 ∨ j % 2 = 1 := by omega
                  rcases this with q | q
                  · rw [show kk * 2 + j = (kk + j / 2) * 2 by omega, z0]; rfl
                  · rw [show kk * 2 + j = (kk + j / 2) * 2 + 1 by omega, z1]; rfl) hfz
                have hkkL' : (kk : Int) ≤ (l.length : Int) := by omega
                have hkkL2 : kk ≤ l.length := by omega
                have hge : ¬ (k2 : Int) < (n2 : Int) := by omega
                have hkkc : kk ≤ cap := by omega
                have hkkn : ¬ cap = kk := by omega
                have HE := hid hend
                clear hc hfz e1 p1 p2 p3 p4 p5 p6 p7 p8 hlt2 hend hkkL HF
                go_wp2
                go_returns
                obtain ⟨r4, r5, r6⟩ := HM.out
                have ez : cmpL l = M.take kk := by unfold cmpL; rw [r5, HE.out]
                have t1 := HO.out.tk (m := kk) (by omega)
                have t2 := Own.overs (List.replicate ((l.length - kk) * 2) (.int .i64 0)) (kk * 2) wj (by rw [List.length_take]; omega) t1
                exact ⟨_, rfl, rfl, by rw [ez]; exact t2.1, HG.out.trans t2.2⟩
          · have HD : Hid (keepB l k = true) := decide_eq_true (.inr hdup)
            have hb : (px l k == px l (k - 1) && py l k == py l (k - 1)) = false := by
              rw [Bool.eq_false_iff]
              intro q
              simp only [Bool.and_eq_true, beq_iff_eq] at q
              exact hdup (Prod.ext q.1 q.2)
            rw [hb] at HQ
            clear hdup hb
            generalize px l (k - 1) = u at *
            generalize py l (k - 1) = v at *
            generalize px l k = x at *
            generalize py l k = y at *
            go_wp2_with fail
            go_quiet (fail)
            go_wp2
            go_roundw
            case rel => exact ⟨k + 1, by omega, hlt, by go_num, fun j hj => by
              by_cases e : j = k
              · subst e; exact HD.out
              · exact HA.out j (by omega), HO.out, HG.out.trans (grown_drewN _ _ _)⟩
            case measure => simp [intOf]; omega
        · have hz : cmpL l = l := by
            unfold cmpL
            rw [cmTo_all l _ (Nat.le_refl _) (fun j hj => HA.out j (by omega)), List.take_of_length_le (Nat.le_refl _)]
          have HZ := hid hz
          clear hz ho
          go_wp2
          go_returns
          exact ⟨_, rfl, rfl, by rw [HZ.out]; exact HO.out, HG.out⟩

end Go.Proofs.Ytldlogcpnfmomaa
