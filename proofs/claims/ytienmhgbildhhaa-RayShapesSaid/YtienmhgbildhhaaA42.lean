/- Parts of a proof: contracts and laws. -/
import Derived.Test.YtienmhgbildhhaaA41
import Derived.Test.YtienmhgbildhhaaA22
import Derived.Laws.StructEq
namespace Go.Proofs.Ytienmhgbildhhaa
section
set_option linter.unusedVariables false
set_option linter.unusedSimpArgs false
open Go.RowKit
set_option maxRecDepth 100000 in
theorem run_eqV (x y u v : Int) (w : World) : (Op.equalIn 10000 24 (.agg #[.int .i64 x, .int .i64 y]) (.agg #[.int .i64 u, .int .i64 v])).run Try.prog w = .ok (x == u && y == v) w := by
  have hS : Try.prog.underlying 24 = some (.struct (Try.prog.fieldsOf 24)) := by kernel_rfl
  have hp : Try.prog.stoodInHeld 24 = false := by kernel_rfl
  rw [show (10000 : Nat) = 9999 + 1 from rfl, run_equalIn_agg w 9999 24 _ _ hS hp]
  simp only [Program.fieldsOf, Try.underlying24]
  go_simp
  by_cases h1 : x = u <;> by_cases h2 : y = v <;> simp [h1, h2]

structure Vc (w : World) (g : Nat) (x y : Int) : Prop where
  a : w.cell? ⟨g, 0, none⟩ = some (.int .i64 x)
  b : w.cell? ⟨g, 1, none⟩ = some (.int .i64 y)
  f : ∀ j, w.frozen? ⟨g, j, none⟩ = false
theorem keepVc {w w' : World} {g : Nat} {x y : Int} (hb : Below w.heap.size w w') (h : Vc w g x y) : Vc w' g x y :=
  ⟨keepCell hb h.a, keepCell hb h.b, fun j => ((bcell hb).2 _ _ (lt_of_cell h.a)).trans (h.f j)⟩
theorem Vc.lt {w : World} {g : Nat} {x y : Int} (h : Vc w g x y) : g < w.heap.size := lt_of_cell h.a
theorem Vc.alloc {w : World} {g : Nat} {x y : Int} (h : Vc w g x y) (o : Obj) : Vc (w.alloc o) g x y := keepVc ((Below.refl _ _).alloc (Nat.le_refl _) _) h
theorem Vc.drew {w : World} {g : Nat} {x y : Int} (h : Vc w g x y) : Vc w.drew g x y := ⟨h.a, h.b, h.f⟩
theorem Vc.here (w : World) (x y : Int) (t : TypeId) : Vc (w.alloc (.cells #[.int .i64 x, .int .i64 y] t)) w.heap.size x y := ⟨by go_simp, by go_simp, fun j => by go_simp⟩
theorem Vc.put {w : World} {g : Nat} {x y : Int} (h : Vc w g x y) (u v : Int) : Vc ((w.setCell ⟨g, 0, none⟩ (.int .i64 u)).setCell ⟨g, 1, none⟩ (.int .i64 v)) g u v := by
  obtain ⟨a, b, f⟩ := h
  exact ⟨by go_simp, by go_simp, fun j => by go_simp⟩
theorem Vc.off {w : World} {g b : Nat} {x y : Int} (h : Vc w b x y) (hne : g ≠ b) (u v : Value) : Vc ((w.setCell ⟨g, 0, none⟩ u).setCell ⟨g, 1, none⟩ v) b x y := by
  have hl := h.lt
  obtain ⟨a, b', f⟩ := h
  have hne2 : ¬ b = g := fun e => hne e.symm
  exact ⟨far2 hne a, far2 hne b', fun j => by go_simp⟩
theorem Own.off {w : World} {B g : Nat} {s : Value} {l : List V} (h : Own w B s l) (hne : ∀ k, s.ownBlock = some k → k ≠ g) (o : Nat) (u : Value) : Own (w.setCell ⟨g, o, none⟩ u) B s l := by
  refine World.ownsRow.kept h (grown_setCell _ g o _) ?_
  cases hv : s.ownBlock with
  | none => exact .inl rfl
  | some k => exact .inr fun e => by cases e; exact hne _ hv rfl

structure WW (w0 : World) (gF : Nat) (s : Value) (o : List V) (F : V) (w : World) : Prop where
  vF : Vc w gF F.1 F.2
  own : Own w (gF + 1) s o
  bel : Below w0.heap.size w0 w
  le : w0.heap.size ≤ gF
theorem WW.keep {w0 : World} {gF : Nat} {s : Value} {o : List V} {F : V} {w w' : World} (hb : Below w.heap.size w w') (h : WW w0 gF s o F w) : WW w0 gF s o F w' :=
  ⟨keepVc hb h.vF, h.own.below hb, keepBelow hb h.bel, h.le⟩
theorem WW.app {w0 : World} {gF : Nat} {s s' : Value} {o o' : List V} {F : V} {w w' : World} {ob : Obj} (h : WW w0 gF s o F w) (ho : Own w' (gF + 1) s' o') (hb : Below (gF + 1) (w.alloc ob) w') : WW w0 gF s' o' F w' :=
  have h2 := h.keep ((Below.refl _ _).alloc (Nat.le_refl _) ob)
  ⟨⟨((bcell hb).1 _ _ (Nat.lt_succ_self gF)).trans h2.vF.a, ((bcell hb).1 _ _ (Nat.lt_succ_self gF)).trans h2.vF.b, fun j => ((bcell hb).2 _ _ (Nat.lt_succ_self gF)).trans (h2.vF.f j)⟩, ho, h2.bel.trans (hb.mono (Nat.le_succ_of_le h.le)), h.le⟩

structure WN (w0 : World) (gF : Nat) (s : Value) (o : List V) (F : V) (gO gN : Nat) (q nx : V) (w : World) : Prop where
  ww : WW w0 gF s o F w
  vO : Vc w gO q.1 q.2
  vN : Vc w gN nx.1 nx.2
  ob : ∀ k, s.ownBlock = some k → k < gN
  l1 : gF < gO
  l2 : gO < gN
theorem WN.keep {w0 : World} {gF : Nat} {s : Value} {o : List V} {F : V} {gO gN : Nat} {q nx : V} {w w' : World} (hb : Below w.heap.size w w') (h : WN w0 gF s o F gO gN q nx w) : WN w0 gF s o F gO gN q nx w' :=
  ⟨h.ww.keep hb, keepVc hb h.vO, keepVc hb h.vN, h.ob, h.l1, h.l2⟩
theorem WN.put {w0 : World} {gF : Nat} {s : Value} {o : List V} {F : V} {gO gN : Nat} {q nx : V} {w : World} (h : WN w0 gF s o F gO gN q nx w) (p : V) : WN w0 gF s o F gO gN q p ((w.setCell ⟨gN, 0, none⟩ (.int .i64 p.1)).setCell ⟨gN, 1, none⟩ (.int .i64 p.2)) := by
  have := h.l1
  have := h.l2
  have := h.ww.le
  refine ⟨⟨h.ww.vF.off (by omega) _ _, (h.ww.own.off (fun k hk => by have := h.ob k hk; omega) _ _).off (fun k hk => by have := h.ob k hk; omega) _ _, (h.ww.bel.setCell (p := ⟨gN, 0, none⟩) (by show _ ≤ gN; omega) _).setCell (p := ⟨gN, 1, none⟩) (by show _ ≤ gN; omega) _, h.ww.le⟩, h.vO.off (by omega) _ _, h.vN.put _ _, h.ob, h.l1, h.l2⟩
def slLen : Value → Nat
  | .slice _ n _ => n
  | _ => 0
theorem sqZ_wide {x y : Int} (hx : -1099511627776 ≤ x ∧ x ≤ 1099511627776) (hy : -1099511627776 ≤ y ∧ y ≤ 1099511627776) : 0 ≤ sqZ x y ∧ sqZ x y ≤ 2417851639229258349412352 := by
  have m1 := mul_bd (x := x) (y := x) (M := 1099511627776) (N := 1099511627776) (by omega) (by omega) (by omega) (by omega)
  have m2 := mul_bd (x := y) (y := y) (M := 1099511627776) (N := 1099511627776) (by omega) (by omega) (by omega) (by omega)
  have := sq_nonneg x
  have := sq_nonneg y
  unfold sqZ
  omega
theorem wn_in {M : Int} (hM : 0 ≤ M) {l : List V} (hw : allWithin M l = true) {o : V} (ho : withinB M o.1 o.2 = true) : ∀ k, k ≤ l.length → withinB M (wnTo l o k).1 (wnTo l o k).2 = true
  | 0, _ => ho
  | k + 1, hk => by
    rw [wnTo, wnStep]
    split
    · exact wn_in hM hw ho k (by omega)
    · split
      · exact allWithin_at hw (by omega)
      · exact wn_in hM hw ho k (by omega)
theorem wf_in {M : Int} {l : List V} (hw : allWithin M l = true) (h0 : 0 < l.length) : ∀ k, k ≤ l.length → withinB M (wfTo l k).1 (wfTo l k).2 = true
  | 0, _ => allWithin_at hw h0
  | k + 1, hk => by
    rw [wfTo]
    split
    · exact allWithin_at hw (by omega)
    · exact wf_in hw h0 k (by omega)
set_option maxRecDepth 100000 in
set_option maxHeartbeats 16000000 in
theorem wrap_calls (A : Option Addr) (n c : Nat) (l : List V) (w : World) (hS : Sl w A n c l) (hw : allWithin 262144000 l = true) (hlen : l.length ≤ 1000000) :
    Calls Try.prog 116 #[.slice A n c] w (RetVecs (wrapL l) w) := by
  have hn := hS.len
  subst hn
  by_cases h0 : l = []
  · have HZ : Hid (wrapL l = []) := by show _ = _; unfold wrapL; rw [h0]; rfl
    have hl0 : l.length = 0 := by rw [h0]; rfl
    rw [HZ.out, hl0]
    clear hS hw hlen HZ h0 hl0
    go_enter Try.func116, Try.ntmps116
    go_wp2
    refine bodyPost_ret (v := .slice none 0 0) (by simp [results, Try.results116, go_sem]) rfl ⟨none, 0, 0, rfl, ⟨rfl, Nat.le_refl _, by omega, fun h => absurd rfl h⟩, by simp, Below.refl _ _⟩
  have hpos : 0 < l.length := by
    rcases Nat.lt_or_ge 0 l.length with g | g
    · exact g
    · exact absurd (List.length_eq_zero_iff.1 (by omega)) h0
  obtain ⟨b, off, rfl, hC⟩ := hS.at_ h0
  have HS := hid hS
  have HWI := hid hw
  have x0 : w.cell? ⟨b, off, none⟩ = some (.int .i64 (wfTo l 0).1) := by simpa [wfTo, ptL] using hC.x 0 hpos
  have y0 : w.cell? ⟨b, off + 1, none⟩ = some (.int .i64 (wfTo l 0).2) := by simpa [wfTo, ptL] using hC.y 0 hpos
  have hbl := hC.lt
  have hne0 : ((l.length : Int) == 0) = false := by simp; omega
  have hpos' : (0 : Int) < (l.length : Int) := by omega
  have HZ : Hid (wrapL l = wrGo l (wfTo l l.length) l.length [wfTo l l.length] (wfTo l l.length)) := by show _ = _; unfold wrapL; rw [if_neg (by omega)]
  generalize wrapL l = Z at *
  clear hS hw hC
  go_enter Try.func116, Try.ntmps116
  go_wp2
  have HV0 := hid (Vc.here w (wfTo l 0).1 (wfTo l 0).2 24)
  have hB0 : Below w.heap.size w (w.alloc (.cells #[.int .i64 (wfTo l 0).1, .int .i64 (wfTo l 0).2] 24)) := by go_grown
  go_loopw [20] (fun j wr => ∃ k : Nat, k ≤ l.length ∧ j = .int .i64 k ∧ Vc wr w.heap.size (wfTo l k).1 (wfTo l k).2 ∧ Below w.heap.size w wr) (fun j _ => l.length - (intOf j).toNat)
  case atStart => exact ⟨0, Nat.zero_le _, rfl, HV0.out, hB0⟩
  case round =>
    clear HV0 hB0 x0 y0
    obtain ⟨k, hk, rfl, hV, hB⟩ := hrel
    obtain ⟨wo, rfl⟩ : ∃ wo : World, wo = wr := ⟨_, rfl⟩
    by_cases hlt : k < l.length
    · have hlt' : (k : Int) < (l.length : Int) := by omega
      obtain ⟨_, _, hA, hC⟩ := (HS.out.below hB).at_ h0
      obtain ⟨rfl, rfl⟩ : _ ∧ _ := ⟨(Addr.mk.inj (Option.some.inj hA)).1, (Addr.mk.inj (Option.some.inj hA)).2.1⟩
      have xk := hC.x k hlt
      have yk := hC.y k hlt
      have hbl := hC.lt
      have HF : Hid (wfTo l (k + 1) = if lowV (ptL l k) (wfTo l k) then ptL l k else wfTo l k) := rfl
      have hVl := hV.lt
      have hwk : IntKind.i64.wrap ((k : Int) + 1) = (k : Int) + 1 := IntWalk.i64_in _ (by omega)
      have HV := hid hV
      obtain ⟨t0, t1, tf⟩ := hV
      obtain ⟨u, hu⟩ : ∃ u, u = (wfTo l k).1 := ⟨_, rfl⟩
      obtain ⟨v, hv⟩ : ∃ u, u = (wfTo l k).2 := ⟨_, rfl⟩
      obtain ⟨x, hx⟩ : ∃ u, u = px l k := ⟨_, rfl⟩
      obtain ⟨y, hy⟩ : ∃ u, u = py l k := ⟨_, rfl⟩
      rw [← hu] at t0 HV
      rw [← hv] at t1 HV
      rw [← hx] at xk
      rw [← hy] at yk
      have HFL : Hid (lowV (ptL l k) (wfTo l k) ↔ y < v ∨ (y = v ∧ x < u)) := by show _ ↔ _; unfold lowV ptL; rw [hu, hv, hx, hy]
      have HUV := hid (And.intro (And.intro hu hv) (And.intro hx hy))
      clear hA hC hu hv hx hy
      have tri : (y < v) ∨ (¬ y < v ∧ y = v ∧ x < u) ∨ (¬ y < v ∧ y = v ∧ ¬ x < u) ∨ (¬ y < v ∧ ¬ y = v) := by omega
      rcases tri with k1 | ⟨k1, k2, k3⟩ | ⟨k1, k2, k3⟩ | ⟨k1, k2⟩
      · have HT := hid (HFL.out.2 (.inl k1))
        clear HFL
        have HF2 : Hid (Vc (((wo.setCell ⟨w.heap.size, 0, none⟩ (.int .i64 x)).setCell ⟨w.heap.size, 1, none⟩ (.int .i64 y)).alloc (.cells #[.int .i64 x, .int .i64 y] 24)) w.heap.size (wfTo l (k + 1)).1 (wfTo l (k + 1)).2) := by
          show Vc _ _ _ _
          rw [HF.out, if_pos HT.out]
          unfold ptL
          rw [← HUV.out.2.1, ← HUV.out.2.2]
          exact (HV.out.put x y).alloc _
        clear HF HUV HT HV
        go_wp2
        go_roundw
        case rel => exact ⟨k + 1, hlt, by go_num, HF2.out, by go_grown⟩
        case measure => simp [intOf]; omega
      · have HT := hid (HFL.out.2 (.inr ⟨k2, k3⟩))
        clear HFL
        subst k2
        have HF2 : Hid (Vc (((wo.setCell ⟨w.heap.size, 0, none⟩ (.int .i64 x)).setCell ⟨w.heap.size, 1, none⟩ (.int .i64 y)).alloc (.cells #[.int .i64 x, .int .i64 y] 24)) w.heap.size (wfTo l (k + 1)).1 (wfTo l (k + 1)).2) := by
          show Vc _ _ _ _
          rw [HF.out, if_pos HT.out]
          unfold ptL
          rw [← HUV.out.2.1, ← HUV.out.2.2]
          exact (HV.out.put x y).alloc _
        clear HF HUV HT HV
        go_wp2
        go_roundw
        case rel => exact ⟨k + 1, hlt, by go_num, HF2.out, by go_grown⟩
        case measure => simp [intOf]; omega
      · have HT : Hid (¬ lowV (ptL l k) (wfTo l k)) := fun h => absurd (HFL.out.1 h) (by omega)
        clear HFL
        subst k2
        have HF2 : Hid (Vc (wo.alloc (.cells #[.int .i64 x, .int .i64 y] 24)) w.heap.size (wfTo l (k + 1)).1 (wfTo l (k + 1)).2) := by
          show Vc _ _ _ _
          rw [HF.out, if_neg HT.out, ← HUV.out.1.1, ← HUV.out.1.2]
          exact HV.out.alloc _
        clear HF HUV HT HV
        go_wp2
        go_roundw
        case rel => exact ⟨k + 1, hlt, by go_num, HF2.out, by go_grown⟩
        case measure => simp [intOf]; omega
      · have HT : Hid (¬ lowV (ptL l k) (wfTo l k)) := fun h => absurd (HFL.out.1 h) (by omega)
        have hne : (y == v) = false := by simp [k2]
        clear HFL
        have HF2 : Hid (Vc (wo.alloc (.cells #[.int .i64 x, .int .i64 y] 24)) w.heap.size (wfTo l (k + 1)).1 (wfTo l (k + 1)).2) := by
          show Vc _ _ _ _
          rw [HF.out, if_neg HT.out, ← HUV.out.1.1, ← HUV.out.1.2]
          exact HV.out.alloc _
        clear HF HUV HT HV
        go_wp2
        go_roundw
        case rel => exact ⟨k + 1, hlt, by go_num, HF2.out, by go_grown⟩
        case measure => simp [intOf]; omega
    · have hke : k = l.length := by omega
      subst hke
      obtain ⟨F, hF⟩ : ∃ F, F = wfTo l l.length := ⟨_, rfl⟩
      have HFI : Hid (withinB 262144000 F.1 F.2 = true) := by show _; rw [hF]; exact wf_in HWI.out hpos _ (Nat.le_refl _)
      rw [← hF] at hV HZ
      clear hF
      have HW0 : Hid (WW w w.heap.size (.slice (some ⟨wo.heap.size, 0, none⟩) 1 1) [F] F (wo.alloc (.cells #[.int .i64 F.1, .int .i64 F.2] 24))) := ⟨hV.alloc _, Own.lit wo (w.heap.size + 1) [F] hV.lt (by simp), hB.alloc hB.size _, Nat.le_refl _⟩
      have t0 := hV.a
      have t1 := hV.b
      clear hV hB
      go_wp2
      go_loopw [6] (fun s wr => ∃ (f : Nat) (o : List V) (q : V), o.length + f = l.length + 1 ∧ (o ≠ [] ∧ ptL o (o.length - 1) = q ∧ withinB 262144000 q.1 q.2 = true) ∧ wrGo l F f o q = Z ∧ WW w w.heap.size s o F wr) (fun s _ => l.length + 2 - slLen s)
      case atStart => exact ⟨l.length, [F], F, by simp; omega, ⟨by simp, rfl, HFI.out⟩, HZ.out.symm, HW0.out⟩
      case round =>
        clear HZ HFI HW0 t0 t1
        obtain ⟨f, o, q, hf, ⟨ho, hq, hqi⟩, hgo, hww⟩ := hrel
        obtain ⟨wo2, rfl⟩ : ∃ wo : World, wo = wr := ⟨_, rfl⟩
        obtain ⟨Ao, no, co, rfl, hso, hfo⟩ := hww.own.sl
        have hno := hso.len
        subst hno
        obtain ⟨bo, oo, rfl, hCo⟩ := hso.at_ ho
        have hom : ∃ m, o.length = m + 1 := ⟨o.length - 1, by have := List.length_pos_iff.2 ho; omega⟩
        obtain ⟨m, hm⟩ := hom
        have HGO := hid hgo
        have HQI := hid hqi
        have HWW := hid hww
        by_cases hlt : m < l.length
        · obtain ⟨f', rfl⟩ : ∃ f', f = f' + 1 := ⟨f - 1, by omega⟩
          have xq := hCo.x m (by omega)
          have yq := hCo.y m (by omega)
          rw [hm, Nat.add_sub_cancel] at hq
          have hq1 : px o m = q.1 := congrArg Prod.fst hq
          have hq2 : py o m = q.2 := congrArg Prod.snd hq
          rw [hq1] at xq
          rw [hq2] at yq
          have hbo := hCo.lt
          have hle : (m : Int) + 1 ≤ (l.length : Int) := by omega
          have hwm : IntKind.i64.wrap ((m : Int) + 1 - 1) = (m : Int) := by rw [Int.add_sub_cancel]; exact IntWalk.i64_in _ (by omega)
          have hml : (m : Int) < (m : Int) + 1 := by omega
          rw [hm]
          clear hgo hqi hww hso hCo hq hq1 hq2 hfo
          have HSL := hid (HS.out.below HWW.out.bel)
          have HWN0 : Hid (WN w w.heap.size (.slice (some ⟨bo, oo, none⟩) o.length co) o F wo2.heap.size (wo2.heap.size + 1) q q ((wo2.alloc (.cells #[.int .i64 q.1, .int .i64 q.2] 24)).alloc (.cells #[.int .i64 q.1, .int .i64 q.2] 24))) := by
            have e : (wo2.alloc (.cells #[.int .i64 q.1, .int .i64 q.2] 24)).heap.size = wo2.heap.size + 1 := by simp
            have h2 := Vc.here (wo2.alloc (.cells #[.int .i64 q.1, .int .i64 q.2] 24)) q.1 q.2 24
            rw [e] at h2
            exact ⟨(HWW.out.keep ((Below.refl _ _).alloc (Nat.le_refl _) _)).keep ((Below.refl _ _).alloc (Nat.le_refl _) _), (Vc.here _ _ _ _).alloc _, h2, fun k hk => by cases hk; show bo < _; omega, HWW.out.vF.lt, Nat.lt_succ_self _⟩
          obtain ⟨gO, hgO⟩ : ∃ g, g = wo2.heap.size := ⟨_, rfl⟩
          obtain ⟨gN, hgN⟩ : ∃ g, g = wo2.heap.size + 1 := ⟨_, rfl⟩
          obtain ⟨wi, hwi⟩ : ∃ w', w' = (wo2.alloc (.cells #[.int .i64 q.1, .int .i64 q.2] 24)).alloc (.cells #[.int .i64 q.1, .int .i64 q.2] 24) := ⟨_, rfl⟩
          rw [← hgN, ← hgO, ← hwi] at HWN0
          obtain ⟨gF, hgF⟩ : ∃ g, g = w.heap.size := ⟨_, rfl⟩
          go_wp2
          rw [← hwi, ← hgN, ← hgO]
          rw [← hgF] at HWW HWN0 ⊢
          rw [hm] at HWN0 HWW
          have HGF := hid hgF
          have HM := hid hm
          have hml2 : m + 1 ≤ l.length := hlt
          clear hwi hgN hgO xq yq hbo hwm hml HWW HSL hgF hm ho
          obtain ⟨u, v⟩ := q
          go_loopw [61] (fun j wr => ∃ k : Nat, k ≤ l.length ∧ j = .int .i64 k ∧ WN w gF (.slice (some ⟨bo, oo, none⟩) (m + 1) co) o F gO gN (u, v) (wnTo l (u, v) k) wr) (fun j _ => l.length - (intOf j).toNat)
          case atStart => exact ⟨0, Nat.zero_le _, rfl, HWN0.out⟩
          case round =>
            clear HWN0
            obtain ⟨k, hk, rfl, hwn⟩ := hrel
            obtain ⟨wp0, rfl⟩ : ∃ wo : World, wo = wr := ⟨_, rfl⟩
            have HNI := hid (wn_in (M := 262144000) (by omega) HWI.out (o := (u, v)) HQI.out k hk)
            have HWN := hid hwn
            by_cases hlt2 : k < l.length
            · have hlt2' : (k : Int) < (l.length : Int) := by omega
              have hCl := (HS.out.below HWN.out.ww.bel).at_ h0
              obtain ⟨_, _, hA, hC⟩ := hCl
              obtain ⟨rfl, rfl⟩ : _ ∧ _ := ⟨(Addr.mk.inj (Option.some.inj hA)).1, (Addr.mk.inj (Option.some.inj hA)).2.1⟩
              have xk := hC.x k hlt2
              have yk := hC.y k hlt2
              have hbl2 := hC.lt
              have hPI := allWithin_at HWI.out hlt2
              have hwk : IntKind.i64.wrap ((k : Int) + 1) = (k : Int) + 1 := IntWalk.i64_in _ (by omega)
              have HN : Hid (wnTo l (u, v) (k + 1) = wnStep (u, v) (wnTo l (u, v) k) (ptL l k)) := rfl
              obtain ⟨z, hz⟩ : ∃ z, z = (wnTo l (u, v) k).1 := ⟨_, rfl⟩
              obtain ⟨t, ht⟩ : ∃ z, z = (wnTo l (u, v) k).2 := ⟨_, rfl⟩
              have hzt : wnTo l (u, v) k = (z, t) := by rw [hz, ht]
              rw [hzt] at HN HNI HWN
              clear hz ht hzt hwn
              obtain ⟨x, hx⟩ : ∃ u, u = px l k := ⟨_, rfl⟩
              obtain ⟨y, hy⟩ : ∃ u, u = py l k := ⟨_, rfl⟩
              have hxy : ptL l k = (x, y) := by rw [hx, hy]; rfl
              rw [← hx] at xk
              rw [← hy] at yk
              rw [← hx, ← hy] at hPI
              rw [hxy] at HN
              clear hx hy hxy hA hC
              have o0 := HWN.out.vO.a
              have o1 := HWN.out.vO.b
              have n0 := HWN.out.vN.a
              have n1 := HWN.out.vN.b
              have nf := HWN.out.vN.f
              have hNl := HWN.out.vN.lt
              have hOl := HWN.out.vO.lt
              have hNl1 := HWN.out.l1
              have hNl2 := HWN.out.l2
              dsimp only at o0 o1 n0 n1
              obtain ⟨e1, he1⟩ : ∃ e, e = (x == u && y == v) := ⟨_, rfl⟩
              obtain ⟨e2, he2⟩ : ∃ e, e = (z == u && t == v) := ⟨_, rfl⟩
              have HQ1 := run_eqV x y u v
              have HQ2 := run_eqV z t u v
              rw [← he1] at HQ1
              rw [← he2] at HQ2
              have HE1 : Hid (e1 = true ↔ (x, y) = (u, v)) := by show _ ↔ _; rw [he1]; simp
              have HE2 : Hid (e2 = true ↔ (z, t) = (u, v)) := by show _ ↔ _; rw [he2]; simp
              clear he1 he2
              cases e1 with
              | true =>
                have HR : Hid (wnTo l (u, v) (k + 1) = (z, t)) := by show _ = _; rw [HN.out, wnStep, if_pos (HE1.out.1 rfl)]
                have HWE := hid (HWN.out.keep ((Below.refl _ _).alloc (Nat.le_refl _) (.cells #[.int .i64 x, .int .i64 y] 24)))
                clear HN HWN HNI HQI HE1 HE2 HQ2
                go_wp2
                go_roundw
                case rel => exact ⟨k + 1, hlt2, by go_num, by rw [HR.out]; exact HWE.out⟩
                case measure => simp [intOf]; omega
              | false =>
                have HN2 : Hid (wnTo l (u, v) (k + 1) = if wrpB (u, v) (z, t) (x, y) then (x, y) else (z, t)) := by show _ = _; rw [HN.out, wnStep, if_neg (fun h => by have := HE1.out.2 h; cases this)]
                clear HN HE1
                obtain ⟨gP, hgP⟩ : ∃ g, g = wp0.heap.size := ⟨_, rfl⟩
                obtain ⟨wp, hwp⟩ : ∃ w, w = wp0.alloc (.cells #[.int .i64 x, .int .i64 y] 24) := ⟨_, rfl⟩
                have HWP := hid (HWN.out.keep ((Below.refl _ _).alloc (Nat.le_refl _) (.cells #[.int .i64 x, .int .i64 y] 24)))
                rw [← hwp] at HWP
                have p0 : wp.cell? ⟨gP, 0, none⟩ = some (.int .i64 x) := by rw [hwp, hgP]; go_simp
                have p1 : wp.cell? ⟨gP, 1, none⟩ = some (.int .i64 y) := by rw [hwp, hgP]; go_simp
                have p2 := HWP.out.vO.a
                have p3 := HWP.out.vO.b
                have p4 := HWP.out.vN.a
                have p5 := HWP.out.vN.b
                dsimp only at p2 p3 p4 p5
                have hB0 : Below wp.heap.size wp wp.drew := (Below.refl _ _).drew
                cases e2 with
                | true =>
                  have HR : Hid (wnTo l (u, v) (k + 1) = (x, y)) := by show _ = _; rw [HN2.out, if_pos (.inl (HE2.out.1 rfl))]
                  clear HN2 HE2 HWN HNI HQI
                  go_upto_region 21 with fail
                  rw [← hwp, ← hgP]
                  clear hwp hgP xk yk o0 o1 n0 n1 nf
                  refine wp_region_noPanic ?_
                  refine wp_region_U (S := (S2 (fun w' => w'.cell? ⟨gP, 0, none⟩ = some (.int .i64 x) ∧ w'.cell? ⟨gP, 1, none⟩ = some (.int .i64 y) ∧ w'.cell? ⟨gO, 0, none⟩ = some (.int .i64 u) ∧ w'.cell? ⟨gO, 1, none⟩ = some (.int .i64 v) ∧ w'.cell? ⟨gN, 0, none⟩ = some (.int .i64 z) ∧ w'.cell? ⟨gN, 1, none⟩ = some (.int .i64 t) ∧ Below wp.heap.size wp w'))) (T := (fun _ => 0)) (by kernel_rfl) (S2i0 ⟨p0, p1, p2, p3, p4, p5, hB0⟩) (fun hH => ?_)
                  have hWr1 : Weaker (S2 (fun w' => w'.cell? ⟨gP, 0, none⟩ = some (.int .i64 x) ∧ w'.cell? ⟨gP, 1, none⟩ = some (.int .i64 y) ∧ w'.cell? ⟨gO, 0, none⟩ = some (.int .i64 u) ∧ w'.cell? ⟨gO, 1, none⟩ = some (.int .i64 v) ∧ w'.cell? ⟨gN, 0, none⟩ = some (.int .i64 z) ∧ w'.cell? ⟨gN, 1, none⟩ = some (.int .i64 t) ∧ Below wp.heap.size wp w')) := weaker2 _
                  refine U_take 0 75 28 0 0 (v := ?vr1_1) rfl (by kernel_rfl) (by kernel_rfl) hWr1 (by kernel_rfl) (by kernel_rfl) (by kernel_rfl) (by kernel_rfl) (by kernel_rfl) (by kernel_rfl) (fun _ _ _ _ h => h) (by kernel_rfl) ?hyr1_1 (by omega) hH ?_
                  case hyr1_1 => (intro w' hSw; replace hSw := S2o0 hSw; (try dsimp only at hSw); have q0 := hSw.1; have q1 := hSw.2.1; have q2 := hSw.2.2.1; have q3 := hSw.2.2.2.1; have q4 := hSw.2.2.2.2.1; have q5 := hSw.2.2.2.2.2.1; have q6 := hSw.2.2.2.2.2.2; go_simp; try (with_reducible rfl))
                  simp only [List.set_cons_zero, List.set_cons_succ]
                  refine U_take 1 76 27 0 0 (v := ?vr1_2) rfl (by kernel_rfl) (by kernel_rfl) hWr1 (by kernel_rfl) (by kernel_rfl) (by kernel_rfl) (by kernel_rfl) (by kernel_rfl) (by kernel_rfl) (fun _ _ _ _ h => h) (by kernel_rfl) ?hyr1_2 (by omega) hH ?_
                  case hyr1_2 => (intro w' hSw; replace hSw := S2o0 hSw; (try dsimp only at hSw); have q0 := hSw.1; have q1 := hSw.2.1; have q2 := hSw.2.2.1; have q3 := hSw.2.2.2.1; have q4 := hSw.2.2.2.2.1; have q5 := hSw.2.2.2.2.2.1; have q6 := hSw.2.2.2.2.2.2; go_simp; try (with_reducible rfl))
                  simp only [List.set_cons_zero, List.set_cons_succ]
                  refine U_take 2 77 26 0 0 (v := ?vr1_3) rfl (by kernel_rfl) (by kernel_rfl) hWr1 (by kernel_rfl) (by kernel_rfl) (by kernel_rfl) (by kernel_rfl) (by kernel_rfl) (by kernel_rfl) (fun _ _ _ _ h => h) (by kernel_rfl) ?hyr1_3 (by omega) hH ?_
                  case hyr1_3 => (intro w' hSw; clear hSw; go_simp; try (with_reducible rfl))
                  simp only [List.set_cons_zero, List.set_cons_succ]
                  refine U_take 3 78 25 0 0 (v := ?vr1_4) rfl (by kernel_rfl) (by kernel_rfl) hWr1 (by kernel_rfl) (by kernel_rfl) (by kernel_rfl) (by kernel_rfl) (by kernel_rfl) (by kernel_rfl) (fun _ _ _ _ h => h) (by kernel_rfl) ?hyr1_4 (by omega) hH ?_
                  case hyr1_4 => (intro w' hSw; clear hSw; go_simp; try (with_reducible rfl))
                  simp only [List.set_cons_zero, List.set_cons_succ]
                  refine U_skips (by kernel_rfl) (fun _ _ _ _ h => h) hWr1 0 0 (by omega) hH [(4, 79), (5, 80)] 23 _ _ _ (by kernel_rfl) (by kernel_rfl) ?_
                  simp only [tsetUndef, List.set_cons_zero, List.set_cons_succ]
                  refine U_take 6 81 22 0 0 (v := ?vr1_5) rfl (by kernel_rfl) (by kernel_rfl) hWr1 (by kernel_rfl) (by kernel_rfl) (by kernel_rfl) (by kernel_rfl) (by kernel_rfl) (by kernel_rfl) (fun _ _ _ _ h => h) (by kernel_rfl) ?hyr1_5 (by omega) hH ?_
                  case hyr1_5 => (intro w' hSw; clear hSw; go_simp; try (with_reducible rfl))
                  simp only [List.set_cons_zero, List.set_cons_succ]
                  refine U_take 7 82 21 0 0 (v := ?vr1_6) rfl (by kernel_rfl) (by kernel_rfl) hWr1 (by kernel_rfl) (by kernel_rfl) (by kernel_rfl) (by kernel_rfl) (by kernel_rfl) (by kernel_rfl) (fun _ _ _ _ h => h) (by kernel_rfl) ?hyr1_6 (by omega) hH ?_
                  case hyr1_6 => (intro w' hSw; clear hSw; go_simp; try (with_reducible rfl))
                  simp only [List.set_cons_zero, List.set_cons_succ]
                  refine U_skips (by kernel_rfl) (fun _ _ _ _ h => h) hWr1 0 0 (by omega) hH [(8, 83), (9, 84), (10, 85), (11, 86), (12, 87), (13, 88), (14, 89), (15, 90), (16, 91), (17, 92), (18, 93), (19, 94), (20, 95), (21, 96), (22, 97), (23, 98), (24, 99), (25, 100), (26, 101), (27, 102)] 1 _ _ _ (by kernel_rfl) (by kernel_rfl) ?_
                  simp only [tsetUndef, List.set_cons_zero, List.set_cons_succ]
                  refine U_take 28 103 0 0 0 (v := ?vr1_7) rfl (by kernel_rfl) (by kernel_rfl) hWr1 (by kernel_rfl) (by kernel_rfl) (by kernel_rfl) (by kernel_rfl) (by kernel_rfl) (by kernel_rfl) (fun _ _ _ _ h => h) (by kernel_rfl) ?hyr1_7 (by omega) hH ?_
                  case hyr1_7 => (intro w' hSw; clear hSw; go_simp; try (with_reducible rfl))
                  simp only [List.set_cons_zero, List.set_cons_succ]
                  refine wpAnyU_done (by kernel_rfl) ?_ _ _
                  refine NoPanic.normal ?_
                  clear hWr1
                  replace hH := S2o0 hH
                  (try dsimp only at hH)
                  have q0 := hH.1
                  have q1 := hH.2.1
                  have q2 := hH.2.2.1
                  have q3 := hH.2.2.2.1
                  have q4 := hH.2.2.2.2.1
                  have q5 := hH.2.2.2.2.2.1
                  have q6 := hH.2.2.2.2.2.2
                  clear hH
                  try clear hb
                  try generalize wp.drew = wq at *
                  have HWE := hid ((HWP.out.keep q6).put (x, y))
                  have nf := (HWP.out.keep q6).vN.f
                  have hgl := (HWP.out.keep q6).vN.lt
                  clear HWP q6
                  go_wp2
                  go_roundw
                  case rel => first | exact ⟨k + 1, hlt2, by go_num, by rw [HR.out]; exact HWE.out⟩ | exact ⟨_, _, _, ⟨k + 1, hlt2, by go_num, by rw [HR.out]; exact HWE.out⟩, rfl, rfl, rfl⟩ | exact ⟨_, _, ⟨k + 1, hlt2, by go_num, by rw [HR.out]; exact HWE.out⟩, rfl, rfl⟩ | exact ⟨_, ⟨k + 1, hlt2, by go_num, by rw [HR.out]; exact HWE.out⟩, rfl⟩
                  case measure => simp [intOf]; omega
                | false =>
                  have HNE : Hid (¬ (z, t) = (u, v)) := fun h => by have := HE2.out.2 h; cases this
                  obtain ⟨_, _, _, _⟩ := withinB_iff.1 hPI
                  obtain ⟨_, _, _, _⟩ := withinB_iff.1 HNI.out
                  obtain ⟨_, _, _, _⟩ := withinB_iff.1 HQI.out
                  dsimp only at *
                  have HLF : Hid (∀ w, Calls Try.prog 108 #[vecV u v, vecV z t, vecV x y] w (Ret (.int .i64 (sgV (u, v) (z, t) (x, y))) w)) := fun w => left_calls _ _ _ _ _ _ (by unfold sm; omega) (by unfold sm; omega) (by unfold sm; omega) (by unfold sm; omega) (by unfold sm; omega) (by unfold sm; omega) w
                  have HSG := hid (show sgV (u, v) (z, t) (x, y) = sgV (u, v) (z, t) (x, y) from rfl)
                  obtain ⟨sg, hsg⟩ : ∃ s, s = sgV (u, v) (z, t) (x, y) := ⟨_, rfl⟩
                  rw [← hsg] at HLF
                  have HN3 : Hid (wnTo l (u, v) (k + 1) = if sg < 0 ∨ (sg = 0 ∧ sqZ (z - u) (t - v) < sqZ (x - u) (y - v)) then (x, y) else (z, t)) := by
                    show _ = _
                    rw [HN2.out]
                    have e : wrpB (u, v) (z, t) (x, y) ↔ (sg < 0 ∨ (sg = 0 ∧ sqZ (z - u) (t - v) < sqZ (x - u) (y - v))) := by
                      rw [hsg, sg_neg, sg_zero]
                      unfold wrpB
                      constructor
                      · rintro (h | h)
                        · exact absurd h HNE.out
                        · exact h
                      · exact .inr
                    by_cases h : wrpB (u, v) (z, t) (x, y)
                    · rw [if_pos h, if_pos (e.1 h)]
                    · rw [if_neg h, if_neg (fun g => h (e.2 g))]
                  clear HSG hsg HN2 HE2 HNE
                  have HSP := hid (fun w => sub_small x y u v w (by unfold sm; omega) (by unfold sm; omega) (by unfold sm; omega) (by unfold sm; omega))
                  have HSN := hid (fun w => sub_small z t u v w (by unfold sm; omega) (by unfold sm; omega) (by unfold sm; omega) (by unfold sm; omega))
                  have HDP := hid (fun w => rdot_calls (x - u) (y - v) (x - u) (y - v) (by omega) (by omega) (by omega) (by omega) w)
                  have HDN := hid (fun w => rdot_calls (z - u) (t - v) (z - u) (t - v) (by omega) (by omega) (by omega) (by omega) w)
                  have m1 := sqZ_wide (x := x - u) (y := y - v) (by omega) (by omega)
                  have m2 := sqZ_wide (x := z - u) (y := t - v) (by omega) (by omega)
                  change Hid (∀ w, Calls _ _ _ _ (Ret (bigV (sqZ (x - u) (y - v))) w)) at HDP
                  change Hid (∀ w, Calls _ _ _ _ (Ret (bigV (sqZ (z - u) (t - v))) w)) at HDN
                  generalize sqZ (x - u) (y - v) = SP at *
                  generalize sqZ (z - u) (t - v) = SN at *
                  have HCM := hid (fun w => bcmp_calls SP SN (by omega) (by omega) (by omega) (by omega) w)
                  have HCP := hid (cmpZ_pos (a := SP) (b := SN))
                  generalize cmpZ SP SN = cm at *
                  generalize x - u = ex at *
                  generalize y - v = ey at *
                  generalize z - u = fx at *
                  generalize t - v = fy at *
                  clear hPI HNI HQI m1 m2
                  go_upto_region 20 with fail
                  rw [← hwp, ← hgP]
                  clear hwp hgP xk yk o0 o1 n0 n1 nf
                  go_wp2_with fail
                  refine (HLF.out _).mono ?_
                  rintro e w2 ⟨rfl, hb2⟩
                  replace p0 := keepCell hb2 p0
                  replace p1 := keepCell hb2 p1
                  replace p2 := keepCell hb2 p2
                  replace p3 := keepCell hb2 p3
                  replace p4 := keepCell hb2 p4
                  replace p5 := keepCell hb2 p5
                  replace HWP := hid (HWP.out.keep hb2)
                  clear hb2 hB0 HLF HWN
                  obtain ⟨wp, rfl⟩ : ∃ wq : World, wq = w2 := ⟨_, rfl⟩
                  have hB0 : Below wp.heap.size wp wp.drew := (Below.refl _ _).drew
                  obtain ⟨tk, htk⟩ : ∃ b : Bool, b = decide (sg < 0 ∨ (sg = 0 ∧ SN < SP)) := ⟨_, rfl⟩
                  have HR1 : Hid (tk = true → wnTo l (u, v) (k + 1) = (x, y)) := fun h => by rw [HN3.out, if_pos (by rw [htk] at h; exact of_decide_eq_true h)]
                  have HR2 : Hid (tk = false → wnTo l (u, v) (k + 1) = (z, t)) := fun h => by rw [HN3.out, if_neg (by rw [htk] at h; exact of_decide_eq_false h)]
                  have HTK := hid htk
                  clear HN3 htk
                  go_upto_region 21 with fail
                  go_cut [103] from 75 to 102 (fun t wx => t = .bool tk ∧ Below wp.heap.size wp wx)
                  case first =>
                    have tri : sg < 0 ∨ (¬ sg < 0 ∧ sg = 0 ∧ 0 < cm) ∨ (¬ sg < 0 ∧ sg = 0 ∧ ¬ 0 < cm) ∨ (¬ sg < 0 ∧ ¬ sg = 0) := by omega
                    rcases tri with c1 | ⟨c1, c2, c3⟩ | ⟨c1, c2, c3⟩ | ⟨c1, c2⟩
                    · obtain rfl : tk = true := HTK.out.trans (decide_eq_true (.inl c1))
                      clear HTK HR1 HR2 HCP
                      refine wp_region_noPanic ?_
                      refine wp_region_U (S := (S2 (fun w' => w'.cell? ⟨gP, 0, none⟩ = some (.int .i64 x) ∧ w'.cell? ⟨gP, 1, none⟩ = some (.int .i64 y) ∧ w'.cell? ⟨gO, 0, none⟩ = some (.int .i64 u) ∧ w'.cell? ⟨gO, 1, none⟩ = some (.int .i64 v) ∧ w'.cell? ⟨gN, 0, none⟩ = some (.int .i64 z) ∧ w'.cell? ⟨gN, 1, none⟩ = some (.int .i64 t) ∧ Below wp.heap.size wp w'))) (T := (fun _ => 0)) (by kernel_rfl) (S2i0 ⟨p0, p1, p2, p3, p4, p5, hB0⟩) (fun hH => ?_)
                      have hWr2 : Weaker (S2 (fun w' => w'.cell? ⟨gP, 0, none⟩ = some (.int .i64 x) ∧ w'.cell? ⟨gP, 1, none⟩ = some (.int .i64 y) ∧ w'.cell? ⟨gO, 0, none⟩ = some (.int .i64 u) ∧ w'.cell? ⟨gO, 1, none⟩ = some (.int .i64 v) ∧ w'.cell? ⟨gN, 0, none⟩ = some (.int .i64 z) ∧ w'.cell? ⟨gN, 1, none⟩ = some (.int .i64 t) ∧ Below wp.heap.size wp w')) := weaker2 _
                      refine U_take 0 75 28 0 0 (v := ?vr2_1) rfl (by kernel_rfl) (by kernel_rfl) hWr2 (by kernel_rfl) (by kernel_rfl) (by kernel_rfl) (by kernel_rfl) (by kernel_rfl) (by kernel_rfl) (fun _ _ _ _ h => h) (by kernel_rfl) ?hyr2_1 (by omega) hH ?_
                      case hyr2_1 => (intro w' hSw; replace hSw := S2o0 hSw; (try dsimp only at hSw); have q0 := hSw.1; have q1 := hSw.2.1; have q2 := hSw.2.2.1; have q3 := hSw.2.2.2.1; have q4 := hSw.2.2.2.2.1; have q5 := hSw.2.2.2.2.2.1; have q6 := hSw.2.2.2.2.2.2; go_simp; try (with_reducible rfl))
                      simp only [List.set_cons_zero, List.set_cons_succ]
                      refine U_take 1 76 27 0 0 (v := ?vr2_2) rfl (by kernel_rfl) (by kernel_rfl) hWr2 (by kernel_rfl) (by kernel_rfl) (by kernel_rfl) (by kernel_rfl) (by kernel_rfl) (by kernel_rfl) (fun _ _ _ _ h => h) (by kernel_rfl) ?hyr2_2 (by omega) hH ?_
                      case hyr2_2 => (intro w' hSw; replace hSw := S2o0 hSw; (try dsimp only at hSw); have q0 := hSw.1; have q1 := hSw.2.1; have q2 := hSw.2.2.1; have q3 := hSw.2.2.2.1; have q4 := hSw.2.2.2.2.1; have q5 := hSw.2.2.2.2.2.1; have q6 := hSw.2.2.2.2.2.2; go_simp; try (with_reducible rfl))
                      simp only [List.set_cons_zero, List.set_cons_succ]
                      refine U_take 2 77 26 0 0 (v := ?vr2_3) rfl (by kernel_rfl) (by kernel_rfl) hWr2 (by kernel_rfl) (by kernel_rfl) (by kernel_rfl) (by kernel_rfl) (by kernel_rfl) (by kernel_rfl) (fun _ _ _ _ h => h) (by kernel_rfl) ?hyr2_3 (by omega) hH ?_
                      case hyr2_3 => (intro w' hSw; clear hSw; go_simp; try (with_reducible rfl))
                      simp only [List.set_cons_zero, List.set_cons_succ]
                      refine U_take 3 78 25 0 0 (v := ?vr2_4) rfl (by kernel_rfl) (by kernel_rfl) hWr2 (by kernel_rfl) (by kernel_rfl) (by kernel_rfl) (by kernel_rfl) (by kernel_rfl) (by kernel_rfl) (fun _ _ _ _ h => h) (by kernel_rfl) ?hyr2_4 (by omega) hH ?_
                      case hyr2_4 => (intro w' hSw; clear hSw; go_simp; try (with_reducible rfl))
                      simp only [List.set_cons_zero, List.set_cons_succ]
                      refine U_take 4 79 24 0 0 (v := ?vr2_5) rfl (by kernel_rfl) (by kernel_rfl) hWr2 (by kernel_rfl) (by kernel_rfl) (by kernel_rfl) (by kernel_rfl) (by kernel_rfl) (by kernel_rfl) (fun _ _ _ _ h => h) (by kernel_rfl) ?hyr2_5 (by omega) hH ?_
                      case hyr2_5 => (intro w' hSw; clear hSw; go_simp; try (with_reducible rfl))
                      simp only [List.set_cons_zero, List.set_cons_succ]
                      refine U_take 5 80 23 0 0 (v := ?vr2_6) rfl (by kernel_rfl) (by kernel_rfl) hWr2 (by kernel_rfl) (by kernel_rfl) (by kernel_rfl) (by kernel_rfl) (by kernel_rfl) (by kernel_rfl) (fun _ _ _ _ h => h) (by kernel_rfl) ?hyr2_6 (by omega) hH ?_
                      case hyr2_6 => (intro w' hSw; clear hSw; go_simp; try (with_reducible rfl))
                      simp only [List.set_cons_zero, List.set_cons_succ]
                      refine U_take 6 81 22 0 0 (v := ?vr2_7) rfl (by kernel_rfl) (by kernel_rfl) hWr2 (by kernel_rfl) (by kernel_rfl) (by kernel_rfl) (by kernel_rfl) (by kernel_rfl) (by kernel_rfl) (fun _ _ _ _ h => h) (by kernel_rfl) ?hyr2_7 (by omega) hH ?_
                      case hyr2_7 => (intro w' hSw; clear hSw; go_simp; try (with_reducible rfl))
                      simp only [List.set_cons_zero, List.set_cons_succ]
                      refine U_take 7 82 21 0 0 (v := ?vr2_8) rfl (by kernel_rfl) (by kernel_rfl) hWr2 (by kernel_rfl) (by kernel_rfl) (by kernel_rfl) (by kernel_rfl) (by kernel_rfl) (by kernel_rfl) (fun _ _ _ _ h => h) (by kernel_rfl) ?hyr2_8 (by omega) hH ?_
                      case hyr2_8 => (intro w' hSw; clear hSw; go_simp; try (with_reducible rfl))
                      simp only [List.set_cons_zero, List.set_cons_succ]
                      refine U_skips (by kernel_rfl) (fun _ _ _ _ h => h) hWr2 0 0 (by omega) hH [(8, 83), (9, 84), (10, 85), (11, 86), (12, 87), (13, 88), (14, 89), (15, 90), (16, 91), (17, 92), (18, 93), (19, 94), (20, 95), (21, 96), (22, 97), (23, 98), (24, 99), (25, 100), (26, 101), (27, 102)] 1 _ _ _ (by kernel_rfl) (by kernel_rfl) ?_
                      simp only [tsetUndef, List.set_cons_zero, List.set_cons_succ]
                      refine U_take 28 103 0 0 0 (v := ?vr2_9) rfl (by kernel_rfl) (by kernel_rfl) hWr2 (by kernel_rfl) (by kernel_rfl) (by kernel_rfl) (by kernel_rfl) (by kernel_rfl) (by kernel_rfl) (fun _ _ _ _ h => h) (by kernel_rfl) ?hyr2_9 (by omega) hH ?_
                      case hyr2_9 => (intro w' hSw; clear hSw; go_simp; try (with_reducible rfl))
                      simp only [List.set_cons_zero, List.set_cons_succ]
                      refine wpAnyU_done (by kernel_rfl) ?_ _ _
                      refine NoPanic.normal ?_
                      have hG := hH
                      replace hG := S2o0 hG
                      (try dsimp only at hG)
                      have q0 := hG.1
                      have q1 := hG.2.1
                      have q2 := hG.2.2.1
                      have q3 := hG.2.2.2.1
                      have q4 := hG.2.2.2.2.1
                      have q5 := hG.2.2.2.2.2.1
                      have q6 := hG.2.2.2.2.2.2
                      clear hG hH
                      try clear hb
                      go_wp2_with fail
                      go_meet
                      exact ⟨rfl, q6⟩
                    · obtain rfl : tk = true := HTK.out.trans (decide_eq_true (.inr ⟨c2, HCP.out.1 c3⟩))
                      clear HTK HR1 HR2 HCP
                      subst c2
                      refine wp_region_noPanic ?_
                      refine wp_region_U (S := (S2 (fun w' => w'.cell? ⟨gP, 0, none⟩ = some (.int .i64 x) ∧ w'.cell? ⟨gP, 1, none⟩ = some (.int .i64 y) ∧ w'.cell? ⟨gO, 0, none⟩ = some (.int .i64 u) ∧ w'.cell? ⟨gO, 1, none⟩ = some (.int .i64 v) ∧ w'.cell? ⟨gN, 0, none⟩ = some (.int .i64 z) ∧ w'.cell? ⟨gN, 1, none⟩ = some (.int .i64 t) ∧ Below wp.heap.size wp w'))) (T := (fun _ => 0)) (by kernel_rfl) (S2i0 ⟨p0, p1, p2, p3, p4, p5, hB0⟩) (fun hH => ?_)
                      have hWr3 : Weaker (S2 (fun w' => w'.cell? ⟨gP, 0, none⟩ = some (.int .i64 x) ∧ w'.cell? ⟨gP, 1, none⟩ = some (.int .i64 y) ∧ w'.cell? ⟨gO, 0, none⟩ = some (.int .i64 u) ∧ w'.cell? ⟨gO, 1, none⟩ = some (.int .i64 v) ∧ w'.cell? ⟨gN, 0, none⟩ = some (.int .i64 z) ∧ w'.cell? ⟨gN, 1, none⟩ = some (.int .i64 t) ∧ Below wp.heap.size wp w')) := weaker2 _
                      refine U_take 0 75 28 0 0 (v := ?vr3_1) rfl (by kernel_rfl) (by kernel_rfl) hWr3 (by kernel_rfl) (by kernel_rfl) (by kernel_rfl) (by kernel_rfl) (by kernel_rfl) (by kernel_rfl) (fun _ _ _ _ h => h) (by kernel_rfl) ?hyr3_1 (by omega) hH ?_
                      case hyr3_1 => (intro w' hSw; replace hSw := S2o0 hSw; (try dsimp only at hSw); have q0 := hSw.1; have q1 := hSw.2.1; have q2 := hSw.2.2.1; have q3 := hSw.2.2.2.1; have q4 := hSw.2.2.2.2.1; have q5 := hSw.2.2.2.2.2.1; have q6 := hSw.2.2.2.2.2.2; go_simp; try (with_reducible rfl))
                      simp only [List.set_cons_zero, List.set_cons_succ]
                      refine U_take 1 76 27 0 0 (v := ?vr3_2) rfl (by kernel_rfl) (by kernel_rfl) hWr3 (by kernel_rfl) (by kernel_rfl) (by kernel_rfl) (by kernel_rfl) (by kernel_rfl) (by kernel_rfl) (fun _ _ _ _ h => h) (by kernel_rfl) ?hyr3_2 (by omega) hH ?_
                      case hyr3_2 => (intro w' hSw; replace hSw := S2o0 hSw; (try dsimp only at hSw); have q0 := hSw.1; have q1 := hSw.2.1; have q2 := hSw.2.2.1; have q3 := hSw.2.2.2.1; have q4 := hSw.2.2.2.2.1; have q5 := hSw.2.2.2.2.2.1; have q6 := hSw.2.2.2.2.2.2; go_simp; try (with_reducible rfl))
                      simp only [List.set_cons_zero, List.set_cons_succ]
                      refine U_take 2 77 26 0 0 (v := ?vr3_3) rfl (by kernel_rfl) (by kernel_rfl) hWr3 (by kernel_rfl) (by kernel_rfl) (by kernel_rfl) (by kernel_rfl) (by kernel_rfl) (by kernel_rfl) (fun _ _ _ _ h => h) (by kernel_rfl) ?hyr3_3 (by omega) hH ?_
                      case hyr3_3 => (intro w' hSw; clear hSw; go_simp; try (with_reducible rfl))
                      simp only [List.set_cons_zero, List.set_cons_succ]
                      refine U_take 3 78 25 0 0 (v := ?vr3_4) rfl (by kernel_rfl) (by kernel_rfl) hWr3 (by kernel_rfl) (by kernel_rfl) (by kernel_rfl) (by kernel_rfl) (by kernel_rfl) (by kernel_rfl) (fun _ _ _ _ h => h) (by kernel_rfl) ?hyr3_4 (by omega) hH ?_
                      case hyr3_4 => (intro w' hSw; clear hSw; go_simp; try (with_reducible rfl))
                      simp only [List.set_cons_zero, List.set_cons_succ]
                      refine U_take 4 79 24 0 0 (v := ?vr3_5) rfl (by kernel_rfl) (by kernel_rfl) hWr3 (by kernel_rfl) (by kernel_rfl) (by kernel_rfl) (by kernel_rfl) (by kernel_rfl) (by kernel_rfl) (fun _ _ _ _ h => h) (by kernel_rfl) ?hyr3_5 (by omega) hH ?_
                      case hyr3_5 => (intro w' hSw; clear hSw; go_simp; try (with_reducible rfl))
                      simp only [List.set_cons_zero, List.set_cons_succ]
                      refine U_take 5 80 23 0 0 (v := ?vr3_6) rfl (by kernel_rfl) (by kernel_rfl) hWr3 (by kernel_rfl) (by kernel_rfl) (by kernel_rfl) (by kernel_rfl) (by kernel_rfl) (by kernel_rfl) (fun _ _ _ _ h => h) (by kernel_rfl) ?hyr3_6 (by omega) hH ?_
                      case hyr3_6 => (intro w' hSw; clear hSw; go_simp; try (with_reducible rfl))
                      simp only [List.set_cons_zero, List.set_cons_succ]
                      refine U_take 6 81 22 0 0 (v := ?vr3_7) rfl (by kernel_rfl) (by kernel_rfl) hWr3 (by kernel_rfl) (by kernel_rfl) (by kernel_rfl) (by kernel_rfl) (by kernel_rfl) (by kernel_rfl) (fun _ _ _ _ h => h) (by kernel_rfl) ?hyr3_7 (by omega) hH ?_
                      case hyr3_7 => (intro w' hSw; clear hSw; go_simp; try (with_reducible rfl))
                      simp only [List.set_cons_zero, List.set_cons_succ]
                      refine U_take 7 82 21 0 0 (v := ?vr3_8) rfl (by kernel_rfl) (by kernel_rfl) hWr3 (by kernel_rfl) (by kernel_rfl) (by kernel_rfl) (by kernel_rfl) (by kernel_rfl) (by kernel_rfl) (fun _ _ _ _ h => h) (by kernel_rfl) ?hyr3_8 (by omega) hH ?_
                      case hyr3_8 => (intro w' hSw; clear hSw; go_simp; try (with_reducible rfl))
                      simp only [List.set_cons_zero, List.set_cons_succ]
                      refine U_take 8 83 20 0 0 (v := ?vr3_9) rfl (by kernel_rfl) (by kernel_rfl) hWr3 (by kernel_rfl) (by kernel_rfl) (by kernel_rfl) (by kernel_rfl) (by kernel_rfl) (by kernel_rfl) (fun _ _ _ _ h => h) (by kernel_rfl) ?hyr3_9 (by omega) hH ?_
                      case hyr3_9 => (intro w' hSw; clear hSw; go_simp; try (with_reducible rfl))
                      simp only [List.set_cons_zero, List.set_cons_succ]
                      refine U_take 9 84 19 0 0 (v := ?vr3_10) rfl (by kernel_rfl) (by kernel_rfl) hWr3 (by kernel_rfl) (by kernel_rfl) (by kernel_rfl) (by kernel_rfl) (by kernel_rfl) (by kernel_rfl) (fun _ _ _ _ h => h) (by kernel_rfl) ?hyr3_10 (by omega) hH ?_
                      case hyr3_10 => (intro w' hSw; clear hSw; go_simp; try (with_reducible rfl))
                      simp only [List.set_cons_zero, List.set_cons_succ]
                      refine U_take 10 85 18 0 0 (v := ?vr3_11) rfl (by kernel_rfl) (by kernel_rfl) hWr3 (by kernel_rfl) (by kernel_rfl) (by kernel_rfl) (by kernel_rfl) (by kernel_rfl) (by kernel_rfl) (fun _ _ _ _ h => h) (by kernel_rfl) ?hyr3_11 (by omega) hH ?_
                      case hyr3_11 => (intro w' hSw; clear hSw; go_simp; try (with_reducible rfl))
                      simp only [List.set_cons_zero, List.set_cons_succ]
                      refine U_take 11 86 17 0 0 (v := ?vr3_12) rfl (by kernel_rfl) (by kernel_rfl) hWr3 (by kernel_rfl) (by kernel_rfl) (by kernel_rfl) (by kernel_rfl) (by kernel_rfl) (by kernel_rfl) (fun _ _ _ _ h => h) (by kernel_rfl) ?hyr3_12 (by omega) hH ?_
                      case hyr3_12 => (intro w' hSw; replace hSw := S2o0 hSw; (try dsimp only at hSw); have q0 := hSw.1; have q1 := hSw.2.1; have q2 := hSw.2.2.1; have q3 := hSw.2.2.2.1; have q4 := hSw.2.2.2.2.1; have q5 := hSw.2.2.2.2.2.1; have q6 := hSw.2.2.2.2.2.2; go_simp; try (with_reducible rfl))
                      simp only [List.set_cons_zero, List.set_cons_succ]
                      refine U_take 12 87 16 0 0 (v := ?vr3_13) rfl (by kernel_rfl) (by kernel_rfl) hWr3 (by kernel_rfl) (by kernel_rfl) (by kernel_rfl) (by kernel_rfl) (by kernel_rfl) (by kernel_rfl) (fun _ _ _ _ h => h) (by kernel_rfl) ?hyr3_13 (by omega) hH ?_
                      case hyr3_13 => (intro w' hSw; replace hSw := S2o0 hSw; (try dsimp only at hSw); have q0 := hSw.1; have q1 := hSw.2.1; have q2 := hSw.2.2.1; have q3 := hSw.2.2.2.1; have q4 := hSw.2.2.2.2.1; have q5 := hSw.2.2.2.2.2.1; have q6 := hSw.2.2.2.2.2.2; go_simp; try (with_reducible rfl))
                      simp only [List.set_cons_zero, List.set_cons_succ]
                      refine U_take 14 89 15 0 0 (v := ?vr3_14) rfl (by kernel_rfl) (by kernel_rfl) hWr3 (by kernel_rfl) (by kernel_rfl) (by kernel_rfl) (by kernel_rfl) (by kernel_rfl) (by kernel_rfl) (fun _ _ _ _ h => h) (by kernel_rfl) ?hyr3_14 (by omega) hH ?_
                      case hyr3_14 => (intro w' hSw; replace hSw := S2o0 hSw; (try dsimp only at hSw); have q0 := hSw.1; have q1 := hSw.2.1; have q2 := hSw.2.2.1; have q3 := hSw.2.2.2.1; have q4 := hSw.2.2.2.2.1; have q5 := hSw.2.2.2.2.2.1; have q6 := hSw.2.2.2.2.2.2; go_simp; try (with_reducible rfl))
                      simp only [List.set_cons_zero, List.set_cons_succ]
                      refine U_take 15 90 14 0 0 (v := ?vr3_15) rfl (by kernel_rfl) (by kernel_rfl) hWr3 (by kernel_rfl) (by kernel_rfl) (by kernel_rfl) (by kernel_rfl) (by kernel_rfl) (by kernel_rfl) (fun _ _ _ _ h => h) (by kernel_rfl) ?hyr3_15 (by omega) hH ?_
                      case hyr3_15 => (intro w' hSw; replace hSw := S2o0 hSw; (try dsimp only at hSw); have q0 := hSw.1; have q1 := hSw.2.1; have q2 := hSw.2.2.1; have q3 := hSw.2.2.2.1; have q4 := hSw.2.2.2.2.1; have q5 := hSw.2.2.2.2.2.1; have q6 := hSw.2.2.2.2.2.2; go_simp; try (with_reducible rfl))
                      simp only [List.set_cons_zero, List.set_cons_succ]
                      refine U_take 18 93 13 0 0 (v := ?vr3_16) rfl (by kernel_rfl) (by kernel_rfl) hWr3 (by kernel_rfl) (by kernel_rfl) (by kernel_rfl) (by kernel_rfl) (by kernel_rfl) (by kernel_rfl) (fun _ _ _ _ h => h) (by kernel_rfl) ?hyr3_16 (by omega) hH ?_
                      case hyr3_16 => (intro w' hSw; replace hSw := S2o0 hSw; (try dsimp only at hSw); have q0 := hSw.1; have q1 := hSw.2.1; have q2 := hSw.2.2.1; have q3 := hSw.2.2.2.1; have q4 := hSw.2.2.2.2.1; have q5 := hSw.2.2.2.2.2.1; have q6 := hSw.2.2.2.2.2.2; go_simp; try (with_reducible rfl))
                      simp only [List.set_cons_zero, List.set_cons_succ]
                      refine U_take 19 94 12 0 0 (v := ?vr3_17) rfl (by kernel_rfl) (by kernel_rfl) hWr3 (by kernel_rfl) (by kernel_rfl) (by kernel_rfl) (by kernel_rfl) (by kernel_rfl) (by kernel_rfl) (fun _ _ _ _ h => h) (by kernel_rfl) ?hyr3_17 (by omega) hH ?_
                      case hyr3_17 => (intro w' hSw; replace hSw := S2o0 hSw; (try dsimp only at hSw); have q0 := hSw.1; have q1 := hSw.2.1; have q2 := hSw.2.2.1; have q3 := hSw.2.2.2.1; have q4 := hSw.2.2.2.2.1; have q5 := hSw.2.2.2.2.2.1; have q6 := hSw.2.2.2.2.2.2; go_simp; try (with_reducible rfl))
                      simp only [List.set_cons_zero, List.set_cons_succ]
                      refine U_take 21 96 11 0 0 (v := ?vr3_18) rfl (by kernel_rfl) (by kernel_rfl) hWr3 (by kernel_rfl) (by kernel_rfl) (by kernel_rfl) (by kernel_rfl) (by kernel_rfl) (by kernel_rfl) (fun _ _ _ _ h => h) (by kernel_rfl) ?hyr3_18 (by omega) hH ?_
                      case hyr3_18 => (intro w' hSw; replace hSw := S2o0 hSw; (try dsimp only at hSw); have q0 := hSw.1; have q1 := hSw.2.1; have q2 := hSw.2.2.1; have q3 := hSw.2.2.2.1; have q4 := hSw.2.2.2.2.1; have q5 := hSw.2.2.2.2.2.1; have q6 := hSw.2.2.2.2.2.2; go_simp; try (with_reducible rfl))
                      simp only [List.set_cons_zero, List.set_cons_succ]
                      refine U_take 22 97 10 0 0 (v := ?vr3_19) rfl (by kernel_rfl) (by kernel_rfl) hWr3 (by kernel_rfl) (by kernel_rfl) (by kernel_rfl) (by kernel_rfl) (by kernel_rfl) (by kernel_rfl) (fun _ _ _ _ h => h) (by kernel_rfl) ?hyr3_19 (by omega) hH ?_
                      case hyr3_19 => (intro w' hSw; replace hSw := S2o0 hSw; (try dsimp only at hSw); have q0 := hSw.1; have q1 := hSw.2.1; have q2 := hSw.2.2.1; have q3 := hSw.2.2.2.1; have q4 := hSw.2.2.2.2.1; have q5 := hSw.2.2.2.2.2.1; have q6 := hSw.2.2.2.2.2.2; go_simp; try (with_reducible rfl))
                      simp only [List.set_cons_zero, List.set_cons_succ]
                      refine wpAnyU_ready (rs := [13]) (by kernel_rfl) (by simp) ?_
                      refine AllReadyU.cons 0 (by kernel_rfl) (o := _) rfl (fun K hK => ?_) AllReadyU.nil
                      try clear hb
                      go_simp
                      (go_at_call 113; refine (HSP.out _).mono ?_; rintro e wn ⟨rfl, hb⟩)
                      refine hK.out _ _ ?hsr3_20 (fun hH2 => ?hrr3_20)
                      case hsr3_20 => exact S2i0 (by have hG := hH; replace hG := S2o0 hG; (try dsimp only at hG); have q0 := hG.1; have q1 := hG.2.1; have q2 := hG.2.2.1; have q3 := hG.2.2.2.1; have q4 := hG.2.2.2.2.1; have q5 := hG.2.2.2.2.2.1; have q6 := hG.2.2.2.2.2.2; exact ⟨keepCell hb q0, keepCell hb q1, keepCell hb q2, keepCell hb q3, keepCell hb q4, keepCell hb q5, keepBelow hb q6⟩)
                      clear hK K hH
                      have hH := hH2
                      clear hH2
                      try simp only [Act.put, List.setIfInBounds_toArray, List.set_cons_zero, List.set_cons_succ]
                      refine wpAnyU_ready (rs := [16]) (by kernel_rfl) (by simp) ?_
                      refine AllReadyU.cons 0 (by kernel_rfl) (o := _) rfl (fun K hK => ?_) AllReadyU.nil
                      try clear hb
                      go_simp
                      (go_at_call 113; refine (HSP.out _).mono ?_; rintro e wn ⟨rfl, hb⟩)
                      refine hK.out _ _ ?hsr3_21 (fun hH2 => ?hrr3_21)
                      case hsr3_21 => exact S2i0 (by have hG := hH; replace hG := S2o0 hG; (try dsimp only at hG); have q0 := hG.1; have q1 := hG.2.1; have q2 := hG.2.2.1; have q3 := hG.2.2.2.1; have q4 := hG.2.2.2.2.1; have q5 := hG.2.2.2.2.2.1; have q6 := hG.2.2.2.2.2.2; exact ⟨keepCell hb q0, keepCell hb q1, keepCell hb q2, keepCell hb q3, keepCell hb q4, keepCell hb q5, keepBelow hb q6⟩)
                      clear hK K hH
                      have hH := hH2
                      clear hH2
                      try simp only [Act.put, List.setIfInBounds_toArray, List.set_cons_zero, List.set_cons_succ]
                      refine wpAnyU_ready (rs := [17]) (by kernel_rfl) (by simp) ?_
                      refine AllReadyU.cons 0 (by kernel_rfl) (o := _) rfl (fun K hK => ?_) AllReadyU.nil
                      try clear hb
                      go_simp
                      (go_at_call 112; refine (HDP.out _).mono ?_; rintro e wn ⟨rfl, hb⟩)
                      refine hK.out _ _ ?hsr3_22 (fun hH2 => ?hrr3_22)
                      case hsr3_22 => exact S2i0 (by have hG := hH; replace hG := S2o0 hG; (try dsimp only at hG); have q0 := hG.1; have q1 := hG.2.1; have q2 := hG.2.2.1; have q3 := hG.2.2.2.1; have q4 := hG.2.2.2.2.1; have q5 := hG.2.2.2.2.2.1; have q6 := hG.2.2.2.2.2.2; exact ⟨keepCell hb q0, keepCell hb q1, keepCell hb q2, keepCell hb q3, keepCell hb q4, keepCell hb q5, keepBelow hb q6⟩)
                      clear hK K hH
                      have hH := hH2
                      clear hH2
                      try simp only [Act.put, List.setIfInBounds_toArray, List.set_cons_zero, List.set_cons_succ]
                      refine wpAnyU_ready (rs := [20]) (by kernel_rfl) (by simp) ?_
                      refine AllReadyU.cons 0 (by kernel_rfl) (o := _) rfl (fun K hK => ?_) AllReadyU.nil
                      try clear hb
                      go_simp
                      (go_at_call 113; refine (HSN.out _).mono ?_; rintro e wn ⟨rfl, hb⟩)
                      refine hK.out _ _ ?hsr3_23 (fun hH2 => ?hrr3_23)
                      case hsr3_23 => exact S2i0 (by have hG := hH; replace hG := S2o0 hG; (try dsimp only at hG); have q0 := hG.1; have q1 := hG.2.1; have q2 := hG.2.2.1; have q3 := hG.2.2.2.1; have q4 := hG.2.2.2.2.1; have q5 := hG.2.2.2.2.2.1; have q6 := hG.2.2.2.2.2.2; exact ⟨keepCell hb q0, keepCell hb q1, keepCell hb q2, keepCell hb q3, keepCell hb q4, keepCell hb q5, keepBelow hb q6⟩)
                      clear hK K hH
                      have hH := hH2
                      clear hH2
                      try simp only [Act.put, List.setIfInBounds_toArray, List.set_cons_zero, List.set_cons_succ]
                      refine wpAnyU_ready (rs := [23]) (by kernel_rfl) (by simp) ?_
                      refine AllReadyU.cons 0 (by kernel_rfl) (o := _) rfl (fun K hK => ?_) AllReadyU.nil
                      try clear hb
                      go_simp
                      (go_at_call 113; refine (HSN.out _).mono ?_; rintro e wn ⟨rfl, hb⟩)
                      refine hK.out _ _ ?hsr3_24 (fun hH2 => ?hrr3_24)
                      case hsr3_24 => exact S2i0 (by have hG := hH; replace hG := S2o0 hG; (try dsimp only at hG); have q0 := hG.1; have q1 := hG.2.1; have q2 := hG.2.2.1; have q3 := hG.2.2.2.1; have q4 := hG.2.2.2.2.1; have q5 := hG.2.2.2.2.2.1; have q6 := hG.2.2.2.2.2.2; exact ⟨keepCell hb q0, keepCell hb q1, keepCell hb q2, keepCell hb q3, keepCell hb q4, keepCell hb q5, keepBelow hb q6⟩)
                      clear hK K hH
                      have hH := hH2
                      clear hH2
                      try simp only [Act.put, List.setIfInBounds_toArray, List.set_cons_zero, List.set_cons_succ]
                      refine wpAnyU_ready (rs := [24]) (by kernel_rfl) (by simp) ?_
                      refine AllReadyU.cons 0 (by kernel_rfl) (o := _) rfl (fun K hK => ?_) AllReadyU.nil
                      try clear hb
                      go_simp
                      (go_at_call 112; refine (HDN.out _).mono ?_; rintro e wn ⟨rfl, hb⟩)
                      refine hK.out _ _ ?hsr3_25 (fun hH2 => ?hrr3_25)
                      case hsr3_25 => exact S2i0 (by have hG := hH; replace hG := S2o0 hG; (try dsimp only at hG); have q0 := hG.1; have q1 := hG.2.1; have q2 := hG.2.2.1; have q3 := hG.2.2.2.1; have q4 := hG.2.2.2.2.1; have q5 := hG.2.2.2.2.2.1; have q6 := hG.2.2.2.2.2.2; exact ⟨keepCell hb q0, keepCell hb q1, keepCell hb q2, keepCell hb q3, keepCell hb q4, keepCell hb q5, keepBelow hb q6⟩)
                      clear hK K hH
                      have hH := hH2
                      clear hH2
                      try simp only [Act.put, List.setIfInBounds_toArray, List.set_cons_zero, List.set_cons_succ]
                      refine wpAnyU_ready (rs := [25]) (by kernel_rfl) (by simp) ?_
                      refine AllReadyU.cons 0 (by kernel_rfl) (o := _) rfl (fun K hK => ?_) AllReadyU.nil
                      try clear hb
                      go_simp
                      (go_at_call 114; refine (HCM.out _).mono ?_; rintro e wn ⟨rfl, hb⟩)
                      refine hK.out _ _ ?hsr3_26 (fun hH2 => ?hrr3_26)
                      case hsr3_26 => exact S2i0 (by have hG := hH; replace hG := S2o0 hG; (try dsimp only at hG); have q0 := hG.1; have q1 := hG.2.1; have q2 := hG.2.2.1; have q3 := hG.2.2.2.1; have q4 := hG.2.2.2.2.1; have q5 := hG.2.2.2.2.2.1; have q6 := hG.2.2.2.2.2.2; exact ⟨keepCell hb q0, keepCell hb q1, keepCell hb q2, keepCell hb q3, keepCell hb q4, keepCell hb q5, keepBelow hb q6⟩)
                      clear hK K hH
                      have hH := hH2
                      clear hH2
                      try simp only [Act.put, List.setIfInBounds_toArray, List.set_cons_zero, List.set_cons_succ]
                      refine U_take 26 101 2 0 0 (v := ?vr3_27) rfl (by kernel_rfl) (by kernel_rfl) hWr3 (by kernel_rfl) (by kernel_rfl) (by kernel_rfl) (by kernel_rfl) (by kernel_rfl) (by kernel_rfl) (fun _ _ _ _ h => h) (by kernel_rfl) ?hyr3_27 (by omega) hH ?_
                      case hyr3_27 => (intro w' hSw; clear hSw; go_simp; try (with_reducible rfl))
                      simp only [List.set_cons_zero, List.set_cons_succ]
                      refine U_take 27 102 1 0 0 (v := ?vr3_28) rfl (by kernel_rfl) (by kernel_rfl) hWr3 (by kernel_rfl) (by kernel_rfl) (by kernel_rfl) (by kernel_rfl) (by kernel_rfl) (by kernel_rfl) (fun _ _ _ _ h => h) (by kernel_rfl) ?hyr3_28 (by omega) hH ?_
                      case hyr3_28 => (intro w' hSw; clear hSw; go_simp; try (with_reducible rfl))
                      simp only [List.set_cons_zero, List.set_cons_succ]
                      refine U_take 28 103 0 0 0 (v := ?vr3_29) rfl (by kernel_rfl) (by kernel_rfl) hWr3 (by kernel_rfl) (by kernel_rfl) (by kernel_rfl) (by kernel_rfl) (by kernel_rfl) (by kernel_rfl) (fun _ _ _ _ h => h) (by kernel_rfl) ?hyr3_29 (by omega) hH ?_
                      case hyr3_29 => (intro w' hSw; clear hSw; go_simp; try (with_reducible rfl))
                      simp only [List.set_cons_zero, List.set_cons_succ]
                      refine wpAnyU_done (by kernel_rfl) ?_ _ _
                      refine NoPanic.normal ?_
                      have hG := hH
                      replace hG := S2o0 hG
                      (try dsimp only at hG)
                      have q0 := hG.1
                      have q1 := hG.2.1
                      have q2 := hG.2.2.1
                      have q3 := hG.2.2.2.1
                      have q4 := hG.2.2.2.2.1
                      have q5 := hG.2.2.2.2.2.1
                      have q6 := hG.2.2.2.2.2.2
                      clear hG hH
                      try clear hb
                      go_wp2_with fail
                      go_meet
                      exact ⟨rfl, q6⟩
                    · obtain rfl : tk = false := HTK.out.trans (decide_eq_false (by rintro (h | ⟨_, h⟩); omega; exact c3 (HCP.out.2 h)))
                      clear HTK HR1 HR2 HCP
                      subst c2
                      refine wp_region_noPanic ?_
                      refine wp_region_U (S := (S2 (fun w' => w'.cell? ⟨gP, 0, none⟩ = some (.int .i64 x) ∧ w'.cell? ⟨gP, 1, none⟩ = some (.int .i64 y) ∧ w'.cell? ⟨gO, 0, none⟩ = some (.int .i64 u) ∧ w'.cell? ⟨gO, 1, none⟩ = some (.int .i64 v) ∧ w'.cell? ⟨gN, 0, none⟩ = some (.int .i64 z) ∧ w'.cell? ⟨gN, 1, none⟩ = some (.int .i64 t) ∧ Below wp.heap.size wp w'))) (T := (fun _ => 0)) (by kernel_rfl) (S2i0 ⟨p0, p1, p2, p3, p4, p5, hB0⟩) (fun hH => ?_)
                      have hWr4 : Weaker (S2 (fun w' => w'.cell? ⟨gP, 0, none⟩ = some (.int .i64 x) ∧ w'.cell? ⟨gP, 1, none⟩ = some (.int .i64 y) ∧ w'.cell? ⟨gO, 0, none⟩ = some (.int .i64 u) ∧ w'.cell? ⟨gO, 1, none⟩ = some (.int .i64 v) ∧ w'.cell? ⟨gN, 0, none⟩ = some (.int .i64 z) ∧ w'.cell? ⟨gN, 1, none⟩ = some (.int .i64 t) ∧ Below wp.heap.size wp w')) := weaker2 _
                      refine U_take 0 75 28 0 0 (v := ?vr4_1) rfl (by kernel_rfl) (by kernel_rfl) hWr4 (by kernel_rfl) (by kernel_rfl) (by kernel_rfl) (by kernel_rfl) (by kernel_rfl) (by kernel_rfl) (fun _ _ _ _ h => h) (by kernel_rfl) ?hyr4_1 (by omega) hH ?_
                      case hyr4_1 => (intro w' hSw; replace hSw := S2o0 hSw; (try dsimp only at hSw); have q0 := hSw.1; have q1 := hSw.2.1; have q2 := hSw.2.2.1; have q3 := hSw.2.2.2.1; have q4 := hSw.2.2.2.2.1; have q5 := hSw.2.2.2.2.2.1; have q6 := hSw.2.2.2.2.2.2; go_simp; try (with_reducible rfl))
                      simp only [List.set_cons_zero, List.set_cons_succ]
                      refine U_take 1 76 27 0 0 (v := ?vr4_2) rfl (by kernel_rfl) (by kernel_rfl) hWr4 (by kernel_rfl) (by kernel_rfl) (by kernel_rfl) (by kernel_rfl) (by kernel_rfl) (by kernel_rfl) (fun _ _ _ _ h => h) (by kernel_rfl) ?hyr4_2 (by omega) hH ?_
                      case hyr4_2 => (intro w' hSw; replace hSw := S2o0 hSw; (try dsimp only at hSw); have q0 := hSw.1; have q1 := hSw.2.1; have q2 := hSw.2.2.1; have q3 := hSw.2.2.2.1; have q4 := hSw.2.2.2.2.1; have q5 := hSw.2.2.2.2.2.1; have q6 := hSw.2.2.2.2.2.2; go_simp; try (with_reducible rfl))
                      simp only [List.set_cons_zero, List.set_cons_succ]
                      refine U_take 2 77 26 0 0 (v := ?vr4_3) rfl (by kernel_rfl) (by kernel_rfl) hWr4 (by kernel_rfl) (by kernel_rfl) (by kernel_rfl) (by kernel_rfl) (by kernel_rfl) (by kernel_rfl) (fun _ _ _ _ h => h) (by kernel_rfl) ?hyr4_3 (by omega) hH ?_
                      case hyr4_3 => (intro w' hSw; clear hSw; go_simp; try (with_reducible rfl))
                      simp only [List.set_cons_zero, List.set_cons_succ]
                      refine U_take 3 78 25 0 0 (v := ?vr4_4) rfl (by kernel_rfl) (by kernel_rfl) hWr4 (by kernel_rfl) (by kernel_rfl) (by kernel_rfl) (by kernel_rfl) (by kernel_rfl) (by kernel_rfl) (fun _ _ _ _ h => h) (by kernel_rfl) ?hyr4_4 (by omega) hH ?_
                      case hyr4_4 => (intro w' hSw; clear hSw; go_simp; try (with_reducible rfl))
                      simp only [List.set_cons_zero, List.set_cons_succ]
                      refine U_take 4 79 24 0 0 (v := ?vr4_5) rfl (by kernel_rfl) (by kernel_rfl) hWr4 (by kernel_rfl) (by kernel_rfl) (by kernel_rfl) (by kernel_rfl) (by kernel_rfl) (by kernel_rfl) (fun _ _ _ _ h => h) (by kernel_rfl) ?hyr4_5 (by omega) hH ?_
                      case hyr4_5 => (intro w' hSw; clear hSw; go_simp; try (with_reducible rfl))
                      simp only [List.set_cons_zero, List.set_cons_succ]
                      refine U_take 5 80 23 0 0 (v := ?vr4_6) rfl (by kernel_rfl) (by kernel_rfl) hWr4 (by kernel_rfl) (by kernel_rfl) (by kernel_rfl) (by kernel_rfl) (by kernel_rfl) (by kernel_rfl) (fun _ _ _ _ h => h) (by kernel_rfl) ?hyr4_6 (by omega) hH ?_
                      case hyr4_6 => (intro w' hSw; clear hSw; go_simp; try (with_reducible rfl))
                      simp only [List.set_cons_zero, List.set_cons_succ]
                      refine U_take 6 81 22 0 0 (v := ?vr4_7) rfl (by kernel_rfl) (by kernel_rfl) hWr4 (by kernel_rfl) (by kernel_rfl) (by kernel_rfl) (by kernel_rfl) (by kernel_rfl) (by kernel_rfl) (fun _ _ _ _ h => h) (by kernel_rfl) ?hyr4_7 (by omega) hH ?_
                      case hyr4_7 => (intro w' hSw; clear hSw; go_simp; try (with_reducible rfl))
                      simp only [List.set_cons_zero, List.set_cons_succ]
                      refine U_take 7 82 21 0 0 (v := ?vr4_8) rfl (by kernel_rfl) (by kernel_rfl) hWr4 (by kernel_rfl) (by kernel_rfl) (by kernel_rfl) (by kernel_rfl) (by kernel_rfl) (by kernel_rfl) (fun _ _ _ _ h => h) (by kernel_rfl) ?hyr4_8 (by omega) hH ?_
                      case hyr4_8 => (intro w' hSw; clear hSw; go_simp; try (with_reducible rfl))
                      simp only [List.set_cons_zero, List.set_cons_succ]
                      refine U_take 8 83 20 0 0 (v := ?vr4_9) rfl (by kernel_rfl) (by kernel_rfl) hWr4 (by kernel_rfl) (by kernel_rfl) (by kernel_rfl) (by kernel_rfl) (by kernel_rfl) (by kernel_rfl) (fun _ _ _ _ h => h) (by kernel_rfl) ?hyr4_9 (by omega) hH ?_
                      case hyr4_9 => (intro w' hSw; clear hSw; go_simp; try (with_reducible rfl))
                      simp only [List.set_cons_zero, List.set_cons_succ]
                      refine U_take 9 84 19 0 0 (v := ?vr4_10) rfl (by kernel_rfl) (by kernel_rfl) hWr4 (by kernel_rfl) (by kernel_rfl) (by kernel_rfl) (by kernel_rfl) (by kernel_rfl) (by kernel_rfl) (fun _ _ _ _ h => h) (by kernel_rfl) ?hyr4_10 (by omega) hH ?_
                      case hyr4_10 => (intro w' hSw; clear hSw; go_simp; try (with_reducible rfl))
                      simp only [List.set_cons_zero, List.set_cons_succ]
                      refine U_take 10 85 18 0 0 (v := ?vr4_11) rfl (by kernel_rfl) (by kernel_rfl) hWr4 (by kernel_rfl) (by kernel_rfl) (by kernel_rfl) (by kernel_rfl) (by kernel_rfl) (by kernel_rfl) (fun _ _ _ _ h => h) (by kernel_rfl) ?hyr4_11 (by omega) hH ?_
                      case hyr4_11 => (intro w' hSw; clear hSw; go_simp; try (with_reducible rfl))
                      simp only [List.set_cons_zero, List.set_cons_succ]
                      refine U_take 11 86 17 0 0 (v := ?vr4_12) rfl (by kernel_rfl) (by kernel_rfl) hWr4 (by kernel_rfl) (by kernel_rfl) (by kernel_rfl) (by kernel_rfl) (by kernel_rfl) (by kernel_rfl) (fun _ _ _ _ h => h) (by kernel_rfl) ?hyr4_12 (by omega) hH ?_
                      case hyr4_12 => (intro w' hSw; replace hSw := S2o0 hSw; (try dsimp only at hSw); have q0 := hSw.1; have q1 := hSw.2.1; have q2 := hSw.2.2.1; have q3 := hSw.2.2.2.1; have q4 := hSw.2.2.2.2.1; have q5 := hSw.2.2.2.2.2.1; have q6 := hSw.2.2.2.2.2.2; go_simp; try (with_reducible rfl))
                      simp only [List.set_cons_zero, List.set_cons_succ]
                      refine U_take 12 87 16 0 0 (v := ?vr4_13) rfl (by kernel_rfl) (by kernel_rfl) hWr4 (by kernel_rfl) (by kernel_rfl) (by kernel_rfl) (by kernel_rfl) (by kernel_rfl) (by kernel_rfl) (fun _ _ _ _ h => h) (by kernel_rfl) ?hyr4_13 (by omega) hH ?_
                      case hyr4_13 => (intro w' hSw; replace hSw := S2o0 hSw; (try dsimp only at hSw); have q0 := hSw.1; have q1 := hSw.2.1; have q2 := hSw.2.2.1; have q3 := hSw.2.2.2.1; have q4 := hSw.2.2.2.2.1; have q5 := hSw.2.2.2.2.2.1; have q6 := hSw.2.2.2.2.2.2; go_simp; try (with_reducible rfl))
                      simp only [List.set_cons_zero, List.set_cons_succ]
                      refine U_take 14 89 15 0 0 (v := ?vr4_14) rfl (by kernel_rfl) (by kernel_rfl) hWr4 (by kernel_rfl) (by kernel_rfl) (by kernel_rfl) (by kernel_rfl) (by kernel_rfl) (by kernel_rfl) (fun _ _ _ _ h => h) (by kernel_rfl) ?hyr4_14 (by omega) hH ?_
                      case hyr4_14 => (intro w' hSw; replace hSw := S2o0 hSw; (try dsimp only at hSw); have q0 := hSw.1; have q1 := hSw.2.1; have q2 := hSw.2.2.1; have q3 := hSw.2.2.2.1; have q4 := hSw.2.2.2.2.1; have q5 := hSw.2.2.2.2.2.1; have q6 := hSw.2.2.2.2.2.2; go_simp; try (with_reducible rfl))
                      simp only [List.set_cons_zero, List.set_cons_succ]
                      refine U_take 15 90 14 0 0 (v := ?vr4_15) rfl (by kernel_rfl) (by kernel_rfl) hWr4 (by kernel_rfl) (by kernel_rfl) (by kernel_rfl) (by kernel_rfl) (by kernel_rfl) (by kernel_rfl) (fun _ _ _ _ h => h) (by kernel_rfl) ?hyr4_15 (by omega) hH ?_
                      case hyr4_15 => (intro w' hSw; replace hSw := S2o0 hSw; (try dsimp only at hSw); have q0 := hSw.1; have q1 := hSw.2.1; have q2 := hSw.2.2.1; have q3 := hSw.2.2.2.1; have q4 := hSw.2.2.2.2.1; have q5 := hSw.2.2.2.2.2.1; have q6 := hSw.2.2.2.2.2.2; go_simp; try (with_reducible rfl))
                      simp only [List.set_cons_zero, List.set_cons_succ]
                      refine U_take 18 93 13 0 0 (v := ?vr4_16) rfl (by kernel_rfl) (by kernel_rfl) hWr4 (by kernel_rfl) (by kernel_rfl) (by kernel_rfl) (by kernel_rfl) (by kernel_rfl) (by kernel_rfl) (fun _ _ _ _ h => h) (by kernel_rfl) ?hyr4_16 (by omega) hH ?_
                      case hyr4_16 => (intro w' hSw; replace hSw := S2o0 hSw; (try dsimp only at hSw); have q0 := hSw.1; have q1 := hSw.2.1; have q2 := hSw.2.2.1; have q3 := hSw.2.2.2.1; have q4 := hSw.2.2.2.2.1; have q5 := hSw.2.2.2.2.2.1; have q6 := hSw.2.2.2.2.2.2; go_simp; try (with_reducible rfl))
                      simp only [List.set_cons_zero, List.set_cons_succ]
                      refine U_take 19 94 12 0 0 (v := ?vr4_17) rfl (by kernel_rfl) (by kernel_rfl) hWr4 (by kernel_rfl) (by kernel_rfl) (by kernel_rfl) (by kernel_rfl) (by kernel_rfl) (by kernel_rfl) (fun _ _ _ _ h => h) (by kernel_rfl) ?hyr4_17 (by omega) hH ?_
                      case hyr4_17 => (intro w' hSw; replace hSw := S2o0 hSw; (try dsimp only at hSw); have q0 := hSw.1; have q1 := hSw.2.1; have q2 := hSw.2.2.1; have q3 := hSw.2.2.2.1; have q4 := hSw.2.2.2.2.1; have q5 := hSw.2.2.2.2.2.1; have q6 := hSw.2.2.2.2.2.2; go_simp; try (with_reducible rfl))
                      simp only [List.set_cons_zero, List.set_cons_succ]
                      refine U_take 21 96 11 0 0 (v := ?vr4_18) rfl (by kernel_rfl) (by kernel_rfl) hWr4 (by kernel_rfl) (by kernel_rfl) (by kernel_rfl) (by kernel_rfl) (by kernel_rfl) (by kernel_rfl) (fun _ _ _ _ h => h) (by kernel_rfl) ?hyr4_18 (by omega) hH ?_
                      case hyr4_18 => (intro w' hSw; replace hSw := S2o0 hSw; (try dsimp only at hSw); have q0 := hSw.1; have q1 := hSw.2.1; have q2 := hSw.2.2.1; have q3 := hSw.2.2.2.1; have q4 := hSw.2.2.2.2.1; have q5 := hSw.2.2.2.2.2.1; have q6 := hSw.2.2.2.2.2.2; go_simp; try (with_reducible rfl))
                      simp only [List.set_cons_zero, List.set_cons_succ]
                      refine U_take 22 97 10 0 0 (v := ?vr4_19) rfl (by kernel_rfl) (by kernel_rfl) hWr4 (by kernel_rfl) (by kernel_rfl) (by kernel_rfl) (by kernel_rfl) (by kernel_rfl) (by kernel_rfl) (fun _ _ _ _ h => h) (by kernel_rfl) ?hyr4_19 (by omega) hH ?_
                      case hyr4_19 => (intro w' hSw; replace hSw := S2o0 hSw; (try dsimp only at hSw); have q0 := hSw.1; have q1 := hSw.2.1; have q2 := hSw.2.2.1; have q3 := hSw.2.2.2.1; have q4 := hSw.2.2.2.2.1; have q5 := hSw.2.2.2.2.2.1; have q6 := hSw.2.2.2.2.2.2; go_simp; try (with_reducible rfl))
                      simp only [List.set_cons_zero, List.set_cons_succ]
                      refine wpAnyU_ready (rs := [13]) (by kernel_rfl) (by simp) ?_
                      refine AllReadyU.cons 0 (by kernel_rfl) (o := _) rfl (fun K hK => ?_) AllReadyU.nil
                      try clear hb
                      go_simp
                      (go_at_call 113; refine (HSP.out _).mono ?_; rintro e wn ⟨rfl, hb⟩)
                      refine hK.out _ _ ?hsr4_20 (fun hH2 => ?hrr4_20)
                      case hsr4_20 => exact S2i0 (by have hG := hH; replace hG := S2o0 hG; (try dsimp only at hG); have q0 := hG.1; have q1 := hG.2.1; have q2 := hG.2.2.1; have q3 := hG.2.2.2.1; have q4 := hG.2.2.2.2.1; have q5 := hG.2.2.2.2.2.1; have q6 := hG.2.2.2.2.2.2; exact ⟨keepCell hb q0, keepCell hb q1, keepCell hb q2, keepCell hb q3, keepCell hb q4, keepCell hb q5, keepBelow hb q6⟩)
                      clear hK K hH
                      have hH := hH2
                      clear hH2
                      try simp only [Act.put, List.setIfInBounds_toArray, List.set_cons_zero, List.set_cons_succ]
                      refine wpAnyU_ready (rs := [16]) (by kernel_rfl) (by simp) ?_
                      refine AllReadyU.cons 0 (by kernel_rfl) (o := _) rfl (fun K hK => ?_) AllReadyU.nil
                      try clear hb
                      go_simp
                      (go_at_call 113; refine (HSP.out _).mono ?_; rintro e wn ⟨rfl, hb⟩)
                      refine hK.out _ _ ?hsr4_21 (fun hH2 => ?hrr4_21)
                      case hsr4_21 => exact S2i0 (by have hG := hH; replace hG := S2o0 hG; (try dsimp only at hG); have q0 := hG.1; have q1 := hG.2.1; have q2 := hG.2.2.1; have q3 := hG.2.2.2.1; have q4 := hG.2.2.2.2.1; have q5 := hG.2.2.2.2.2.1; have q6 := hG.2.2.2.2.2.2; exact ⟨keepCell hb q0, keepCell hb q1, keepCell hb q2, keepCell hb q3, keepCell hb q4, keepCell hb q5, keepBelow hb q6⟩)
                      clear hK K hH
                      have hH := hH2
                      clear hH2
                      try simp only [Act.put, List.setIfInBounds_toArray, List.set_cons_zero, List.set_cons_succ]
                      refine wpAnyU_ready (rs := [17]) (by kernel_rfl) (by simp) ?_
                      refine AllReadyU.cons 0 (by kernel_rfl) (o := _) rfl (fun K hK => ?_) AllReadyU.nil
                      try clear hb
                      go_simp
                      (go_at_call 112; refine (HDP.out _).mono ?_; rintro e wn ⟨rfl, hb⟩)
                      refine hK.out _ _ ?hsr4_22 (fun hH2 => ?hrr4_22)
                      case hsr4_22 => exact S2i0 (by have hG := hH; replace hG := S2o0 hG; (try dsimp only at hG); have q0 := hG.1; have q1 := hG.2.1; have q2 := hG.2.2.1; have q3 := hG.2.2.2.1; have q4 := hG.2.2.2.2.1; have q5 := hG.2.2.2.2.2.1; have q6 := hG.2.2.2.2.2.2; exact ⟨keepCell hb q0, keepCell hb q1, keepCell hb q2, keepCell hb q3, keepCell hb q4, keepCell hb q5, keepBelow hb q6⟩)
                      clear hK K hH
                      have hH := hH2
                      clear hH2
                      try simp only [Act.put, List.setIfInBounds_toArray, List.set_cons_zero, List.set_cons_succ]
                      refine wpAnyU_ready (rs := [20]) (by kernel_rfl) (by simp) ?_
                      refine AllReadyU.cons 0 (by kernel_rfl) (o := _) rfl (fun K hK => ?_) AllReadyU.nil
                      try clear hb
                      go_simp
                      (go_at_call 113; refine (HSN.out _).mono ?_; rintro e wn ⟨rfl, hb⟩)
                      refine hK.out _ _ ?hsr4_23 (fun hH2 => ?hrr4_23)
                      case hsr4_23 => exact S2i0 (by have hG := hH; replace hG := S2o0 hG; (try dsimp only at hG); have q0 := hG.1; have q1 := hG.2.1; have q2 := hG.2.2.1; have q3 := hG.2.2.2.1; have q4 := hG.2.2.2.2.1; have q5 := hG.2.2.2.2.2.1; have q6 := hG.2.2.2.2.2.2; exact ⟨keepCell hb q0, keepCell hb q1, keepCell hb q2, keepCell hb q3, keepCell hb q4, keepCell hb q5, keepBelow hb q6⟩)
                      clear hK K hH
                      have hH := hH2
                      clear hH2
                      try simp only [Act.put, List.setIfInBounds_toArray, List.set_cons_zero, List.set_cons_succ]
                      refine wpAnyU_ready (rs := [23]) (by kernel_rfl) (by simp) ?_
                      refine AllReadyU.cons 0 (by kernel_rfl) (o := _) rfl (fun K hK => ?_) AllReadyU.nil
                      try clear hb
                      go_simp
                      (go_at_call 113; refine (HSN.out _).mono ?_; rintro e wn ⟨rfl, hb⟩)
                      refine hK.out _ _ ?hsr4_24 (fun hH2 => ?hrr4_24)
                      case hsr4_24 => exact S2i0 (by have hG := hH; replace hG := S2o0 hG; (try dsimp only at hG); have q0 := hG.1; have q1 := hG.2.1; have q2 := hG.2.2.1; have q3 := hG.2.2.2.1; have q4 := hG.2.2.2.2.1; have q5 := hG.2.2.2.2.2.1; have q6 := hG.2.2.2.2.2.2; exact ⟨keepCell hb q0, keepCell hb q1, keepCell hb q2, keepCell hb q3, keepCell hb q4, keepCell hb q5, keepBelow hb q6⟩)
                      clear hK K hH
                      have hH := hH2
                      clear hH2
                      try simp only [Act.put, List.setIfInBounds_toArray, List.set_cons_zero, List.set_cons_succ]
                      refine wpAnyU_ready (rs := [24]) (by kernel_rfl) (by simp) ?_
                      refine AllReadyU.cons 0 (by kernel_rfl) (o := _) rfl (fun K hK => ?_) AllReadyU.nil
                      try clear hb
                      go_simp
                      (go_at_call 112; refine (HDN.out _).mono ?_; rintro e wn ⟨rfl, hb⟩)
                      refine hK.out _ _ ?hsr4_25 (fun hH2 => ?hrr4_25)
                      case hsr4_25 => exact S2i0 (by have hG := hH; replace hG := S2o0 hG; (try dsimp only at hG); have q0 := hG.1; have q1 := hG.2.1; have q2 := hG.2.2.1; have q3 := hG.2.2.2.1; have q4 := hG.2.2.2.2.1; have q5 := hG.2.2.2.2.2.1; have q6 := hG.2.2.2.2.2.2; exact ⟨keepCell hb q0, keepCell hb q1, keepCell hb q2, keepCell hb q3, keepCell hb q4, keepCell hb q5, keepBelow hb q6⟩)
                      clear hK K hH
                      have hH := hH2
                      clear hH2
                      try simp only [Act.put, List.setIfInBounds_toArray, List.set_cons_zero, List.set_cons_succ]
                      refine wpAnyU_ready (rs := [25]) (by kernel_rfl) (by simp) ?_
                      refine AllReadyU.cons 0 (by kernel_rfl) (o := _) rfl (fun K hK => ?_) AllReadyU.nil
                      try clear hb
                      go_simp
                      (go_at_call 114; refine (HCM.out _).mono ?_; rintro e wn ⟨rfl, hb⟩)
                      refine hK.out _ _ ?hsr4_26 (fun hH2 => ?hrr4_26)
                      case hsr4_26 => exact S2i0 (by have hG := hH; replace hG := S2o0 hG; (try dsimp only at hG); have q0 := hG.1; have q1 := hG.2.1; have q2 := hG.2.2.1; have q3 := hG.2.2.2.1; have q4 := hG.2.2.2.2.1; have q5 := hG.2.2.2.2.2.1; have q6 := hG.2.2.2.2.2.2; exact ⟨keepCell hb q0, keepCell hb q1, keepCell hb q2, keepCell hb q3, keepCell hb q4, keepCell hb q5, keepBelow hb q6⟩)
                      clear hK K hH
                      have hH := hH2
                      clear hH2
                      try simp only [Act.put, List.setIfInBounds_toArray, List.set_cons_zero, List.set_cons_succ]
                      refine U_take 26 101 2 0 0 (v := ?vr4_27) rfl (by kernel_rfl) (by kernel_rfl) hWr4 (by kernel_rfl) (by kernel_rfl) (by kernel_rfl) (by kernel_rfl) (by kernel_rfl) (by kernel_rfl) (fun _ _ _ _ h => h) (by kernel_rfl) ?hyr4_27 (by omega) hH ?_
                      case hyr4_27 => (intro w' hSw; clear hSw; go_simp; try (with_reducible rfl))
                      simp only [List.set_cons_zero, List.set_cons_succ]
                      refine U_take 27 102 1 0 0 (v := ?vr4_28) rfl (by kernel_rfl) (by kernel_rfl) hWr4 (by kernel_rfl) (by kernel_rfl) (by kernel_rfl) (by kernel_rfl) (by kernel_rfl) (by kernel_rfl) (fun _ _ _ _ h => h) (by kernel_rfl) ?hyr4_28 (by omega) hH ?_
                      case hyr4_28 => (intro w' hSw; clear hSw; go_simp; try (with_reducible rfl))
                      simp only [List.set_cons_zero, List.set_cons_succ]
                      refine U_take 28 103 0 0 0 (v := ?vr4_29) rfl (by kernel_rfl) (by kernel_rfl) hWr4 (by kernel_rfl) (by kernel_rfl) (by kernel_rfl) (by kernel_rfl) (by kernel_rfl) (by kernel_rfl) (fun _ _ _ _ h => h) (by kernel_rfl) ?hyr4_29 (by omega) hH ?_
                      case hyr4_29 => (intro w' hSw; clear hSw; go_simp; try (with_reducible rfl))
                      simp only [List.set_cons_zero, List.set_cons_succ]
                      refine wpAnyU_done (by kernel_rfl) ?_ _ _
                      refine NoPanic.normal ?_
                      have hG := hH
                      replace hG := S2o0 hG
                      (try dsimp only at hG)
                      have q0 := hG.1
                      have q1 := hG.2.1
                      have q2 := hG.2.2.1
                      have q3 := hG.2.2.2.1
                      have q4 := hG.2.2.2.2.1
                      have q5 := hG.2.2.2.2.2.1
                      have q6 := hG.2.2.2.2.2.2
                      clear hG hH
                      try clear hb
                      go_wp2_with fail
                      go_meet
                      exact ⟨rfl, q6⟩
                    · obtain rfl : tk = false := HTK.out.trans (decide_eq_false (by rintro (h | ⟨h, _⟩); omega; omega))
                      have hne : (sg == 0) = false := by simp [c2]
                      clear HTK HR1 HR2 HCP
                      refine wp_region_noPanic ?_
                      refine wp_region_U (S := (S2 (fun w' => w'.cell? ⟨gP, 0, none⟩ = some (.int .i64 x) ∧ w'.cell? ⟨gP, 1, none⟩ = some (.int .i64 y) ∧ w'.cell? ⟨gO, 0, none⟩ = some (.int .i64 u) ∧ w'.cell? ⟨gO, 1, none⟩ = some (.int .i64 v) ∧ w'.cell? ⟨gN, 0, none⟩ = some (.int .i64 z) ∧ w'.cell? ⟨gN, 1, none⟩ = some (.int .i64 t) ∧ Below wp.heap.size wp w'))) (T := (fun _ => 0)) (by kernel_rfl) (S2i0 ⟨p0, p1, p2, p3, p4, p5, hB0⟩) (fun hH => ?_)
                      have hWr5 : Weaker (S2 (fun w' => w'.cell? ⟨gP, 0, none⟩ = some (.int .i64 x) ∧ w'.cell? ⟨gP, 1, none⟩ = some (.int .i64 y) ∧ w'.cell? ⟨gO, 0, none⟩ = some (.int .i64 u) ∧ w'.cell? ⟨gO, 1, none⟩ = some (.int .i64 v) ∧ w'.cell? ⟨gN, 0, none⟩ = some (.int .i64 z) ∧ w'.cell? ⟨gN, 1, none⟩ = some (.int .i64 t) ∧ Below wp.heap.size wp w')) := weaker2 _
                      refine U_take 0 75 28 0 0 (v := ?vr5_1) rfl (by kernel_rfl) (by kernel_rfl) hWr5 (by kernel_rfl) (by kernel_rfl) (by kernel_rfl) (by kernel_rfl) (by kernel_rfl) (by kernel_rfl) (fun _ _ _ _ h => h) (by kernel_rfl) ?hyr5_1 (by omega) hH ?_
                      case hyr5_1 => (intro w' hSw; replace hSw := S2o0 hSw; (try dsimp only at hSw); have q0 := hSw.1; have q1 := hSw.2.1; have q2 := hSw.2.2.1; have q3 := hSw.2.2.2.1; have q4 := hSw.2.2.2.2.1; have q5 := hSw.2.2.2.2.2.1; have q6 := hSw.2.2.2.2.2.2; go_simp; try (with_reducible rfl))
                      simp only [List.set_cons_zero, List.set_cons_succ]
                      refine U_take 1 76 27 0 0 (v := ?vr5_2) rfl (by kernel_rfl) (by kernel_rfl) hWr5 (by kernel_rfl) (by kernel_rfl) (by kernel_rfl) (by kernel_rfl) (by kernel_rfl) (by kernel_rfl) (fun _ _ _ _ h => h) (by kernel_rfl) ?hyr5_2 (by omega) hH ?_
                      case hyr5_2 => (intro w' hSw; replace hSw := S2o0 hSw; (try dsimp only at hSw); have q0 := hSw.1; have q1 := hSw.2.1; have q2 := hSw.2.2.1; have q3 := hSw.2.2.2.1; have q4 := hSw.2.2.2.2.1; have q5 := hSw.2.2.2.2.2.1; have q6 := hSw.2.2.2.2.2.2; go_simp; try (with_reducible rfl))
                      simp only [List.set_cons_zero, List.set_cons_succ]
                      refine U_take 2 77 26 0 0 (v := ?vr5_3) rfl (by kernel_rfl) (by kernel_rfl) hWr5 (by kernel_rfl) (by kernel_rfl) (by kernel_rfl) (by kernel_rfl) (by kernel_rfl) (by kernel_rfl) (fun _ _ _ _ h => h) (by kernel_rfl) ?hyr5_3 (by omega) hH ?_
                      case hyr5_3 => (intro w' hSw; clear hSw; go_simp; try (with_reducible rfl))
                      simp only [List.set_cons_zero, List.set_cons_succ]
                      refine U_take 3 78 25 0 0 (v := ?vr5_4) rfl (by kernel_rfl) (by kernel_rfl) hWr5 (by kernel_rfl) (by kernel_rfl) (by kernel_rfl) (by kernel_rfl) (by kernel_rfl) (by kernel_rfl) (fun _ _ _ _ h => h) (by kernel_rfl) ?hyr5_4 (by omega) hH ?_
                      case hyr5_4 => (intro w' hSw; clear hSw; go_simp; try (with_reducible rfl))
                      simp only [List.set_cons_zero, List.set_cons_succ]
                      refine U_take 4 79 24 0 0 (v := ?vr5_5) rfl (by kernel_rfl) (by kernel_rfl) hWr5 (by kernel_rfl) (by kernel_rfl) (by kernel_rfl) (by kernel_rfl) (by kernel_rfl) (by kernel_rfl) (fun _ _ _ _ h => h) (by kernel_rfl) ?hyr5_5 (by omega) hH ?_
                      case hyr5_5 => (intro w' hSw; clear hSw; go_simp; try (with_reducible rfl))
                      simp only [List.set_cons_zero, List.set_cons_succ]
                      refine U_take 5 80 23 0 0 (v := ?vr5_6) rfl (by kernel_rfl) (by kernel_rfl) hWr5 (by kernel_rfl) (by kernel_rfl) (by kernel_rfl) (by kernel_rfl) (by kernel_rfl) (by kernel_rfl) (fun _ _ _ _ h => h) (by kernel_rfl) ?hyr5_6 (by omega) hH ?_
                      case hyr5_6 => (intro w' hSw; clear hSw; go_simp; try (with_reducible rfl))
                      simp only [List.set_cons_zero, List.set_cons_succ]
                      refine U_take 6 81 22 0 0 (v := ?vr5_7) rfl (by kernel_rfl) (by kernel_rfl) hWr5 (by kernel_rfl) (by kernel_rfl) (by kernel_rfl) (by kernel_rfl) (by kernel_rfl) (by kernel_rfl) (fun _ _ _ _ h => h) (by kernel_rfl) ?hyr5_7 (by omega) hH ?_
                      case hyr5_7 => (intro w' hSw; clear hSw; go_simp; try (with_reducible rfl))
                      simp only [List.set_cons_zero, List.set_cons_succ]
                      refine U_take 7 82 21 0 0 (v := ?vr5_8) rfl (by kernel_rfl) (by kernel_rfl) hWr5 (by kernel_rfl) (by kernel_rfl) (by kernel_rfl) (by kernel_rfl) (by kernel_rfl) (by kernel_rfl) (fun _ _ _ _ h => h) (by kernel_rfl) ?hyr5_8 (by omega) hH ?_
                      case hyr5_8 => (intro w' hSw; clear hSw; go_simp; try (with_reducible rfl))
                      simp only [List.set_cons_zero, List.set_cons_succ]
                      refine U_take 8 83 20 0 0 (v := ?vr5_9) rfl (by kernel_rfl) (by kernel_rfl) hWr5 (by kernel_rfl) (by kernel_rfl) (by kernel_rfl) (by kernel_rfl) (by kernel_rfl) (by kernel_rfl) (fun _ _ _ _ h => h) (by kernel_rfl) ?hyr5_9 (by omega) hH ?_
                      case hyr5_9 => (intro w' hSw; clear hSw; go_simp; try (with_reducible rfl))
                      simp only [List.set_cons_zero, List.set_cons_succ]
                      refine U_take 9 84 19 0 0 (v := ?vr5_10) rfl (by kernel_rfl) (by kernel_rfl) hWr5 (by kernel_rfl) (by kernel_rfl) (by kernel_rfl) (by kernel_rfl) (by kernel_rfl) (by kernel_rfl) (fun _ _ _ _ h => h) (by kernel_rfl) ?hyr5_10 (by omega) hH ?_
                      case hyr5_10 => (intro w' hSw; clear hSw; go_simp; try (with_reducible rfl))
                      simp only [List.set_cons_zero, List.set_cons_succ]
                      refine U_take 10 85 18 0 0 (v := ?vr5_11) rfl (by kernel_rfl) (by kernel_rfl) hWr5 (by kernel_rfl) (by kernel_rfl) (by kernel_rfl) (by kernel_rfl) (by kernel_rfl) (by kernel_rfl) (fun _ _ _ _ h => h) (by kernel_rfl) ?hyr5_11 (by omega) hH ?_
                      case hyr5_11 => (intro w' hSw; clear hSw; go_simp; try (with_reducible rfl))
                      simp only [List.set_cons_zero, List.set_cons_succ]
                      refine U_skips (by kernel_rfl) (fun _ _ _ _ h => h) hWr5 0 0 (by omega) hH [(11, 86), (12, 87), (13, 88), (14, 89), (15, 90), (16, 91), (17, 92), (18, 93), (19, 94), (20, 95), (21, 96), (22, 97), (23, 98), (24, 99), (25, 100), (26, 101)] 2 _ _ _ (by kernel_rfl) (by kernel_rfl) ?_
                      simp only [tsetUndef, List.set_cons_zero, List.set_cons_succ]
                      refine U_take 27 102 1 0 0 (v := ?vr5_12) rfl (by kernel_rfl) (by kernel_rfl) hWr5 (by kernel_rfl) (by kernel_rfl) (by kernel_rfl) (by kernel_rfl) (by kernel_rfl) (by kernel_rfl) (fun _ _ _ _ h => h) (by kernel_rfl) ?hyr5_12 (by omega) hH ?_
                      case hyr5_12 => (intro w' hSw; clear hSw; go_simp; try (with_reducible rfl))
                      simp only [List.set_cons_zero, List.set_cons_succ]
                      refine U_take 28 103 0 0 0 (v := ?vr5_13) rfl (by kernel_rfl) (by kernel_rfl) hWr5 (by kernel_rfl) (by kernel_rfl) (by kernel_rfl) (by kernel_rfl) (by kernel_rfl) (by kernel_rfl) (fun _ _ _ _ h => h) (by kernel_rfl) ?hyr5_13 (by omega) hH ?_
                      case hyr5_13 => (intro w' hSw; clear hSw; go_simp; try (with_reducible rfl))
                      simp only [List.set_cons_zero, List.set_cons_succ]
                      refine wpAnyU_done (by kernel_rfl) ?_ _ _
                      refine NoPanic.normal ?_
                      have hG := hH
                      replace hG := S2o0 hG
                      (try dsimp only at hG)
                      have q0 := hG.1
                      have q1 := hG.2.1
                      have q2 := hG.2.2.1
                      have q3 := hG.2.2.2.1
                      have q4 := hG.2.2.2.2.1
                      have q5 := hG.2.2.2.2.2.1
                      have q6 := hG.2.2.2.2.2.2
                      clear hG hH
                      try clear hb
                      go_wp2_with fail
                      go_meet
                      exact ⟨rfl, q6⟩
                  case rest =>
                    obtain ⟨rfl, q6⟩ := hcut
                    replace p0 := keepCell q6 p0
                    replace p1 := keepCell q6 p1
                    replace p4 := keepCell q6 p4
                    replace p5 := keepCell q6 p5
                    clear p2 p3 HSP HSN HDP HDN HCM HCP HTK hB0
                    cases tk with
                    | true =>
                      have HR := hid (HR1.out rfl)
                      clear HR1 HR2
                      have HWE := hid ((HWP.out.keep q6).put (x, y))
                      have nf := (HWP.out.keep q6).vN.f
                      have hgl := (HWP.out.keep q6).vN.lt
                      clear HWP q6
                      go_wp2
                      go_roundw
                      case rel => first | exact ⟨k + 1, hlt2, by go_num, by rw [HR.out]; exact HWE.out⟩ | exact ⟨_, _, _, ⟨k + 1, hlt2, by go_num, by rw [HR.out]; exact HWE.out⟩, rfl, rfl, rfl⟩ | exact ⟨_, _, ⟨k + 1, hlt2, by go_num, by rw [HR.out]; exact HWE.out⟩, rfl, rfl⟩ | exact ⟨_, ⟨k + 1, hlt2, by go_num, by rw [HR.out]; exact HWE.out⟩, rfl⟩
                      case measure => simp [intOf]; omega
                    | false =>
                      have HR := hid (HR2.out rfl)
                      clear HR1 HR2
                      have HWE := hid (HWP.out.keep q6)
                      clear HWP q6
                      go_wp2
                      go_roundw
                      case rel => first | exact ⟨k + 1, hlt2, by go_num, by rw [HR.out]; exact HWE.out⟩ | exact ⟨_, _, _, ⟨k + 1, hlt2, by go_num, by rw [HR.out]; exact HWE.out⟩, rfl, rfl, rfl⟩ | exact ⟨_, _, ⟨k + 1, hlt2, by go_num, by rw [HR.out]; exact HWE.out⟩, rfl, rfl⟩ | exact ⟨_, ⟨k + 1, hlt2, by go_num, by rw [HR.out]; exact HWE.out⟩, rfl⟩
                      case measure => simp [intOf]; omega
            · have hke : k = l.length := by omega
              subst hke
              have hml3 : (m : Int) + 1 < 9223372036854775807 := by omega
              have HNX := hid hwn
              obtain ⟨nx, hnx⟩ : ∃ z, z = wnTo l (u, v) l.length := ⟨_, rfl⟩
              rw [← hnx] at HNX HNI
              have HG2 : Hid (Z = if nx = F ∨ nx = (u, v) then o else wrGo l F f' (o ++ [nx]) nx) := by show _ = _; rw [← HGO.out, wrGo, ← hnx]
              clear hnx HGO HQI
              obtain ⟨z, t⟩ := nx
              obtain ⟨F1, F2⟩ := F
              have o0 := HNX.out.vO.a
              have o1 := HNX.out.vO.b
              have n0 := HNX.out.vN.a
              have n1 := HNX.out.vN.b
              have f0 := HNX.out.ww.vF.a
              have f1 := HNX.out.ww.vF.b
              dsimp only at o0 o1 n0 n1 f0 f1
              obtain ⟨e1, he1⟩ : ∃ e, e = (z == F1 && t == F2) := ⟨_, rfl⟩
              obtain ⟨e2, he2⟩ : ∃ e, e = (z == u && t == v) := ⟨_, rfl⟩
              have HQ1 := run_eqV z t F1 F2
              have HQ2 := run_eqV z t u v
              rw [← he1] at HQ1
              rw [← he2] at HQ2
              have HE1 : Hid (e1 = true ↔ (z, t) = (F1, F2)) := by show _ ↔ _; rw [he1]; simp
              have HE2 : Hid (e2 = true ↔ (z, t) = (u, v)) := by show _ ↔ _; rw [he2]; simp
              obtain ⟨Ao, no, co', hs, hso, hfo⟩ := HNX.out.ww.own.sl
              cases hs
              have HRET : Hid (RetVecs o w (.returned (.slice (some ⟨bo, oo, none⟩) (m + 1) co)) wp0) := ⟨_, _, _, rfl, hso, fun b off e => by have := hfo b off e; have := HNX.out.ww.le; omega, HNX.out.ww.bel⟩
              clear he1 he2 hwn hso hfo
              cases e1 with
              | true =>
                have HR : Hid (Z = o) := by show _ = _; rw [HG2.out, if_pos (.inl (HE1.out.1 rfl))]
                clear HE1 HE2 HG2 HNX HNI
                go_wp2
                refine bodyPost_ret (v := .slice (some ⟨bo, oo, none⟩) (m + 1) co) (by simp [results, Try.results116, go_sem]) rfl (by rw [HR.out]; exact HRET.out)
              | false =>
                cases e2 with
                | true =>
                  have HR : Hid (Z = o) := by show _ = _; rw [HG2.out, if_pos (.inr (HE2.out.1 rfl))]
                  clear HE1 HE2 HG2 HNX HNI
                  go_wp2
                  refine bodyPost_ret (v := .slice (some ⟨bo, oo, none⟩) (m + 1) co) (by simp [results, Try.results116, go_sem]) rfl (by rw [HR.out]; exact HRET.out)
                | false =>
                  have HR : Hid (wrGo l (F1, F2) f' (o ++ [(z, t)]) (z, t) = Z) := by
                    show _ = _
                    rw [HG2.out, if_neg]
                    rintro (h | h)
                    · have := HE1.out.2 h; cases this
                    · have := HE2.out.2 h; cases this
                  clear HE1 HE2 HG2 HRET
                  have hol : o.length + 1 ≤ 8796093022208 := by have := HM.out; omega
                  go_wp2_with (at_builtin; refine wpList_append_vecs rfl _ _ rfl (gF + 1) _ _ rfl (HNX.out.ww.own.alloc _) wp0.heap.size 0 1 1 [(z, t)] rfl rfl (cells_one (by go_simp) (by go_simp)) (by simp; omega) (by have := HNX.out.l1; have := HNX.out.vO.lt; simp; omega) ?_; intro v' w7 ho1 hg1; have HO1 := hid ho1; have hb1 := Own.grown (HNX.out.ww.own.alloc _) hg1 (by have := HNX.out.l1; have := HNX.out.vO.lt; simp; omega); clear ho1 hg1)
                  have HW7 := hid (HNX.out.ww.app HO1.out hb1)
                  clear HNX HO1 hb1
                  obtain ⟨A7, n7, c7, rfl, hs7, _⟩ := HW7.out.own.sl
                  have hn7 := hs7.len
                  rw [List.length_append, List.length_singleton, HM.out] at hn7
                  subst hn7
                  go_roundw
                  case rel => exact ⟨⟨f', o ++ [(z, t)], by simp; omega, z, t, ⟨by simp, by simp [ptL, px, py], HNI.out⟩, HR.out, by rw [← HGF.out]; exact HW7.out⟩, HGF.out⟩
                  case measure => simp [slLen]; omega
        · have hf0 : f = 0 := by omega
          subst hf0
          have HR : Hid (Z = o) := by show _ = _; rw [← HGO.out, wrGo]
          have hle : ¬ (m : Int) + 1 ≤ (l.length : Int) := by omega
          rw [hm]
          have HRET : Hid (RetVecs o w (.returned (.slice (some ⟨bo, oo, none⟩) (m + 1) co)) wo2) := ⟨_, _, _, rfl, by rw [← hm]; exact hso, fun b off e => by have := hfo b off e; omega, hww.bel⟩
          clear hgo hqi hww hso hCo hq hfo HGO HWW HQI
          go_wp2
          refine bodyPost_ret (v := .slice (some ⟨bo, oo, none⟩) (m + 1) co) (by simp [results, Try.results116, go_sem]) rfl (by rw [HR.out]; exact HRET.out)
end
end Go.Proofs.Ytienmhgbildhhaa
