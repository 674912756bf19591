/- Parts of a proof: contracts and laws. -/
import Derived.Test.YtienmhgbildhhaaB54
import Derived.Test.YtienmhgbildhhaaB47
import Derived.Test.YtienmhgbildhhaaB55
namespace Go.Proofs.Ytienmhgbildhhaa
section
set_option linter.unusedVariables false
set_option linter.unusedSimpArgs false
open Go.RowKit

structure Cp (w : World) (g : Nat) (x y : Int) : Prop where
  a : w.cell? ⟨g, 0, none⟩ = some (.int .i64 x)
  b : w.cell? ⟨g, 1, none⟩ = some (.int .i64 y)
  f : ∀ j, w.frozen? ⟨g, j, none⟩ = false
theorem keepCp {w w' : World} {g : Nat} {x y : Int} (hb : Below w.heap.size w w') (h : Cp w g x y) : Cp w' g x y :=
  ⟨keepCell hb h.a, keepCell hb h.b, fun j => ((bcell hb).2 _ _ (lt_of_cell h.a)).trans (h.f j)⟩
theorem Cp.drew {w : World} {g : Nat} {x y : Int} (h : Cp w g x y) : Cp w.drew g x y := keepCp (Below.refl _ _).drew h

structure RH (w0 : World) (gl gf gw : Nat) (A : Option Addr) (c : Nat) (L : List BE) (fx fy ux uy : Int) (w : World) : Prop where
  l : w.cell? ⟨gl, 0, none⟩ = some (.slice A L.length c)
  f0 : w.cell? ⟨gf, 0, none⟩ = some (.int .i64 fx)
  f1 : w.cell? ⟨gf, 1, none⟩ = some (.int .i64 fy)
  u0 : w.cell? ⟨gw, 0, none⟩ = some (.int .i64 ux)
  u1 : w.cell? ⟨gw, 1, none⟩ = some (.int .i64 uy)
  b : Below w0.heap.size w0 w
theorem keepRH {w0 : World} {gl gf gw : Nat} {A : Option Addr} {c : Nat} {L : List BE} {fx fy ux uy : Int} {w w' : World} (hb : Below w.heap.size w w') (h : RH w0 gl gf gw A c L fx fy ux uy w) : RH w0 gl gf gw A c L fx fy ux uy w' :=
  ⟨keepCell hb h.l, keepCell hb h.f0, keepCell hb h.f1, keepCell hb h.u0, keepCell hb h.u1, keepBelow hb h.b⟩
theorem RH.drew {w0 : World} {gl gf gw : Nat} {A : Option Addr} {c : Nat} {L : List BE} {fx fy ux uy : Int} {w : World} (h : RH w0 gl gf gw A c L fx fy ux uy w) : RH w0 gl gf gw A c L fx fy ux uy w.drew := keepRH (Below.refl _ _).drew h
theorem RH.set {w0 : World} {gl gf gw g o : Nat} {A : Option Addr} {c : Nat} {L : List BE} {fx fy ux uy : Int} {w : World} {v : Value} (h : RH w0 gl gf gw A c L fx fy ux uy w) (h1 : g ≠ gl) (h2 : g ≠ gf) (h3 : g ≠ gw) (h4 : w0.heap.size ≤ g) : RH w0 gl gf gw A c L fx fy ux uy (w.setCell ⟨g, o, none⟩ v) :=
  ⟨far1 h1 h.l, far1 h2 h.f0, far1 h2 h.f1, far1 h3 h.u0, far1 h3 h.u1, h.b.setCell (p := ⟨g, o, none⟩) h4 _⟩
theorem Cp.set {w : World} {g : Nat} {x y : Int} (h : Cp w g x y) (u v : Int) : Cp ((w.setCell ⟨g, 0, none⟩ (.int .i64 u)).setCell ⟨g, 1, none⟩ (.int .i64 v)) g u v := by
  obtain ⟨h0, h1, hf⟩ := h
  have hl := lt_of_cell h0
  exact ⟨by go_simp, by go_simp, fun j => by rw [World.frozen?_setCell, World.frozen?_setCell]; exact hf j⟩
theorem hits_in {L : List BE} {j : Nat} (hj : j < L.length) (hv : bodyE L[j].b L[j].l = 0) {x y : Int} (h : hasB (placeL L[j].b L[j].l) x y = true) : inP (cyP (placeL L[j].b L[j].l)) (x, y) 1 := by
  have hok := placed_ok hv
  have hw : withinB 65536000 x y = true := (hasB_iff.1 h).2.1
  rw [has_eq hok] at h
  exact (has_iff hok hw).1 h
theorem hits_none {L : List BE} {f u : V} (h : castO L f u = none) (hv : ∀ x ∈ L, bodyE x.b x.l = 0) {N x y : Int} (h0 : 0 ≤ N) (h1 : N ≤ 1) (hx : x = 1 * f.1 + N * u.1) (hy : y = 1 * f.2 + N * u.2) (j : Nat) (hj : j < L.length) : hasB (placeL L[j].b L[j].l) x y = false := by
  cases hh : hasB (placeL L[j].b L[j].l) x y with
  | false => rfl
  | true =>
    have := hits_in hj (hv _ (List.getElem_mem hj)) hh
    rw [hx, hy] at this
    exact absurd this (castLaw_none h hj (hv _ (List.getElem_mem hj)) h0 h1)
theorem hits_some {L : List BE} {fx fy ux uy : Int} {a : Nat} {b : Int} (h : castO L (fx, fy) (ux, uy) = some (a, b)) (hv : ∀ x ∈ L, bodyE x.b x.l = 0) (hfx : -786432 ≤ fx ∧ fx ≤ 786432) (hfy : -786432 ≤ fy ∧ fy ≤ 786432) (hux : -786432 ≤ ux ∧ ux ≤ 786432) (huy : -786432 ≤ uy ∧ uy ≤ 786432) :
    (0 ≤ b ∧ b ≤ 65536) ∧ (-800000 ≤ mulF ux b ∧ mulF ux b ≤ 800000) ∧ (-800000 ≤ mulF uy b ∧ mulF uy b ≤ 800000) ∧ (a : Int) ∈ meetTo (fun q => nmeetB q (spotL (fx + mulF ux b) (fy + mulF uy b) 64)) L L.length := by
  obtain ⟨ha, N, M, k0, k1, k2, k3, k4⟩ := castLaw_some h hv
  have b0 : 0 ≤ b := by rw [k3]; exact Int.ediv_nonneg (by omega) (by omega)
  have b1 : b ≤ 65536 := by
    rw [k3]
    have := Int.ediv_lt_of_lt_mul (a := N * 65536) (b := 65537) k0 (by omega)
    omega
  obtain ⟨m1, m1'⟩ := mulF_near (a := ux) (b := b) (by omega) (by omega)
  obtain ⟨m2, m2'⟩ := mulF_near (a := uy) (b := b) (by omega) (by omega)
  have p1 := mul_bd (x := ux) (y := b) (M := 786432) (N := 65536) (by omega) (by omega) (by omega) (by omega)
  have p2 := mul_bd (x := uy) (y := b) (M := 786432) (N := 65536) (by omega) (by omega) (by omega) (by omega)
  have q1 : -800000 ≤ mulF ux b ∧ mulF ux b ≤ 800000 := by omega
  have q2 : -800000 ≤ mulF uy b ∧ mulF uy b ≤ 800000 := by omega
  refine ⟨⟨b0, b1⟩, q1, q2, (meetTo_mem (Nat.le_refl _) _).2 ⟨a, ha, rfl, ha, ?_⟩⟩
  exact spot_meets (p := (fx + mulF ux b, fy + mulF uy b)) (h := 64) (placed_ok (hv _ (List.getElem_mem ha))) k0 k4 (spot_ok (by omega) (by omega) (.inr rfl)) (near_place k0 k1 k2 k3 hux m1 m1') (near_place k0 k1 k2 k3 huy m2 m2')
set_option maxRecDepth 100000 in
set_option maxHeartbeats 8000000 in
theorem rayHits_walk (A : Option Addr) (n c : Nat) (r : List Int) (x y u v : Int) (w : World) (hS : SlI w A n c r) :
    Calls Try.prog 6 #[.slice A n c, .int .i64 x, .int .i64 y, .int .i64 u, .int .i64 v] w (Ret (.bool true) w) := by
  have HSI := hid hS
  clear hS
  go_enter Try.func6, Try.ntmps6
  go_wp2_with fail
  refine (scene_calls A n c r _ HSI.out).mono ?_
  rintro e w1 ⟨sv, jv, L, J, gy, st, rfl, hok⟩
  obtain ⟨A1, n1, c1, rfl, hs1, -⟩ := hok.own.sl
  obtain ⟨A8, n8, c8, rfl, -, -⟩ := hok.jown.sl
  obtain rfl : n1 = L.length := hs1.len
  have HV : Hid (∀ x ∈ L, bodyE x.b x.l = 0) := fun x hx => madeB_ok (hok.co x hx).2.1 (hok.co x hx).2.2
  have HL := hid (show SlB w1 A1 L.length c1 L from ⟨hs1, fun x hx => (hok.co x hx).1⟩)
  have hln : L.length ≤ 5 := hok.len
  have HLN := hid hln
  have HBE : Hid (bodiesE L = 0) := bodiesE_ok (by omega) HV.out
  have hB := hok.bel
  have HB1 := hid hok.bel
  have hfld : ∀ w, (Instr.field 49 (.agg #[.slice A1 L.length c1, .slice A8 n8 c8, .slice none 0 0, .int .i64 0, .int .i64 gy, .int .i64 st]) 0).run Try.prog w = .ok (.slice A1 L.length c1) w := fun w => run_bodies _ _ _ _ _ _ w
  clear hok hs1 hln
  obtain ⟨wl, hwl⟩ : ∃ wl, wl = w1.alloc (.cells #[.slice A1 L.length c1] 31) := ⟨_, rfl⟩
  obtain ⟨gl, hgl⟩ : ∃ g, g = w1.heap.size := ⟨_, rfl⟩
  have l0 : wl.cell? ⟨gl, 0, none⟩ = some (.slice A1 L.length c1) := by rw [hwl, hgl]; go_simp
  have hBl : Below w1.heap.size w1 wl := by rw [hwl]; exact (Below.refl _ _).alloc (Nat.le_refl _) _
  go_wp2_with fail
  rw [← hwl, ← hgl]
  have hglw : w1.heap.size ≤ gl := by omega
  clear hwl hgl hB
  refine (place_calls x y _).mono ?_
  rintro e w3 ⟨rfl, hb⟩
  replace l0 := keepCell hb l0
  replace hBl := keepBelow hb hBl
  clear hb
  have bx : -786432 ≤ x % 1572864 - 786432 ∧ x % 1572864 - 786432 ≤ 786432 := by omega
  have by_ : -786432 ≤ y % 1572864 - 786432 ∧ y % 1572864 - 786432 ≤ 786432 := by omega
  generalize x % 1572864 - 786432 = fx at *
  generalize y % 1572864 - 786432 = fy at *
  have bu : -786432 ≤ u % 1572864 - 786432 ∧ u % 1572864 - 786432 ≤ 786432 := by omega
  have bv : -786432 ≤ v % 1572864 - 786432 ∧ v % 1572864 - 786432 ≤ 786432 := by omega
  have HPLU := hid (place_calls u v)
  generalize u % 1572864 - 786432 = ux at *
  generalize v % 1572864 - 786432 = uy at *
  go_wp2_with fail
  refine (HPLU.out _).mono ?_
  rintro e w5 ⟨rfl, hb⟩
  replace l0 := keepCell hb l0
  replace hBl := keepBelow hb hBl
  clear hb HPLU
  have hll := lt_of_cell l0
  obtain ⟨w6, hw6⟩ : ∃ w6, w6 = (w5.alloc (.cells #[.int .i64 fx, .int .i64 fy] 24)).alloc (.cells #[.int .i64 ux, .int .i64 uy] 24) := ⟨_, rfl⟩
  obtain ⟨gf, hgf⟩ : ∃ g, g = w5.heap.size := ⟨_, rfl⟩
  have hsz5 := hBl.size
  have HRH : Hid (RH w1 gl gf (gf + 1) A1 c1 L fx fy ux uy w6) := by
    show RH _ _ _ _ _ _ _ _ _ _ _ _
    rw [hw6, hgf]
    have hlt2 : gl < w5.heap.size + 1 := by omega
    exact ⟨by go_simp, by go_simp, by go_simp, by go_simp, by go_simp, (hBl.alloc hBl.size _).alloc (by have := hBl.size; simp; omega) _⟩
  have hw1 : withinB 65536000 fx fy = true := withinB_iff.2 (by omega)
  have hw2 : withinB 65536000 ux uy = true := withinB_iff.2 (by omega)
  have HCV : Hid (castV L (fx, fy) (ux, uy) = frV (castO L (fx, fy) (ux, uy))) := by show _ = _; unfold castV; rw [if_neg (by simp [HBE.out]), if_neg (by simp [hw1, hw2])]
  go_upto_region 3 with fail
  rw [← hw6, ← hgf]
  have hgfl : gl < gf := by omega
  have HLT : Hid (w1.heap.size ≤ gl ∧ gl < gf) := ⟨hglw, hgfl⟩
  clear hw6 hgf l0 hBl hll hsz5 hw2 hglw hgfl
  generalize hgw : gf + 1 = gw at *
  have HGW := hid hgw
  clear hgw
  obtain ⟨f0, f1, f2, f3, f4, -⟩ := HRH.out
  go_wp2_with fail
  refine (cast_calls A1 L.length c1 L fx fy ux uy _ (HL.out.below HRH.out.b)).mono ?_
  rintro e w7 ⟨rfl, hb⟩
  rw [HCV.out]
  replace HRH := hid (keepRH hb HRH.out)
  clear hb HCV f0 f1 f2 f3 f4 hfld
  have HNO : Hid (castO L (fx, fy) (ux, uy) = none → (∀ j (hj : j < L.length), hasB (placeL L[j].b L[j].l) (fx + ux) (fy + uy) = false) ∧ ∀ j (hj : j < L.length), hasB (placeL L[j].b L[j].l) fx fy = false) := fun h =>
    ⟨fun j hj => hits_none h HV.out (N := 1) (by omega) (by omega) (by simp) (by simp) j hj, fun j hj => hits_none h HV.out (N := 0) (by omega) (by omega) (by simp) (by simp) j hj⟩
  have HSO : Hid (∀ (a : Nat) (b : Int), castO L (fx, fy) (ux, uy) = some (a, b) → (0 ≤ b ∧ b ≤ 65536) ∧ (-800000 ≤ mulF ux b ∧ mulF ux b ≤ 800000) ∧ (-800000 ≤ mulF uy b ∧ mulF uy b ≤ 800000) ∧ (a : Int) ∈ meetTo (fun q => nmeetB q (spotL (fx + mulF ux b) (fy + mulF uy b) 64)) L L.length) := fun a b h => hits_some h HV.out bx by_ bu bv
  generalize castO L (fx, fy) (ux, uy) = o at *
  unfold frV
  obtain ⟨r1, hr1⟩ : ∃ r, r = frI o := ⟨_, rfl⟩
  obtain ⟨r2, hr2⟩ : ∃ r, r = beZ o := ⟨_, rfl⟩
  obtain ⟨r3, hr3⟩ : ∃ r, r = frE o := ⟨_, rfl⟩
  rw [← hr1, ← hr2, ← hr3]
  have HR := hid (And.intro hr1 (And.intro hr2 hr3))
  clear hr1 hr2 hr3
  go_wp2_with fail
  refine (casts_calls _).mono ?_
  rintro e w8 ⟨rfl, hb⟩
  replace HRH := hid (keepRH hb HRH.out)
  clear hb
  obtain ⟨f0, f1, f2, f3, f4, -⟩ := HRH.out
  go_wp2_with fail
  refine (vadd_calls fx fy ux uy _).mono ?_
  rw [addF_smF (by omega) (by omega), addF_smF (by omega) (by omega)]
  rintro e w9 ⟨rfl, hb⟩
  replace HRH := hid (keepRH hb HRH.out)
  clear hb f0 f1 f2 f3 f4
  obtain ⟨wv, hwv⟩ : ∃ wv, wv = w9.alloc (.cells #[.int .i64 (fx + ux), .int .i64 (fy + uy)] 24) := ⟨_, rfl⟩
  obtain ⟨gp, hgp⟩ : ∃ g, g = w9.heap.size := ⟨_, rfl⟩
  have HCP : Hid (Cp wv gp (fx + ux) (fy + uy)) := by show Cp _ _ _ _; rw [hwv, hgp]; exact ⟨by go_simp, by go_simp, fun j => by go_simp⟩
  have HPL : Hid (gp ≠ gl ∧ gp ≠ gf ∧ gp ≠ gw ∧ w1.heap.size ≤ gp) := by
    have k1 := lt_of_cell HRH.out.l
    have k2 := lt_of_cell HRH.out.f0
    have k3 := lt_of_cell HRH.out.u0
    have k4 := HRH.out.b.size
    show _ ∧ _
    omega
  replace HRH : Hid (RH w1 gl gf gw A1 c1 L fx fy ux uy wv) := by show RH _ _ _ _ _ _ _ _ _ _ _ _; rw [hwv]; exact keepRH ((Below.refl _ _).alloc (Nat.le_refl _) _) HRH.out
  go_upto_region 7 with fail
  rw [← hwv, ← hgp]
  clear hwv hgp
  have HME0 : Hid (∀ (px py h : Int), checkE (spotL px py h) = 0 → ∀ (A6 : Option Addr) (n6 c6 : Nat) (w' : World), Sl w' A6 n6 c6 (spotL px py h) → Below w1.heap.size w1 w' → Calls Try.prog 32 #[.slice A1 L.length c1, .slice A6 n6 c6] w' (RetIE (meetTo (fun q => nmeetB q (spotL px py h)) L L.length) 0 w')) := fun px py h hok A6 n6 c6 w' hs hb => by
    have e : meetE L (spotL px py h) = 0 := by unfold meetE; rw [if_neg (by simp [HBE.out]), hok]
    have e2 : meetL L (spotL px py h) = meetTo (fun q => nmeetB q (spotL px py h)) L L.length := by unfold meetL; rw [e, if_pos rfl]
    have := rayMeet_calls A1 A6 L.length c1 n6 c6 L (spotL px py h) w' (HL.out.below hb) hs
    rwa [e, e2] at this
  have HNE := hid (HME0.out fx fy 1 (spot_ok (by omega) (by omega) (.inl rfl)))
  generalize meetTo (fun q => nmeetB q (spotL fx fy 1)) L L.length = nl at *
  cases o with
  | none =>
    obtain ⟨hno1, hno2⟩ := HNO.out rfl
    have HME := hid (HME0.out (fx + ux) (fy + uy) 64 (spot_ok (by omega) (by omega) (.inr rfl)))
    have hwp : withinB 65536000 (fx + ux) (fy + uy) = true := withinB_iff.2 (by omega)
    obtain ⟨px, hpx⟩ : ∃ px, px = fx + ux := ⟨_, rfl⟩
    obtain ⟨py, hpy⟩ : ∃ py, py = fy + uy := ⟨_, rfl⟩
    have pbx : -4000000 ≤ px ∧ px ≤ 4000000 := by omega
    have pby : -4000000 ≤ py ∧ py ≤ 4000000 := by omega
    rw [← hpx, ← hpy] at HME HCP hno1 hwp
    rw [← hpx, ← hpy]
    generalize meetTo (fun q => nmeetB q (spotL px py 64)) L L.length = ml at *
    have HF1 : Hid (∀ (A9 : Option Addr) (n9 c9 : Nat) (w' : World), RH w1 gl gf gw A1 c1 L fx fy ux uy w' → Cp w' gp px py → SlI w' A9 n9 c9 ml → Calls Try.prog 34 #[.slice A9 n9 c9, .func (.func 35) #[] #[.pointer (some ⟨gl, 0, none⟩), .pointer (some ⟨gp, 0, none⟩)]] w' (Ret (.bool false) w')) := fun A9 n9 c9 w' h1 h2 h3 =>
      containsFuncI_none 35 _ _ cf_hits1_calls A9 n9 c9 ml w' (fun k w'' hb => hits1_calls k A1 c1 L px py gl gp w'' (keepCell hb h1.l) (HL.out.below (keepRH hb h1).b) (keepCell hb h2.a) (keepCell hb h2.b) HV.out hwp hno1) h3
    have HF2 : Hid (∀ (A9 : Option Addr) (n9 c9 : Nat) (w' : World), RH w1 gl gf gw A1 c1 L fx fy ux uy w' → SlI w' A9 n9 c9 nl → Calls Try.prog 34 #[.slice A9 n9 c9, .func (.func 37) #[] #[.pointer (some ⟨gl, 0, none⟩), .pointer (some ⟨gf, 0, none⟩)]] w' (Ret (.bool false) w')) := fun A9 n9 c9 w' h1 h3 =>
      containsFuncI_none 37 _ _ cf_hits2_calls A9 n9 c9 nl w' (fun k w'' hb => hits2_calls k A1 c1 L fx fy gl gf w'' (keepCell hb h1.l) (HL.out.below (keepRH hb h1).b) (keepCell hb h1.f0) (keepCell hb h1.f1) HV.out hw1 hno2) h3
    clear hpx hpy hno1 hno2 hwp HNO HSO HME0 hw1
    obtain ⟨rfl, rfl, rfl⟩ : r1 = 0 ∧ r2 = 0 ∧ r3 = 4 := HR.out
    obtain ⟨wm, hwm⟩ : ∃ wm : World, wm = wv := ⟨_, rfl⟩
    rw [← hwm] at HRH HCP ⊢
    clear hwm
    go_upto_region 9 with fail
    refine wp_region_noPanic ?_
    refine wp_region_U (S := (S2 (fun w' => RH w1 gl gf gw A1 c1 L fx fy ux uy w' ∧ Cp w' gp px py ∧ Below wm.heap.size wm w'))) (T := (fun _ => 0)) (by kernel_rfl) (S2i0 ⟨HRH.out.drew, HCP.out.drew, (Below.refl _ _).drew⟩) (fun hH => ?_)
    have hWr1 : Weaker (S2 (fun w' => RH w1 gl gf gw A1 c1 L fx fy ux uy w' ∧ Cp w' gp px py ∧ Below wm.heap.size wm w')) := weaker2 _
    refine U_take 0 52 8 0 0 (v := ?vr1_1) rfl (by kernel_rfl) (by kernel_rfl) hWr1 (by kernel_rfl) (by kernel_rfl) (by kernel_rfl) (by kernel_rfl) (by kernel_rfl) (by kernel_rfl) (fun _ _ _ _ h => h) (by kernel_rfl) ?hyr1_1 (by omega) hH ?_
    case hyr1_1 => (intro w' hSw; replace hSw := S2o0 hSw; (try dsimp only at hSw); have q0 := hSw.1; have q1 := hSw.2.1; have q2 := hSw.2.2; obtain ⟨qa0_0, qa0_1, qa0_2, qa0_3, qa0_4, -⟩ := id q0; obtain ⟨qa1_0, qa1_1, qa1_f⟩ := id q1; go_simp; try (with_reducible rfl))
    simp only [List.set_cons_zero, List.set_cons_succ]
    refine U_take 1 53 7 0 0 (v := ?vr1_2) rfl (by kernel_rfl) (by kernel_rfl) hWr1 (by kernel_rfl) (by kernel_rfl) (by kernel_rfl) (by kernel_rfl) (by kernel_rfl) (by kernel_rfl) (fun _ _ _ _ h => h) (by kernel_rfl) ?hyr1_2 (by omega) hH ?_
    case hyr1_2 => (intro w' hSw; replace hSw := S2o0 hSw; (try dsimp only at hSw); have q0 := hSw.1; have q1 := hSw.2.1; have q2 := hSw.2.2; obtain ⟨qa0_0, qa0_1, qa0_2, qa0_3, qa0_4, -⟩ := id q0; obtain ⟨qa1_0, qa1_1, qa1_f⟩ := id q1; go_simp; try (with_reducible rfl))
    simp only [List.set_cons_zero, List.set_cons_succ]
    refine wpAnyU_ready (rs := [2]) (by kernel_rfl) (by simp) ?_
    refine AllReadyU.cons 0 (by kernel_rfl) (o := _) rfl (fun K hK => ?_) AllReadyU.nil
    try clear hb
    go_simp
    (go_at_call 33; refine (spot_calls _ _ _ (by omega) (by omega) (by omega) _).mono ?_; rintro e wn ⟨A6, n6, c6, rfl, hD, -, hb⟩)
    refine hK.out _ _ ?hsr1_3 (fun hH2 => ?hrr1_3)
    case hsr1_3 => exact S2i0 (by have hG := hH; replace hG := S2o0 hG; (try dsimp only at hG); have q0 := hG.1; have q1 := hG.2.1; have q2 := hG.2.2; exact ⟨keepRH hb q0, keepCp hb q1, keepBelow hb q2⟩)
    clear hK K hH
    have hH := hH2
    clear hH2
    try simp only [Act.put, List.setIfInBounds_toArray, List.set_cons_zero, List.set_cons_succ]
    refine wpAnyU_ready (rs := [3]) (by kernel_rfl) (by simp) ?_
    refine AllReadyU.cons 0 (by kernel_rfl) (o := _) rfl (fun K hK => ?_) AllReadyU.nil
    try clear hb
    have hG := hH
    replace hG := S2o0 hG; (try dsimp only at hG); have q0 := hG.1; have q1 := hG.2.1; have q2 := hG.2.2
    go_simp
    (go_at_call 32; refine (HME.out A6 n6 c6 _ hD q0.b).mono ?_; rintro e wn ⟨A9, n9, c9, rfl, hi, hb⟩)
    refine hK.out _ _ ?hsr1_4 (fun hH2 => ?hrr1_4)
    case hsr1_4 => exact S2i0 (by have hG := hH; replace hG := S2o0 hG; (try dsimp only at hG); have q0 := hG.1; have q1 := hG.2.1; have q2 := hG.2.2; exact ⟨keepRH hb q0, keepCp hb q1, keepBelow hb q2⟩)
    clear hK K hH
    have hH := hH2
    clear hH2
    try simp only [Act.put, List.setIfInBounds_toArray, List.set_cons_zero, List.set_cons_succ]
    refine U_take 4 51 4 0 0 (v := ?vr1_5) rfl (by kernel_rfl) (by kernel_rfl) hWr1 (by kernel_rfl) (by kernel_rfl) (by kernel_rfl) (by kernel_rfl) (by kernel_rfl) (by kernel_rfl) (fun _ _ _ _ h => h) (by kernel_rfl) ?hyr1_5 (by omega) hH ?_
    case hyr1_5 => (intro w' hSw; clear hSw; go_simp; try (with_reducible rfl))
    simp only [List.set_cons_zero, List.set_cons_succ]
    refine U_take 5 56 3 0 0 (v := ?vr1_6) rfl (by kernel_rfl) (by kernel_rfl) hWr1 (by kernel_rfl) (by kernel_rfl) (by kernel_rfl) (by kernel_rfl) (by kernel_rfl) (by kernel_rfl) (fun _ _ _ _ h => h) (by kernel_rfl) ?hyr1_6 (by omega) hH ?_
    case hyr1_6 => (intro w' hSw; clear hSw; go_simp; try (with_reducible rfl))
    simp only [List.set_cons_zero, List.set_cons_succ]
    refine U_take 6 57 2 0 0 (v := ?vr1_7) rfl (by kernel_rfl) (by kernel_rfl) hWr1 (by kernel_rfl) (by kernel_rfl) (by kernel_rfl) (by kernel_rfl) (by kernel_rfl) (by kernel_rfl) (fun _ _ _ _ h => h) (by kernel_rfl) ?hyr1_7 (by omega) hH ?_
    case hyr1_7 => (intro w' hSw; clear hSw; go_simp; try (with_reducible rfl))
    simp only [List.set_cons_zero, List.set_cons_succ]
    refine U_take 7 18 1 0 0 (v := ?vr1_8) rfl (by kernel_rfl) (by kernel_rfl) hWr1 (by kernel_rfl) (by kernel_rfl) (by kernel_rfl) (by kernel_rfl) (by kernel_rfl) (by kernel_rfl) (fun _ _ _ _ h => h) (by kernel_rfl) ?hyr1_8 (by omega) hH ?_
    case hyr1_8 => (intro w' hSw; clear hSw; go_simp; try (with_reducible rfl))
    simp only [List.set_cons_zero, List.set_cons_succ]
    refine U_take 8 19 0 0 0 (v := ?vr1_9) rfl (by kernel_rfl) (by kernel_rfl) hWr1 (by kernel_rfl) (by kernel_rfl) (by kernel_rfl) (by kernel_rfl) (by kernel_rfl) (by kernel_rfl) (fun _ _ _ _ h => h) (by kernel_rfl) ?hyr1_9 (by omega) hH ?_
    case hyr1_9 => (intro w' hSw; clear hSw; go_simp; try (with_reducible rfl))
    simp only [List.set_cons_zero, List.set_cons_succ]
    refine wpAnyU_done (by kernel_rfl) ?_ _ _
    refine NoPanic.normal ?_
    clear hWr1
    replace hH := S2o0 hH
    (try dsimp only at hH)
    have t0 := hH.1
    have t1 := hH.2.1
    have t2 := hH.2.2
    clear hH hD hb
    replace HRH := hid t0
    replace HCP := hid t1
    have HI := hid hi
    clear t0 t1 t2 hi
    obtain ⟨wv, hwv⟩ : ∃ wv : World, wv = wn := ⟨_, rfl⟩
    rw [← hwv] at HRH HCP HI ⊢
    clear hwv
    obtain ⟨wm, hwm⟩ : ∃ wm : World, wm = wv := ⟨_, rfl⟩
    rw [← hwm] at HRH HCP HI ⊢
    clear hwm
    go_upto_region 10 with fail
    refine wp_region_noPanic ?_
    refine wp_region_U (S := (S2 (fun w' => RH w1 gl gf gw A1 c1 L fx fy ux uy w' ∧ Cp w' gp px py ∧ Below wm.heap.size wm w'))) (T := (fun _ => 0)) (by kernel_rfl) (S2i0 ⟨HRH.out.drew, HCP.out.drew, (Below.refl _ _).drew⟩) (fun hH => ?_)
    have hWr2 : Weaker (S2 (fun w' => RH w1 gl gf gw A1 c1 L fx fy ux uy w' ∧ Cp w' gp px py ∧ Below wm.heap.size wm w')) := weaker2 _
    refine U_take 0 59 8 0 0 (v := ?vr2_1) rfl (by kernel_rfl) (by kernel_rfl) hWr2 (by kernel_rfl) (by kernel_rfl) (by kernel_rfl) (by kernel_rfl) (by kernel_rfl) (by kernel_rfl) (fun _ _ _ _ h => h) (by kernel_rfl) ?hyr2_1 (by omega) hH ?_
    case hyr2_1 => (intro w' hSw; replace hSw := S2o0 hSw; (try dsimp only at hSw); have q0 := hSw.1; have q1 := hSw.2.1; have q2 := hSw.2.2; obtain ⟨qa0_0, qa0_1, qa0_2, qa0_3, qa0_4, -⟩ := id q0; obtain ⟨qa1_0, qa1_1, qa1_f⟩ := id q1; go_simp; try (with_reducible rfl))
    simp only [List.set_cons_zero, List.set_cons_succ]
    refine U_take 1 60 7 0 0 (v := ?vr2_2) rfl (by kernel_rfl) (by kernel_rfl) hWr2 (by kernel_rfl) (by kernel_rfl) (by kernel_rfl) (by kernel_rfl) (by kernel_rfl) (by kernel_rfl) (fun _ _ _ _ h => h) (by kernel_rfl) ?hyr2_2 (by omega) hH ?_
    case hyr2_2 => (intro w' hSw; replace hSw := S2o0 hSw; (try dsimp only at hSw); have q0 := hSw.1; have q1 := hSw.2.1; have q2 := hSw.2.2; obtain ⟨qa0_0, qa0_1, qa0_2, qa0_3, qa0_4, -⟩ := id q0; obtain ⟨qa1_0, qa1_1, qa1_f⟩ := id q1; go_simp; try (with_reducible rfl))
    simp only [List.set_cons_zero, List.set_cons_succ]
    refine wpAnyU_ready (rs := [2]) (by kernel_rfl) (by simp) ?_
    refine AllReadyU.cons 0 (by kernel_rfl) (o := _) rfl (fun K hK => ?_) AllReadyU.nil
    try clear hb
    go_simp
    (go_at_call 33; refine (spot_calls _ _ _ (by omega) (by omega) (by omega) _).mono ?_; rintro e wn ⟨A6, n6, c6, rfl, hD, -, hb⟩)
    refine hK.out _ _ ?hsr2_3 (fun hH2 => ?hrr2_3)
    case hsr2_3 => exact S2i0 (by have hG := hH; replace hG := S2o0 hG; (try dsimp only at hG); have q0 := hG.1; have q1 := hG.2.1; have q2 := hG.2.2; exact ⟨keepRH hb q0, keepCp hb q1, keepBelow hb q2⟩)
    clear hK K hH
    have hH := hH2
    clear hH2
    try simp only [Act.put, List.setIfInBounds_toArray, List.set_cons_zero, List.set_cons_succ]
    refine wpAnyU_ready (rs := [3]) (by kernel_rfl) (by simp) ?_
    refine AllReadyU.cons 0 (by kernel_rfl) (o := _) rfl (fun K hK => ?_) AllReadyU.nil
    try clear hb
    have hG := hH
    replace hG := S2o0 hG; (try dsimp only at hG); have q0 := hG.1; have q1 := hG.2.1; have q2 := hG.2.2
    go_simp
    (go_at_call 32; refine (HNE.out A6 n6 c6 _ hD q0.b).mono ?_; rintro e wn ⟨A10, n10, c10, rfl, hi, hb⟩)
    refine hK.out _ _ ?hsr2_4 (fun hH2 => ?hrr2_4)
    case hsr2_4 => exact S2i0 (by have hG := hH; replace hG := S2o0 hG; (try dsimp only at hG); have q0 := hG.1; have q1 := hG.2.1; have q2 := hG.2.2; exact ⟨keepRH hb q0, keepCp hb q1, keepBelow hb q2⟩)
    clear hK K hH
    have hH := hH2
    clear hH2
    try simp only [Act.put, List.setIfInBounds_toArray, List.set_cons_zero, List.set_cons_succ]
    refine U_take 4 58 4 0 0 (v := ?vr2_5) rfl (by kernel_rfl) (by kernel_rfl) hWr2 (by kernel_rfl) (by kernel_rfl) (by kernel_rfl) (by kernel_rfl) (by kernel_rfl) (by kernel_rfl) (fun _ _ _ _ h => h) (by kernel_rfl) ?hyr2_5 (by omega) hH ?_
    case hyr2_5 => (intro w' hSw; clear hSw; go_simp; try (with_reducible rfl))
    simp only [List.set_cons_zero, List.set_cons_succ]
    refine U_take 5 63 3 0 0 (v := ?vr2_6) rfl (by kernel_rfl) (by kernel_rfl) hWr2 (by kernel_rfl) (by kernel_rfl) (by kernel_rfl) (by kernel_rfl) (by kernel_rfl) (by kernel_rfl) (fun _ _ _ _ h => h) (by kernel_rfl) ?hyr2_6 (by omega) hH ?_
    case hyr2_6 => (intro w' hSw; clear hSw; go_simp; try (with_reducible rfl))
    simp only [List.set_cons_zero, List.set_cons_succ]
    refine U_take 6 64 2 0 0 (v := ?vr2_7) rfl (by kernel_rfl) (by kernel_rfl) hWr2 (by kernel_rfl) (by kernel_rfl) (by kernel_rfl) (by kernel_rfl) (by kernel_rfl) (by kernel_rfl) (fun _ _ _ _ h => h) (by kernel_rfl) ?hyr2_7 (by omega) hH ?_
    case hyr2_7 => (intro w' hSw; clear hSw; go_simp; try (with_reducible rfl))
    simp only [List.set_cons_zero, List.set_cons_succ]
    refine U_take 7 20 1 0 0 (v := ?vr2_8) rfl (by kernel_rfl) (by kernel_rfl) hWr2 (by kernel_rfl) (by kernel_rfl) (by kernel_rfl) (by kernel_rfl) (by kernel_rfl) (by kernel_rfl) (fun _ _ _ _ h => h) (by kernel_rfl) ?hyr2_8 (by omega) hH ?_
    case hyr2_8 => (intro w' hSw; clear hSw; go_simp; try (with_reducible rfl))
    simp only [List.set_cons_zero, List.set_cons_succ]
    refine U_take 8 21 0 0 0 (v := ?vr2_9) rfl (by kernel_rfl) (by kernel_rfl) hWr2 (by kernel_rfl) (by kernel_rfl) (by kernel_rfl) (by kernel_rfl) (by kernel_rfl) (by kernel_rfl) (fun _ _ _ _ h => h) (by kernel_rfl) ?hyr2_9 (by omega) hH ?_
    case hyr2_9 => (intro w' hSw; clear hSw; go_simp; try (with_reducible rfl))
    simp only [List.set_cons_zero, List.set_cons_succ]
    refine wpAnyU_done (by kernel_rfl) ?_ _ _
    refine NoPanic.normal ?_
    clear hWr2
    replace hH := S2o0 hH
    (try dsimp only at hH)
    have t0 := hH.1
    have t1 := hH.2.1
    have t2 := hH.2.2
    clear hH hD hb
    replace HRH := hid t0
    replace HCP := hid t1
    replace HI := hid (HI.out.below t2)
    have HN := hid hi
    clear t0 t1 t2 hi
    go_wp2_with fail
    refine (HF1.out A9 n9 c9 _ HRH.out HCP.out HI.out).mono ?_
    rintro e wa ⟨rfl, hb⟩
    replace HN := hid (HN.out.below hb)
    replace HRH := hid (keepRH hb HRH.out)
    clear hb
    go_wp2_with fail
    refine (HF2.out A10 n10 c10 _ HRH.out HN.out).mono ?_
    rintro e wb ⟨rfl, hb⟩
    have hB9 := keepBelow hb (keepBelow HRH.out.b HB1.out)
    go_wp2
    go_returns
    exact ret_bool (by simp) hB9
  | some ab =>
    obtain ⟨a, b⟩ := ab
    obtain ⟨⟨b0, b1⟩, mx, my, hmem⟩ := HSO.out a b rfl
    obtain ⟨e1, e2, e3⟩ : r1 = (a : Int) ∧ r2 = b ∧ r3 = 0 := HR.out
    subst e1 e3
    rw [← e2] at b0 b1 mx my hmem
    clear e2 HR HNO HSO
    have HA1 : Hid (addF fx (mulF ux r2) = fx + mulF ux r2) := addF_smF (by omega) (by omega)
    have HA2 : Hid (addF fy (mulF uy r2) = fy + mulF uy r2) := addF_smF (by omega) (by omega)
    have HME := hid (HME0.out (fx + mulF ux r2) (fy + mulF uy r2) 64 (spot_ok (by omega) (by omega) (.inr rfl)))
    have pbx0 : -4000000 ≤ fx + mulF ux r2 ∧ fx + mulF ux r2 ≤ 4000000 := by omega
    have pby0 : -4000000 ≤ fy + mulF uy r2 ∧ fy + mulF uy r2 ≤ 4000000 := by omega
    clear HME0 hw1 mx my
    go_upto_region 8 with fail
    refine wp_region_noPanic ?_
    refine wp_region_U (S := (S2 (fun w' => RH w1 gl gf gw A1 c1 L fx fy ux uy w' ∧ Cp w' gp (fx + ux) (fy + uy)))) (T := (fun j => [0, 0, 0, 0, 0, 1].getD j 0)) (by kernel_rfl) (S2i0 ⟨HRH.out.drew, HCP.out.drew⟩) (fun hH => ?_)
    have hWr3 : Weaker (S2 (fun w' => RH w1 gl gf gw A1 c1 L fx fy ux uy w' ∧ Cp w' gp (fx + ux) (fy + uy))) := weaker2 _
    refine U_take 0 46 5 0 0 (v := ?vr3_1) rfl (by kernel_rfl) (by kernel_rfl) hWr3 (by kernel_rfl) (by kernel_rfl) (by kernel_rfl) (by kernel_rfl) (by kernel_rfl) (by kernel_rfl) (fun _ _ _ _ h => h) (by kernel_rfl) ?hyr3_1 (by omega) hH ?_
    case hyr3_1 => (intro w' hSw; replace hSw := S2o0 hSw; (try dsimp only at hSw); have q0 := hSw.1; have q1 := hSw.2; obtain ⟨qa0_0, qa0_1, qa0_2, qa0_3, qa0_4, -⟩ := id q0; obtain ⟨qa1_0, qa1_1, qa1_f⟩ := id q1; go_simp; try (with_reducible rfl))
    simp only [List.set_cons_zero, List.set_cons_succ]
    refine U_take 1 47 4 0 0 (v := ?vr3_2) rfl (by kernel_rfl) (by kernel_rfl) hWr3 (by kernel_rfl) (by kernel_rfl) (by kernel_rfl) (by kernel_rfl) (by kernel_rfl) (by kernel_rfl) (fun _ _ _ _ h => h) (by kernel_rfl) ?hyr3_2 (by omega) hH ?_
    case hyr3_2 => (intro w' hSw; replace hSw := S2o0 hSw; (try dsimp only at hSw); have q0 := hSw.1; have q1 := hSw.2; obtain ⟨qa0_0, qa0_1, qa0_2, qa0_3, qa0_4, -⟩ := id q0; obtain ⟨qa1_0, qa1_1, qa1_f⟩ := id q1; go_simp; try (with_reducible rfl))
    simp only [List.set_cons_zero, List.set_cons_succ]
    refine U_take 2 48 3 0 0 (v := ?vr3_3) rfl (by kernel_rfl) (by kernel_rfl) hWr3 (by kernel_rfl) (by kernel_rfl) (by kernel_rfl) (by kernel_rfl) (by kernel_rfl) (by kernel_rfl) (fun _ _ _ _ h => h) (by kernel_rfl) ?hyr3_3 (by omega) hH ?_
    case hyr3_3 => (intro w' hSw; clear hSw; go_simp; try (with_reducible rfl))
    simp only [List.set_cons_zero, List.set_cons_succ]
    refine wpAnyU_ready (rs := [3]) (by kernel_rfl) (by simp) ?_
    refine AllReadyU.cons 0 (by kernel_rfl) (o := _) rfl (fun K hK => ?_) AllReadyU.nil
    try clear hb
    go_simp
    (go_at_call 31; refine (vscale_calls _ _ _ _).mono ?_; rintro e wn ⟨rfl, hb⟩)
    refine hK.out _ _ ?hsr3_4 (fun hH2 => ?hrr3_4)
    case hsr3_4 => exact S2i0 (by have hG := hH; replace hG := S2o0 hG; (try dsimp only at hG); have q0 := hG.1; have q1 := hG.2; exact ⟨keepRH hb q0, keepCp hb q1⟩)
    clear hK K hH
    have hH := hH2
    clear hH2
    try simp only [Act.put, List.setIfInBounds_toArray, List.set_cons_zero, List.set_cons_succ]
    refine wpAnyU_ready (rs := [4]) (by kernel_rfl) (by simp) ?_
    refine AllReadyU.cons 0 (by kernel_rfl) (o := _) rfl (fun K hK => ?_) AllReadyU.nil
    try clear hb
    go_simp
    (go_at_call 30; refine (vadd_calls _ _ _ _ _).mono ?_; rw [HA1.out, HA2.out]; rintro e wn ⟨rfl, hb⟩)
    refine hK.out _ _ ?hsr3_5 (fun hH2 => ?hrr3_5)
    case hsr3_5 => exact S2i0 (by have hG := hH; replace hG := S2o0 hG; (try dsimp only at hG); have q0 := hG.1; have q1 := hG.2; exact ⟨keepRH hb q0, keepCp hb q1⟩)
    clear hK K hH
    have hH := hH2
    clear hH2
    try simp only [Act.put, List.setIfInBounds_toArray, List.set_cons_zero, List.set_cons_succ]
    refine wpAnyU_ready (rs := [5]) (by kernel_rfl) (by simp) ?_
    refine AllReadyU.cons 1 (by kernel_rfl) (o := _) rfl (fun K hK => ?_) AllReadyU.nil
    try clear hb
    have hG := hH
    replace hG := S2o0 hG; (try dsimp only at hG); have q0 := hG.1; have q1 := hG.2
    have HQ := hid q0
    have HP := hid q1
    obtain ⟨y0, y1, yf⟩ := q1
    go_simp
    refine hK.out _ _ ?hsr3_6 (fun hH2 => ?hrr3_6)
    case hsr3_6 => exact S2i1
    clear hK K hH
    have hH := hH2
    clear hH2
    try simp only [Act.put, List.setIfInBounds_toArray, List.set_cons_zero, List.set_cons_succ]
    refine wpAnyU_done (by kernel_rfl) ?_ _ _
    refine NoPanic.normal ?_
    clear hWr3 hH
    obtain ⟨px, hpx⟩ : ∃ px, px = fx + mulF ux r2 := ⟨_, rfl⟩
    obtain ⟨py, hpy⟩ : ∃ py, py = fy + mulF uy r2 := ⟨_, rfl⟩
    rw [← hpx] at pbx0 HME hmem
    rw [← hpy] at pby0 HME hmem
    have pbx := pbx0
    have pby := pby0
    rw [← hpx, ← hpy]
    obtain ⟨k1, k2, k3, k4⟩ := HPL.out
    replace HRH := hid ((HQ.out.set (o := 0) (v := .int .i64 px) k1 k2 k3 k4).set (o := 1) (v := .int .i64 py) k1 k2 k3 k4)
    replace HCP := hid (HP.out.set px py)
    have HMEM := hid hmem
    clear hpx hpy pbx0 pby0 HQ HP y0 y1 yf hmem k1 k2 k3 k4 HA1 HA2
    generalize meetTo (fun q => nmeetB q (spotL px py 64)) L L.length = ml at *
    generalize ((wn.setCell ⟨gp, 0, none⟩ (.int .i64 px)).setCell ⟨gp, 1, none⟩ (.int .i64 py)) = wv at *
    obtain ⟨wm, hwm⟩ : ∃ wm : World, wm = wv := ⟨_, rfl⟩
    rw [← hwm] at HRH HCP ⊢
    clear hwm
    go_upto_region 9 with fail
    refine wp_region_noPanic ?_
    refine wp_region_U (S := (S2 (fun w' => RH w1 gl gf gw A1 c1 L fx fy ux uy w' ∧ Cp w' gp px py ∧ Below wm.heap.size wm w'))) (T := (fun _ => 0)) (by kernel_rfl) (S2i0 ⟨HRH.out.drew, HCP.out.drew, (Below.refl _ _).drew⟩) (fun hH => ?_)
    have hWr4 : Weaker (S2 (fun w' => RH w1 gl gf gw A1 c1 L fx fy ux uy w' ∧ Cp w' gp px py ∧ Below wm.heap.size wm w')) := weaker2 _
    refine U_take 0 52 8 0 0 (v := ?vr4_1) rfl (by kernel_rfl) (by kernel_rfl) hWr4 (by kernel_rfl) (by kernel_rfl) (by kernel_rfl) (by kernel_rfl) (by kernel_rfl) (by kernel_rfl) (fun _ _ _ _ h => h) (by kernel_rfl) ?hyr4_1 (by omega) hH ?_
    case hyr4_1 => (intro w' hSw; replace hSw := S2o0 hSw; (try dsimp only at hSw); have q0 := hSw.1; have q1 := hSw.2.1; have q2 := hSw.2.2; obtain ⟨qa0_0, qa0_1, qa0_2, qa0_3, qa0_4, -⟩ := id q0; obtain ⟨qa1_0, qa1_1, qa1_f⟩ := id q1; go_simp; try (with_reducible rfl))
    simp only [List.set_cons_zero, List.set_cons_succ]
    refine U_take 1 53 7 0 0 (v := ?vr4_2) rfl (by kernel_rfl) (by kernel_rfl) hWr4 (by kernel_rfl) (by kernel_rfl) (by kernel_rfl) (by kernel_rfl) (by kernel_rfl) (by kernel_rfl) (fun _ _ _ _ h => h) (by kernel_rfl) ?hyr4_2 (by omega) hH ?_
    case hyr4_2 => (intro w' hSw; replace hSw := S2o0 hSw; (try dsimp only at hSw); have q0 := hSw.1; have q1 := hSw.2.1; have q2 := hSw.2.2; obtain ⟨qa0_0, qa0_1, qa0_2, qa0_3, qa0_4, -⟩ := id q0; obtain ⟨qa1_0, qa1_1, qa1_f⟩ := id q1; go_simp; try (with_reducible rfl))
    simp only [List.set_cons_zero, List.set_cons_succ]
    refine wpAnyU_ready (rs := [2]) (by kernel_rfl) (by simp) ?_
    refine AllReadyU.cons 0 (by kernel_rfl) (o := _) rfl (fun K hK => ?_) AllReadyU.nil
    try clear hb
    go_simp
    (go_at_call 33; refine (spot_calls _ _ _ (by omega) (by omega) (by omega) _).mono ?_; rintro e wn ⟨A6, n6, c6, rfl, hD, -, hb⟩)
    refine hK.out _ _ ?hsr4_3 (fun hH2 => ?hrr4_3)
    case hsr4_3 => exact S2i0 (by have hG := hH; replace hG := S2o0 hG; (try dsimp only at hG); have q0 := hG.1; have q1 := hG.2.1; have q2 := hG.2.2; exact ⟨keepRH hb q0, keepCp hb q1, keepBelow hb q2⟩)
    clear hK K hH
    have hH := hH2
    clear hH2
    try simp only [Act.put, List.setIfInBounds_toArray, List.set_cons_zero, List.set_cons_succ]
    refine wpAnyU_ready (rs := [3]) (by kernel_rfl) (by simp) ?_
    refine AllReadyU.cons 0 (by kernel_rfl) (o := _) rfl (fun K hK => ?_) AllReadyU.nil
    try clear hb
    have hG := hH
    replace hG := S2o0 hG; (try dsimp only at hG); have q0 := hG.1; have q1 := hG.2.1; have q2 := hG.2.2
    go_simp
    (go_at_call 32; refine (HME.out A6 n6 c6 _ hD q0.b).mono ?_; rintro e wn ⟨A9, n9, c9, rfl, hi, hb⟩)
    refine hK.out _ _ ?hsr4_4 (fun hH2 => ?hrr4_4)
    case hsr4_4 => exact S2i0 (by have hG := hH; replace hG := S2o0 hG; (try dsimp only at hG); have q0 := hG.1; have q1 := hG.2.1; have q2 := hG.2.2; exact ⟨keepRH hb q0, keepCp hb q1, keepBelow hb q2⟩)
    clear hK K hH
    have hH := hH2
    clear hH2
    try simp only [Act.put, List.setIfInBounds_toArray, List.set_cons_zero, List.set_cons_succ]
    refine U_take 4 51 4 0 0 (v := ?vr4_5) rfl (by kernel_rfl) (by kernel_rfl) hWr4 (by kernel_rfl) (by kernel_rfl) (by kernel_rfl) (by kernel_rfl) (by kernel_rfl) (by kernel_rfl) (fun _ _ _ _ h => h) (by kernel_rfl) ?hyr4_5 (by omega) hH ?_
    case hyr4_5 => (intro w' hSw; clear hSw; go_simp; try (with_reducible rfl))
    simp only [List.set_cons_zero, List.set_cons_succ]
    refine U_take 5 56 3 0 0 (v := ?vr4_6) rfl (by kernel_rfl) (by kernel_rfl) hWr4 (by kernel_rfl) (by kernel_rfl) (by kernel_rfl) (by kernel_rfl) (by kernel_rfl) (by kernel_rfl) (fun _ _ _ _ h => h) (by kernel_rfl) ?hyr4_6 (by omega) hH ?_
    case hyr4_6 => (intro w' hSw; clear hSw; go_simp; try (with_reducible rfl))
    simp only [List.set_cons_zero, List.set_cons_succ]
    refine U_take 6 57 2 0 0 (v := ?vr4_7) rfl (by kernel_rfl) (by kernel_rfl) hWr4 (by kernel_rfl) (by kernel_rfl) (by kernel_rfl) (by kernel_rfl) (by kernel_rfl) (by kernel_rfl) (fun _ _ _ _ h => h) (by kernel_rfl) ?hyr4_7 (by omega) hH ?_
    case hyr4_7 => (intro w' hSw; clear hSw; go_simp; try (with_reducible rfl))
    simp only [List.set_cons_zero, List.set_cons_succ]
    refine U_take 7 18 1 0 0 (v := ?vr4_8) rfl (by kernel_rfl) (by kernel_rfl) hWr4 (by kernel_rfl) (by kernel_rfl) (by kernel_rfl) (by kernel_rfl) (by kernel_rfl) (by kernel_rfl) (fun _ _ _ _ h => h) (by kernel_rfl) ?hyr4_8 (by omega) hH ?_
    case hyr4_8 => (intro w' hSw; clear hSw; go_simp; try (with_reducible rfl))
    simp only [List.set_cons_zero, List.set_cons_succ]
    refine U_take 8 19 0 0 0 (v := ?vr4_9) rfl (by kernel_rfl) (by kernel_rfl) hWr4 (by kernel_rfl) (by kernel_rfl) (by kernel_rfl) (by kernel_rfl) (by kernel_rfl) (by kernel_rfl) (fun _ _ _ _ h => h) (by kernel_rfl) ?hyr4_9 (by omega) hH ?_
    case hyr4_9 => (intro w' hSw; clear hSw; go_simp; try (with_reducible rfl))
    simp only [List.set_cons_zero, List.set_cons_succ]
    refine wpAnyU_done (by kernel_rfl) ?_ _ _
    refine NoPanic.normal ?_
    clear hWr4
    replace hH := S2o0 hH
    (try dsimp only at hH)
    have t0 := hH.1
    have t1 := hH.2.1
    have t2 := hH.2.2
    clear hH hD hb
    replace HRH := hid t0
    replace HCP := hid t1
    have HI := hid hi
    clear t0 t1 t2 hi
    obtain ⟨wv, hwv⟩ : ∃ wv : World, wv = wn := ⟨_, rfl⟩
    rw [← hwv] at HRH HCP HI ⊢
    clear hwv
    obtain ⟨wm, hwm⟩ : ∃ wm : World, wm = wv := ⟨_, rfl⟩
    rw [← hwm] at HRH HCP HI ⊢
    clear hwm
    go_upto_region 10 with fail
    refine wp_region_noPanic ?_
    refine wp_region_U (S := (S2 (fun w' => RH w1 gl gf gw A1 c1 L fx fy ux uy w' ∧ Cp w' gp px py ∧ Below wm.heap.size wm w'))) (T := (fun _ => 0)) (by kernel_rfl) (S2i0 ⟨HRH.out.drew, HCP.out.drew, (Below.refl _ _).drew⟩) (fun hH => ?_)
    have hWr5 : Weaker (S2 (fun w' => RH w1 gl gf gw A1 c1 L fx fy ux uy w' ∧ Cp w' gp px py ∧ Below wm.heap.size wm w')) := weaker2 _
    refine U_take 0 59 8 0 0 (v := ?vr5_1) rfl (by kernel_rfl) (by kernel_rfl) hWr5 (by kernel_rfl) (by kernel_rfl) (by kernel_rfl) (by kernel_rfl) (by kernel_rfl) (by kernel_rfl) (fun _ _ _ _ h => h) (by kernel_rfl) ?hyr5_1 (by omega) hH ?_
    case hyr5_1 => (intro w' hSw; replace hSw := S2o0 hSw; (try dsimp only at hSw); have q0 := hSw.1; have q1 := hSw.2.1; have q2 := hSw.2.2; obtain ⟨qa0_0, qa0_1, qa0_2, qa0_3, qa0_4, -⟩ := id q0; obtain ⟨qa1_0, qa1_1, qa1_f⟩ := id q1; go_simp; try (with_reducible rfl))
    simp only [List.set_cons_zero, List.set_cons_succ]
    refine U_take 1 60 7 0 0 (v := ?vr5_2) rfl (by kernel_rfl) (by kernel_rfl) hWr5 (by kernel_rfl) (by kernel_rfl) (by kernel_rfl) (by kernel_rfl) (by kernel_rfl) (by kernel_rfl) (fun _ _ _ _ h => h) (by kernel_rfl) ?hyr5_2 (by omega) hH ?_
    case hyr5_2 => (intro w' hSw; replace hSw := S2o0 hSw; (try dsimp only at hSw); have q0 := hSw.1; have q1 := hSw.2.1; have q2 := hSw.2.2; obtain ⟨qa0_0, qa0_1, qa0_2, qa0_3, qa0_4, -⟩ := id q0; obtain ⟨qa1_0, qa1_1, qa1_f⟩ := id q1; go_simp; try (with_reducible rfl))
    simp only [List.set_cons_zero, List.set_cons_succ]
    refine wpAnyU_ready (rs := [2]) (by kernel_rfl) (by simp) ?_
    refine AllReadyU.cons 0 (by kernel_rfl) (o := _) rfl (fun K hK => ?_) AllReadyU.nil
    try clear hb
    go_simp
    (go_at_call 33; refine (spot_calls _ _ _ (by omega) (by omega) (by omega) _).mono ?_; rintro e wn ⟨A6, n6, c6, rfl, hD, -, hb⟩)
    refine hK.out _ _ ?hsr5_3 (fun hH2 => ?hrr5_3)
    case hsr5_3 => exact S2i0 (by have hG := hH; replace hG := S2o0 hG; (try dsimp only at hG); have q0 := hG.1; have q1 := hG.2.1; have q2 := hG.2.2; exact ⟨keepRH hb q0, keepCp hb q1, keepBelow hb q2⟩)
    clear hK K hH
    have hH := hH2
    clear hH2
    try simp only [Act.put, List.setIfInBounds_toArray, List.set_cons_zero, List.set_cons_succ]
    refine wpAnyU_ready (rs := [3]) (by kernel_rfl) (by simp) ?_
    refine AllReadyU.cons 0 (by kernel_rfl) (o := _) rfl (fun K hK => ?_) AllReadyU.nil
    try clear hb
    have hG := hH
    replace hG := S2o0 hG; (try dsimp only at hG); have q0 := hG.1; have q1 := hG.2.1; have q2 := hG.2.2
    go_simp
    (go_at_call 32; refine (HNE.out A6 n6 c6 _ hD q0.b).mono ?_; rintro e wn ⟨A10, n10, c10, rfl, hi, hb⟩)
    refine hK.out _ _ ?hsr5_4 (fun hH2 => ?hrr5_4)
    case hsr5_4 => exact S2i0 (by have hG := hH; replace hG := S2o0 hG; (try dsimp only at hG); have q0 := hG.1; have q1 := hG.2.1; have q2 := hG.2.2; exact ⟨keepRH hb q0, keepCp hb q1, keepBelow hb q2⟩)
    clear hK K hH
    have hH := hH2
    clear hH2
    try simp only [Act.put, List.setIfInBounds_toArray, List.set_cons_zero, List.set_cons_succ]
    refine U_take 4 58 4 0 0 (v := ?vr5_5) rfl (by kernel_rfl) (by kernel_rfl) hWr5 (by kernel_rfl) (by kernel_rfl) (by kernel_rfl) (by kernel_rfl) (by kernel_rfl) (by kernel_rfl) (fun _ _ _ _ h => h) (by kernel_rfl) ?hyr5_5 (by omega) hH ?_
    case hyr5_5 => (intro w' hSw; clear hSw; go_simp; try (with_reducible rfl))
    simp only [List.set_cons_zero, List.set_cons_succ]
    refine U_take 5 63 3 0 0 (v := ?vr5_6) rfl (by kernel_rfl) (by kernel_rfl) hWr5 (by kernel_rfl) (by kernel_rfl) (by kernel_rfl) (by kernel_rfl) (by kernel_rfl) (by kernel_rfl) (fun _ _ _ _ h => h) (by kernel_rfl) ?hyr5_6 (by omega) hH ?_
    case hyr5_6 => (intro w' hSw; clear hSw; go_simp; try (with_reducible rfl))
    simp only [List.set_cons_zero, List.set_cons_succ]
    refine U_take 6 64 2 0 0 (v := ?vr5_7) rfl (by kernel_rfl) (by kernel_rfl) hWr5 (by kernel_rfl) (by kernel_rfl) (by kernel_rfl) (by kernel_rfl) (by kernel_rfl) (by kernel_rfl) (fun _ _ _ _ h => h) (by kernel_rfl) ?hyr5_7 (by omega) hH ?_
    case hyr5_7 => (intro w' hSw; clear hSw; go_simp; try (with_reducible rfl))
    simp only [List.set_cons_zero, List.set_cons_succ]
    refine U_take 7 20 1 0 0 (v := ?vr5_8) rfl (by kernel_rfl) (by kernel_rfl) hWr5 (by kernel_rfl) (by kernel_rfl) (by kernel_rfl) (by kernel_rfl) (by kernel_rfl) (by kernel_rfl) (fun _ _ _ _ h => h) (by kernel_rfl) ?hyr5_8 (by omega) hH ?_
    case hyr5_8 => (intro w' hSw; clear hSw; go_simp; try (with_reducible rfl))
    simp only [List.set_cons_zero, List.set_cons_succ]
    refine U_take 8 21 0 0 0 (v := ?vr5_9) rfl (by kernel_rfl) (by kernel_rfl) hWr5 (by kernel_rfl) (by kernel_rfl) (by kernel_rfl) (by kernel_rfl) (by kernel_rfl) (by kernel_rfl) (fun _ _ _ _ h => h) (by kernel_rfl) ?hyr5_9 (by omega) hH ?_
    case hyr5_9 => (intro w' hSw; clear hSw; go_simp; try (with_reducible rfl))
    simp only [List.set_cons_zero, List.set_cons_succ]
    refine wpAnyU_done (by kernel_rfl) ?_ _ _
    refine NoPanic.normal ?_
    clear hWr5
    replace hH := S2o0 hH
    (try dsimp only at hH)
    have t0 := hH.1
    have t1 := hH.2.1
    have t2 := hH.2.2
    clear hH hD hb
    replace HRH := hid t0
    replace HCP := hid t1
    replace HI := hid (HI.out.below t2)
    have HN := hid hi
    clear t0 t1 t2 hi
    go_wp2_with fail
    refine (containsI_calls A9 n9 c9 _ _ HMEM.out _ HI.out).mono ?_
    rintro e wa ⟨rfl, hb⟩
    have hB9 := keepBelow hb (keepBelow HRH.out.b HB1.out)
    go_wp2
    go_returns
    exact ret_bool (by simp) hB9
end
end Go.Proofs.Ytienmhgbildhhaa
