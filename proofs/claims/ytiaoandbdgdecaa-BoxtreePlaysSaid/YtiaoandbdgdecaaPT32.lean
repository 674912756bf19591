/- Parts of a proof: contracts and laws. -/
import Derived.Test.YtiaoandbdgdecaaPT31
import Derived.Test.YtiaoandbdgdecaaPT29
namespace Go.Proofs.Ytiaoandbdgdecaa
section
set_option linter.unusedVariables false
set_option linter.unusedSimpArgs false
open Go.RowKit
theorem run_neqN (a : Option Addr) (w : World) : (binOp .neq 56 (.pointer a) (.pointer none)).run Try.prog w = .ok (.bool a.isSome) w := by
  cases a with
  | none => go_simp
  | some a => go_simp

structure PutM (g gb : Nat) (s : TS) (T : Option TB) (i : Nat) (b1 b2 b3 b4 : Int) (w wx : World) (s1 : TS) (T1 : Option TB) : Prop where
  mem : Mem wx g s1
  out : Out (s.In g) w wx
  wf : WF s1 T1
  no : ∀ y ∈ lvsO T1, y.2.1 ≠ i
  same : ∀ j, j ≠ i → bxO T1 j = bxO T j
  inn : ∀ k, s1.In g k → s.In g k
  c0 : wx.cell? ⟨gb, 0, none⟩ = some (.int .i64 b1)
  c1 : wx.cell? ⟨gb, 1, none⟩ = some (.int .i64 b2)
  c2 : wx.cell? ⟨gb, 2, none⟩ = some (.int .i64 b3)
  c3 : wx.cell? ⟨gb, 3, none⟩ = some (.int .i64 b4)
  gb1 : w.heap.size ≤ gb
  ne : g ≠ gb
def RetPutF (g : Nat) (s : TS) (T : Option TB) (i : Nat) (b : Bx) (w : World) (e : Ending) (w' : World) : Prop := ∃ s' T', e = .returned (.int .i64 0) ∧ Mem w' g s' ∧ Out (s.In g) w w' ∧ WF s' (some T') ∧ (∀ j, bxO (some T') j = if j = i then some b else bxO T j) ∧ (∀ k, s'.In g k → s.In g k ∨ w.heap.size ≤ k)
theorem ret_put {g gb i : Nat} {s s1 : TS} {T T1 : Option TB} {b1 b2 b3 b4 : Int} {w wx w' : World} {e : Ending} (hM : PutM g gb s T i b1 b2 b3 b4 w wx s1 T1) (h : RetPut g s1 T1 i ((b1, b2), (b3, b4)) wx e w') : RetPutF g s T i ((b1, b2), (b3, b4)) w e w' := by
  obtain ⟨s', T', gl, rfl, m, o, wf, pm, inn⟩ := h
  refine ⟨s', T', rfl, m, hM.out.trans o (fun k _ q => hM.inn k q), wf, fun j => ?_, fun k q => ?_⟩
  · rw [bxO_put wf (T := T1) pm]
    by_cases e : j = i
    · rw [if_pos e, if_pos e]
    · rw [if_neg e, if_neg e, hM.same j e]
  · rcases inn k q with q | q
    · exact .inl (hM.inn k q)
    · exact .inr (Nat.le_trans hM.out.size q)
theorem htOf_eq {w : World} {b : Nat} {r : NR} (h : NdC w b r) {n : Nat} (hr : r.ht = ((n : Nat) : Int)) : htOf w (.pointer (pA b)) = n := by
  show (intOf ((w.cell? ⟨b, 5, none⟩).getD undef)).toNat = n
  rw [h.c5, hr]
  rfl
set_option maxRecDepth 100000 in
set_option maxHeartbeats 16000000 in
theorem put_calls {w : World} {g : Nat} {s : TS} (h : Mem w g s) {T : Option TB} (hW : WF s T) {i : Nat} (hi : i < 256) (b1 b2 b3 b4 : Int) (hb : vldB ((b1, b2), (b3, b4)) = true) :
    Calls Try.prog 10 #[.pointer (pA g), .int .i64 (i : Nat), bxV ((b1, b2), (b3, b4))] w (RetPutF g s T i ((b1, b2), (b3, b4)) w) := by
  have HV := hid (fun w => svalid_calls b1 b2 b3 b4 w)
  rw [hb] at HV
  obtain ⟨W, hWw⟩ : ∃ W, W = w.alloc (.cells #[.int .i64 b1, .int .i64 b2, .int .i64 b3, .int .i64 b4] 32) := ⟨_, rfl⟩
  obtain ⟨gb, hgb⟩ : ∃ x, x = w.heap.size := ⟨_, rfl⟩
  have hB := (show Below w.heap.size w W by rw [hWw]; go_grown)
  have HMW := hid (h.below hB)
  have k_0 : W.cell? ⟨gb, 0, none⟩ = some (.int .i64 b1) := by rw [hWw, hgb]; go_simp
  have k_1 : W.cell? ⟨gb, 1, none⟩ = some (.int .i64 b2) := by rw [hWw, hgb]; go_simp
  have k_2 : W.cell? ⟨gb, 2, none⟩ = some (.int .i64 b3) := by rw [hWw, hgb]; go_simp
  have k_3 : W.cell? ⟨gb, 3, none⟩ = some (.int .i64 b4) := by rw [hWw, hgb]; go_simp
  have lb := lt_of_cell k_0
  have i0 : ¬ (i : Int) < 0 := by omega
  have i1 : ¬ (i : Int) ≥ 256 := by omega
  have i2 : (i : Int) < 256 := by omega
  have HW := hid hW
  have HB0 := hid hB
  have hgw : w.heap.size ≤ gb := Nat.le_of_eq hgb.symm
  have HGW := hid hgw
  have HNE : Hid (g ≠ gb) := by have := h.lt; show g ≠ gb; omega
  have HOLD : Hid (∀ k, s.In g k → k < w.heap.size) := fun k hk => by
    rcases hk with hk | hk
    · rw [hk]; exact h.lt
    · rcases hr : s.nd k with _ | r
      · exact absurd hr hk
      · exact (h.nd k r hr).lt
  clear hb h hB hW hgw
  go_enter Try.func10, Try.ntmps10
  go_upto_region 1 with fail
  rw [← hWw, ← hgb]
  clear hWw hgb
  go_wp2_with fail
  refine (HV.out _).mono ?_
  rintro e w1 ⟨rfl, hb1⟩
  replace k_0 := keepCell hb1 k_0
  replace k_1 := keepCell hb1 k_1
  replace k_2 := keepCell hb1 k_2
  replace k_3 := keepCell hb1 k_3
  have hm1 := HMW.out.below hb1
  have HB1 := hid (keepBelow hb1 HB0.out)
  have HM1 := hid hm1
  obtain ⟨a, ha⟩ : ∃ a, a = s.lv i := ⟨_, rfl⟩
  have l_0 := hm1.lv i hi
  rw [← ha] at l_0
  have HA := hid ha
  have hNE := run_neqN a w1
  obtain ⟨z, hz⟩ : ∃ z, z = a.isSome := ⟨_, rfl⟩
  rw [← hz] at hNE
  have HZ := hid hz
  have lg := lt_of_cell l_0
  clear hb1 hm1 HMW lb HV HB0 ha hz
  go_upto_if 28 with fail
  go_cut [] from 29 to 31 (fun wx => ∃ s1 T1, PutM g gb s T i b1 b2 b3 b4 w wx s1 T1)
  case first =>
    cases z with
    | false =>
      have hno : s.lv i = none := by
        have := HZ.out
        rw [HA.out] at this
        cases q : s.lv i with
        | none => rfl
        | some v => rw [q] at this; cases this
      have hR : ∃ s1 T1, PutM g gb s T i b1 b2 b3 b4 w w1 s1 T1 := ⟨s, T, HM1.out, Out.below HB1.out, HW.out, fx_none.1 ((bxO_not HW.out hi).2 hno), fun _ _ => rfl, fun _ q => q, k_0, k_1, k_2, k_3, HGW.out, HNE.out⟩
      have HR := hid hR
      clear hR hno HZ HA HM1 HB1 HW k_0 k_1 k_2 k_3 l_0 lg hNE
      go_wp2_with fail
      go_meet
      exact HR.out
    | true =>
      have hsm : bxO T i ≠ none := fun q => by
        have h1 := (bxO_not HW.out hi).1 q
        have := HZ.out
        rw [HA.out, h1] at this
        cases this
      rcases hbx : bxO T i with _ | b0
      · exact absurd hbx hsm
      · obtain ⟨g0, t, rfl, hlv, hmem⟩ := bxO_at HW.out hbx
        have HD := hid (drop_calls HM1.out HW.out hi hmem rfl)
        have HM1' := hid hmem
        clear hsm hbx hlv hmem l_0 hNE
        go_wp2_with fail
        refine HD.out.mono ?_
        rintro e w2 ⟨s', T', gl, b', rfl, m2, o2, wf2, pm, in2⟩
        have hgn : ¬ s.In g gb := fun q => by have := HOLD.out gb q; have := HGW.out; omega
        have hR : ∃ s1 T1, PutM g gb s (some t) i b1 b2 b3 b4 w w2 s1 T1 := ⟨s', T', m2, (Out.below HB1.out).trans o2 (fun _ _ q => q), wf2, fun y hy q => by
            have hd : (idsL ((gl, (i, b')) :: lvsO T')).Nodup := (List.Perm.nodup_iff (pm.map _)).1 HW.out.ids
            exact (List.nodup_cons.1 hd).1 (List.mem_map.2 ⟨y, hy, q⟩), fun j hj => by rw [bxO_drop HW.out (T' := T') pm, if_neg hj], in2, o2.cell k_0 hgn, o2.cell k_1 hgn, o2.cell k_2 hgn, o2.cell k_3 hgn, HGW.out, HNE.out⟩
        have HR := hid hR
        clear hR hgn m2 o2 wf2 pm in2 HD HM1' HZ HA HM1 HB1 HW k_0 k_1 k_2 k_3 lg
        go_wp2_with fail
        go_meet
        exact HR.out
  case rest =>
    clear HA HZ HM1 HB1 HW HOLD HGW l_0 hNE lg k_0 k_1 k_2 k_3
    obtain ⟨s1, T1, hM⟩ := hcut
    obtain ⟨w1, rfl⟩ : ∃ w1 : World, w1 = wc := ⟨_, rfl⟩
    have HRP := hid (fun e w' => ret_put (e := e) (w' := w') hM)
    have HM1 := hid hM.mem
    have hWF := hM.wf
    have HNO := hid hM.no
    have k_0 := hM.c0
    have k_1 := hM.c1
    have k_2 := hM.c2
    have k_3 := hM.c3
    have lg := HM1.out.lt
    have HNGB := hid hM.ne
    have lgb := lt_of_cell k_0
    clear hM
    have hne := HNGB.out
    obtain ⟨cn, hcn⟩ : ∃ z, z = (((lvsO T1).length : Nat) : Int) := ⟨_, rfl⟩
    have hcnt : s1.cnt = cn := by rw [hcn]; exact hWF.cnt
    have hln : (lvsO T1).length ≤ 256 := by
      have := nodup_le 256 _ hWF.ids (fun x hx => by
        obtain ⟨y, hy, rfl⟩ := List.mem_map.1 hx
        exact hWF.lt y hy)
      rwa [List.length_map] at this
    have hcw : IntKind.i64.wrap (cn + 1) = cn + 1 := IntWalk.i64_in _ (by omega)
    obtain ⟨w2, hw2⟩ : ∃ x, x = w1.alloc (.cells (ndCells b1 b2 b3 b4 (i : Nat) 0 none none none) 63) := ⟨_, rfl⟩
    obtain ⟨gl, hgl⟩ : ∃ x, x = w1.heap.size := ⟨_, rfl⟩
    have m2 := HM1.out.alloc b1 b2 b3 b4 (i : Nat) 0 none none none 63
    rw [← hw2, ← hgl] at m2
    have hb2 : Below w1.heap.size w1 w2 := by rw [hw2]; go_grown
    have o2 : Out (s1.In g) w1 w2 := Out.below hb2
    have e_0 : w2.cell? ⟨g, 1 + i, none⟩ = some (.pointer (s1.lv i)) := m2.lv i hi
    have e_1 : w2.cell? ⟨g, 0, none⟩ = some (.pointer s1.root) := m2.root
    have e_2 : w2.cell? ⟨g, 257, none⟩ = some (.int .i64 cn) := by rw [m2.cnt]; show some (Value.int .i64 s1.cnt) = _; rw [hcnt]
    have ef := m2.free
    obtain ⟨w3, hw3⟩ : ∃ x, x = w2.setCell ⟨g, 1 + i, none⟩ (.pointer (pA gl)) := ⟨_, rfl⟩
    have m3 := m2.setLv hi (pA gl)
    rw [← hw3] at m3
    have o3 : Out (s1.In g) w1 w3 := by rw [hw3]; exact o2.setCell (p := ⟨g, 1 + i, none⟩) (.inr (.inl rfl)) _
    obtain ⟨w4, hw4⟩ : ∃ x, x = w3.setCell ⟨g, 257, none⟩ (.int .i64 (cn + 1)) := ⟨_, rfl⟩
    have m4 := m3.setCnt (cn + 1)
    rw [← hw4] at m4
    have o4 : Out (s1.In g) w1 w4 := by rw [hw4]; exact o3.setCell (p := ⟨g, 257, none⟩) (.inr (.inl rfl)) _
    have f_1 : w3.cell? ⟨g, 0, none⟩ = some (.pointer s1.root) := by rw [hw3]; exact cell_neB e_1 (by omega)
    have f_2 : w3.cell? ⟨g, 257, none⟩ = some (.int .i64 cn) := by rw [hw3]; exact cell_neB e_2 (by omega)
    have ff := m3.free
    have h_1 : w4.cell? ⟨g, 0, none⟩ = some (.pointer s1.root) := by rw [hw4]; exact cell_neB f_1 (by omega)
    have hf := m4.free
    have hsz : w1.heap.size ≤ gl := Nat.le_of_eq hgl.symm
    have lg2 := lt_of_cell e_1
    have lg3 := lt_of_cell f_1
    have lg4 := lt_of_cell h_1
    have B0 : Hid (w4.cell? ⟨gb, 0, none⟩ = some (.int .i64 b1)) := by show _ = _; rw [hw4, hw3]; exact far1 hne (far1 hne (keepCell hb2 k_0))
    have B1 : Hid (w4.cell? ⟨gb, 1, none⟩ = some (.int .i64 b2)) := by show _ = _; rw [hw4, hw3]; exact far1 hne (far1 hne (keepCell hb2 k_1))
    have B2 : Hid (w4.cell? ⟨gb, 2, none⟩ = some (.int .i64 b3)) := by show _ = _; rw [hw4, hw3]; exact far1 hne (far1 hne (keepCell hb2 k_2))
    have B3 : Hid (w4.cell? ⟨gb, 3, none⟩ = some (.int .i64 b4)) := by show _ = _; rw [hw4, hw3]; exact far1 hne (far1 hne (keepCell hb2 k_3))
    cases T1 with
    | none =>
      have hrt : s1.root = none := hWF.root
      rw [hrt] at e_1 f_1 h_1
      obtain ⟨w5, hw5⟩ : ∃ x, x = w4.setCell ⟨g, 0, none⟩ (.pointer (pA gl)) := ⟨_, rfl⟩
      have m5 := m4.setRoot (pA gl)
      rw [← hw5] at m5
      have o5 : Out (s1.In g) w1 w5 := by rw [hw5]; exact o4.setCell (p := ⟨g, 0, none⟩) (.inr (.inl rfl)) _
      have hc0 : cn = 0 := by rw [hcn]; rfl
      have fin : RetPut g s1 none i ((b1, b2), (b3, b4)) w1 (.returned (.int .i64 0)) w5 := by
        refine ⟨_, TB.lf gl i ((b1, b2), (b3, b4)), gl, rfl, m5, o5, ⟨⟨rfl, TS.set_eq _ _ _, by simp [TB.blocks], trivial⟩, by simp [lvsO, TB.lvs], fun x hx => ?_, fun x hx => ?_, fun k hk hn => ?_, by show cn + 1 = _; rw [hc0]; rfl⟩, List.Perm.refl _, fun k hk => ?_⟩
        · rw [List.mem_singleton.1 hx]; exact hi
        · rw [List.mem_singleton.1 hx]
          show (if i = i then pA gl else s1.lv i) = pA gl
          rw [if_pos rfl]
        · show (if k = i then pA gl else s1.lv k) = none
          have h1 : i ≠ k := hn (gl, (i, ((b1, b2), (b3, b4)))) (by simp [lvsO, TB.lvs])
          rw [if_neg (fun q => h1 q.symm)]
          exact hWF.no k hk (fun x hx => by cases hx)
        · rcases hk with hk | hk
          · exact .inl (.inl hk)
          · by_cases q : k = gl
            · exact .inr (by omega)
            · refine .inl (.inr ?_)
              have e : (s1.set gl ⟨((b1, b2), (b3, b4)), (i : Nat), 0, none, none, none⟩).nd k = s1.nd k := TS.set_ne _ _ q
              have hk : (s1.set gl ⟨((b1, b2), (b3, b4)), (i : Nat), 0, none, none, none⟩).nd k ≠ none := hk
              rwa [e] at hk
      have FIN := hid (HRP.out _ _ fin)
      clear m2 m3 m4 m5 o2 o3 o4 o5 hcnt hWF fin hsz hb2 HM1 HNO HRP B0 B1 B2 B3 hrt hcn hln hc0 HNGB hne
      go_upto_region 6 with fail
      rw [← hw2, ← hgl]
      clear hw2 hgl k_0 k_1 k_2 k_3 lg lgb
      go_upto_region 7 with fail
      rw [← hw3]
      clear hw3 e_0 e_1 e_2 ef lg2
      go_upto_region 8 with fail
      rw [← hw4]
      clear hw4 f_1 f_2 ff lg3
      go_wp2
      rw [← hw5]
      go_returns
      exact FIN.out
    | some t =>
      obtain ⟨hr1, hr2, hr3, hr4⟩ := hWF.root
      rw [hr1] at e_1 f_1 h_1
      have hold : ∀ k, s1.nd k ≠ none → k < w1.heap.size := fun k hk => by
        rcases hr : s1.nd k with _ | r
        · exact absurd hr hk
        · exact (HM1.out.nd k r hr).lt
      obtain ⟨s4, hs4⟩ : ∃ s4, s4 = { { s1.set gl ⟨((b1, b2), (b3, b4)), (i : Nat), 0, none, none, none⟩ with lv := fun k => if k = i then pA gl else (s1.set gl ⟨((b1, b2), (b3, b4)), (i : Nat), 0, none, none, none⟩).lv k } with cnt := cn + 1 } := ⟨_, rfl⟩
      have HP : Hid (PtS g s1 s4 t.lvs.length i gl ((b1, b2), (b3, b4)) w1) := by
        rw [hs4]
        exact ⟨TS.set_eq _ _ _, fun k hk => TS.set_ne _ _ hk, fun k => rfl, by show cn + 1 = _; rw [hcn]; rfl, hsz, hold, lg⟩
      rw [← hs4] at m4
      have H0 : Hid (Dn s4 g t [] t w4 w4) := ⟨rfl, hr2.same (fun k hk => HP.out.oth k (by obtain ⟨r, hr⟩ := hr2.mem k hk; have := hold k (by rw [hr]; simp); omega)), ⟨rfl, by rw [hs4]; exact hr1⟩, m4, Below.refl _ _⟩
      have HO4 := hid o4
      have HWF := hid hWF
      have hgl4 : gl < w4.heap.size := (m4.nd _ _ HP.out.leaf).lt
      have HGR := hid grows_calls
      clear m2 m3 m4 o2 o3 o4 hcnt hcn hln hb2 HM1 hs4 hr1 hr2 hr3 hr4 hold hWF HNGB hsz
      go_upto_region 6 with fail
      rw [← hw2, ← hgl]
      clear hw2 hgl k_0 k_1 k_2 k_3 lg lgb
      go_upto_region 7 with fail
      rw [← hw3]
      clear hw3 e_0 e_1 e_2 ef lg2
      go_upto_region 8 with fail
      rw [← hw4]
      clear hw4 f_1 f_2 ff lg3
      go_wp2
      go_loopw [8] (fun nv wr => ∃ (C : List Fr) (x : TB) (gx : Nat), nv = .pointer (some ⟨gx, 0, none⟩) ∧ Hid (gx = x.root) ∧ Hid (Dn s4 g t C x w4 wr)) (fun nv wr => htOf wr nv)
      case atStart => exact ⟨[], t, t.root, rfl, hid rfl, H0⟩
      case round =>
        obtain ⟨C, x, gx, rfl, HGX, HL⟩ := hrel
        obtain ⟨wo, rfl⟩ : ∃ wo : World, wo = wr := ⟨_, rfl⟩
        clear H0 h_1 hf lg4
        cases x with
        | lf gq iq bq =>
          have hgx : gx = gq := HGX.out
          subst hgx
          clear HGX
          have d5 : wo.cell? ⟨gx, 5, none⟩ = some (.int .i64 0) := (HL.out.mem.nd _ _ HL.out.tree).c5
          have ld := lt_of_cell d5
          obtain ⟨wn, hwn⟩ : ∃ x, x = wo.alloc (.cells (ndCells 0 0 0 0 0 0 none none none) 63) := ⟨_, rfl⟩
          obtain ⟨gn, hgn⟩ : ∃ x, x = wo.heap.size := ⟨_, rfl⟩
          have mn := HL.out.mem.alloc 0 0 0 0 0 0 none none none 63
          rw [← hwn, ← hgn] at mn
          have hbn : Below wo.heap.size wo wn := by rw [hwn]; go_grown
          have on : Out (s1.In g) w1 wn := HO4.out.trans (Out.below (D := fun _ => False) (keepBelow hbn HL.out.bel)) (fun _ _ q => q.elim)
          have hglt : gl < gn := by have := HL.out.bel.size; omega
          have HT := hid (put_tail HWF.out hi HNO.out HP.out HL.out.zip rfl HL.out.tree HL.out.cx hglt mn on)
          clear mn hbn on hglt HL HP HO4 HWF HNO B0 B1 B2 B3 HGR
          go_upto_region 18 with fail
          rw [← hwn, ← hgn]
          clear hwn hgn d5 ld
          go_wp2_with fail
          refine HT.out.mono ?_
          rintro e w5 ⟨rfl, hm⟩
          have HA := hid hm
          clear hm HT
          go_wp2_with fail
          refine HA.out.mono ?_
          rintro e w6 ⟨rfl, k6, hm⟩
          have HMD := hid hm
          have l6 := lt_of_cell k6
          clear hm HA
          go_wp2_with fail
          refine HMD.out.mono ?_
          rintro e w7 ⟨rfl, hR⟩
          have HR := hid (HRP.out _ _ hR)
          clear hR HMD HRP k6 l6
          go_wp2
          go_returns
          exact HR.out
        | nd p l r =>
          have hgx : gx = p := HGX.out
          subst hgx
          clear HGX
          obtain ⟨p, hp⟩ : ∃ p, p = gx := ⟨_, rfl⟩
          rw [← hp] at HL ⊢
          clear hp
          have hmo := HL.out.mem
          have htr := HL.out.tree
          have hnp := hmo.nd _ _ htr.1
          obtain ⟨rl, hrl, -, -, hlh⟩ := htr.2.1.top
          obtain ⟨rr, hrr, -, -, hrh⟩ := htr.2.2.top
          have hnl := hmo.nd _ _ hrl
          have hnr := hmo.nd _ _ hrr
          obtain ⟨⟨⟨p1, p2⟩, p3, p4⟩, lid, lht, lup, lk0, lk1⟩ := rl
          obtain ⟨⟨⟨q1, q2⟩, q3, q4⟩, rid, rht, rup, rk0, rk1⟩ := rr
          obtain ⟨l0, l1, l2, l3, -⟩ := hnl.cells
          obtain ⟨r0, r1, r2, r3, -⟩ := hnr.cells
          obtain ⟨lb, hlb⟩ : ∃ z, z = l.root := ⟨_, rfl⟩
          obtain ⟨rb, hrb⟩ : ∃ z, z = r.root := ⟨_, rfl⟩
          have D7 := hid hnp.c7
          have D8 := hid hnp.c8
          rw [← hlb] at l0 l1 l2 l3 D7
          rw [← hrb] at r0 r1 r2 r3 D8
          have L0 := hid l0
          have L1 := hid l1
          have L2 := hid l2
          have L3 := hid l3
          have R0 := hid r0
          have R1 := hid r1
          have R2 := hid r2
          have R3 := hid r3
          have B0' := hid (keepCell HL.out.bel B0.out)
          have B1' := hid (keepCell HL.out.bel B1.out)
          have B2' := hid (keepCell HL.out.bel B2.out)
          have B3' := hid (keepCell HL.out.bel B3.out)
          have HLB := hid hlb
          have HRB := hid hrb
          obtain ⟨zh, hzh⟩ : ∃ z, z = htB (TB.nd p l r) := ⟨_, rfl⟩
          have hz0 : zh > 0 := by rw [hzh, ht_nd]; have e1 : htB l = ((l.tr.ht : Nat) : Int) := rfl; have e2 : htB r = ((r.tr.ht : Nat) : Int) := rfl; omega
          have HME := hid (htOf_eq hnp rfl)
          have HBL := hid (Below.refl wo.heap.size wo)
          have d5 : wo.cell? ⟨p, 5, none⟩ = some (.int .i64 zh) := by rw [hzh]; exact hnp.c5
          have ld := lt_of_cell d5
          clear hmo htr hnp hrl hrr hlh hrh hnl hnr l0 l1 l2 l3 r0 r1 r2 r3 hlb hrb hzh HP HO4 HWF HNO HRP
          go_upto_region 14 with fail
          refine wp_region_noPanic ?_
          refine wp_region_U (S := (S2 (fun w' => w'.cell? ⟨p, 7, none⟩ = some (.pointer (some ⟨lb, 0, none⟩)) ∧ w'.cell? ⟨p, 8, none⟩ = some (.pointer (some ⟨rb, 0, none⟩)) ∧ w'.cell? ⟨lb, 0, none⟩ = some (.int .i64 p1) ∧ w'.cell? ⟨lb, 1, none⟩ = some (.int .i64 p2) ∧ w'.cell? ⟨lb, 2, none⟩ = some (.int .i64 p3) ∧ w'.cell? ⟨lb, 3, none⟩ = some (.int .i64 p4) ∧ w'.cell? ⟨rb, 0, none⟩ = some (.int .i64 q1) ∧ w'.cell? ⟨rb, 1, none⟩ = some (.int .i64 q2) ∧ w'.cell? ⟨rb, 2, none⟩ = some (.int .i64 q3) ∧ w'.cell? ⟨rb, 3, none⟩ = some (.int .i64 q4) ∧ w'.cell? ⟨gb, 0, none⟩ = some (.int .i64 b1) ∧ w'.cell? ⟨gb, 1, none⟩ = some (.int .i64 b2) ∧ w'.cell? ⟨gb, 2, none⟩ = some (.int .i64 b3) ∧ w'.cell? ⟨gb, 3, none⟩ = some (.int .i64 b4) ∧ Below wo.heap.size wo w'))) (T := (fun _ => 0)) (by kernel_rfl) (S2i0 ⟨D7.out, D8.out, L0.out, L1.out, L2.out, L3.out, R0.out, R1.out, R2.out, R3.out, B0'.out, B1'.out, B2'.out, B3'.out, HBL.out.drew⟩) (fun hH => ?_)
          have hWr1 : Weaker (S2 (fun w' => w'.cell? ⟨p, 7, none⟩ = some (.pointer (some ⟨lb, 0, none⟩)) ∧ w'.cell? ⟨p, 8, none⟩ = some (.pointer (some ⟨rb, 0, none⟩)) ∧ w'.cell? ⟨lb, 0, none⟩ = some (.int .i64 p1) ∧ w'.cell? ⟨lb, 1, none⟩ = some (.int .i64 p2) ∧ w'.cell? ⟨lb, 2, none⟩ = some (.int .i64 p3) ∧ w'.cell? ⟨lb, 3, none⟩ = some (.int .i64 p4) ∧ w'.cell? ⟨rb, 0, none⟩ = some (.int .i64 q1) ∧ w'.cell? ⟨rb, 1, none⟩ = some (.int .i64 q2) ∧ w'.cell? ⟨rb, 2, none⟩ = some (.int .i64 q3) ∧ w'.cell? ⟨rb, 3, none⟩ = some (.int .i64 q4) ∧ w'.cell? ⟨gb, 0, none⟩ = some (.int .i64 b1) ∧ w'.cell? ⟨gb, 1, none⟩ = some (.int .i64 b2) ∧ w'.cell? ⟨gb, 2, none⟩ = some (.int .i64 b3) ∧ w'.cell? ⟨gb, 3, none⟩ = some (.int .i64 b4) ∧ Below wo.heap.size wo w')) := weaker2 _
          refine Ut 0 67 20 0 0 (v := ?vr1_1) rfl hWr1 hH ?yr1_1 ?_
          case yr1_1 => (intro w' hSw; clear hSw; go_simp; try (with_reducible rfl))
          simp only [sB, sC]
          refine Ut 1 68 19 0 0 (v := ?vr1_2) rfl hWr1 hH ?yr1_2 ?_
          case yr1_2 => (intro w' hSw; clear hSw; go_simp; try (with_reducible rfl))
          simp only [sB, sC]
          refine Ut 2 69 18 0 0 (v := ?vr1_3) rfl hWr1 hH ?yr1_3 ?_
          case yr1_3 => (intro w' hSw; clear hSw; go_simp; try (with_reducible rfl))
          simp only [sB, sC]
          refine Ut 3 70 17 0 0 (v := ?vr1_4) rfl hWr1 hH ?yr1_4 ?_
          case yr1_4 => (intro w' hSw; clear hSw; go_simp; try (with_reducible rfl))
          simp only [sB, sC]
          refine Ut 4 71 16 0 0 (v := ?vr1_5) rfl hWr1 hH ?yr1_5 ?_
          case yr1_5 => (intro w' hSw; replace hSw := S2o0 hSw; (try dsimp only at hSw); have q0 := hSw.1; have q1 := hSw.2.1; have q2 := hSw.2.2.1; have q3 := hSw.2.2.2.1; have q4 := hSw.2.2.2.2.1; have q5 := hSw.2.2.2.2.2.1; have q6 := hSw.2.2.2.2.2.2.1; have q7 := hSw.2.2.2.2.2.2.2.1; have q8 := hSw.2.2.2.2.2.2.2.2.1; have q9 := hSw.2.2.2.2.2.2.2.2.2.1; have q10 := hSw.2.2.2.2.2.2.2.2.2.2.1; have q11 := hSw.2.2.2.2.2.2.2.2.2.2.2.1; have q12 := hSw.2.2.2.2.2.2.2.2.2.2.2.2.1; have q13 := hSw.2.2.2.2.2.2.2.2.2.2.2.2.2.1; have q14 := hSw.2.2.2.2.2.2.2.2.2.2.2.2.2.2; go_simp; try (with_reducible rfl))
          simp only [sB, sC]
          refine Ut 5 72 15 0 0 (v := ?vr1_6) rfl hWr1 hH ?yr1_6 ?_
          case yr1_6 => (intro w' hSw; clear hSw; go_simp; try (with_reducible rfl))
          simp only [sB, sC]
          refine Ut 6 73 14 0 0 (v := ?vr1_7) rfl hWr1 hH ?yr1_7 ?_
          case yr1_7 => (intro w' hSw; clear hSw; go_simp; try (with_reducible rfl))
          simp only [sB, sC]
          refine Ut 7 74 13 0 0 (v := ?vr1_8) rfl hWr1 hH ?yr1_8 ?_
          case yr1_8 => (intro w' hSw; replace hSw := S2o0 hSw; (try dsimp only at hSw); have q0 := hSw.1; have q1 := hSw.2.1; have q2 := hSw.2.2.1; have q3 := hSw.2.2.2.1; have q4 := hSw.2.2.2.2.1; have q5 := hSw.2.2.2.2.2.1; have q6 := hSw.2.2.2.2.2.2.1; have q7 := hSw.2.2.2.2.2.2.2.1; have q8 := hSw.2.2.2.2.2.2.2.2.1; have q9 := hSw.2.2.2.2.2.2.2.2.2.1; have q10 := hSw.2.2.2.2.2.2.2.2.2.2.1; have q11 := hSw.2.2.2.2.2.2.2.2.2.2.2.1; have q12 := hSw.2.2.2.2.2.2.2.2.2.2.2.2.1; have q13 := hSw.2.2.2.2.2.2.2.2.2.2.2.2.2.1; have q14 := hSw.2.2.2.2.2.2.2.2.2.2.2.2.2.2; go_simp; try (with_reducible rfl))
          simp only [sB, sC]
          refine Ut 8 75 12 0 0 (v := ?vr1_9) rfl hWr1 hH ?yr1_9 ?_
          case yr1_9 => (intro w' hSw; replace hSw := S2o0 hSw; (try dsimp only at hSw); have q0 := hSw.1; have q1 := hSw.2.1; have q2 := hSw.2.2.1; have q3 := hSw.2.2.2.1; have q4 := hSw.2.2.2.2.1; have q5 := hSw.2.2.2.2.2.1; have q6 := hSw.2.2.2.2.2.2.1; have q7 := hSw.2.2.2.2.2.2.2.1; have q8 := hSw.2.2.2.2.2.2.2.2.1; have q9 := hSw.2.2.2.2.2.2.2.2.2.1; have q10 := hSw.2.2.2.2.2.2.2.2.2.2.1; have q11 := hSw.2.2.2.2.2.2.2.2.2.2.2.1; have q12 := hSw.2.2.2.2.2.2.2.2.2.2.2.2.1; have q13 := hSw.2.2.2.2.2.2.2.2.2.2.2.2.2.1; have q14 := hSw.2.2.2.2.2.2.2.2.2.2.2.2.2.2; go_simp; try (with_reducible rfl))
          simp only [sB, sC]
          refine Ut 10 77 11 0 0 (v := ?vr1_10) rfl hWr1 hH ?yr1_10 ?_
          case yr1_10 => (intro w' hSw; clear hSw; go_simp; try (with_reducible rfl))
          simp only [sB, sC]
          refine Ut 11 78 10 0 0 (v := ?vr1_11) rfl hWr1 hH ?yr1_11 ?_
          case yr1_11 => (intro w' hSw; clear hSw; go_simp; try (with_reducible rfl))
          simp only [sB, sC]
          refine Ut 12 79 9 0 0 (v := ?vr1_12) rfl hWr1 hH ?yr1_12 ?_
          case yr1_12 => (intro w' hSw; clear hSw; go_simp; try (with_reducible rfl))
          simp only [sB, sC]
          refine Ut 13 80 8 0 0 (v := ?vr1_13) rfl hWr1 hH ?yr1_13 ?_
          case yr1_13 => (intro w' hSw; clear hSw; go_simp; try (with_reducible rfl))
          simp only [sB, sC]
          refine Ut 14 81 7 0 0 (v := ?vr1_14) rfl hWr1 hH ?yr1_14 ?_
          case yr1_14 => (intro w' hSw; replace hSw := S2o0 hSw; (try dsimp only at hSw); have q0 := hSw.1; have q1 := hSw.2.1; have q2 := hSw.2.2.1; have q3 := hSw.2.2.2.1; have q4 := hSw.2.2.2.2.1; have q5 := hSw.2.2.2.2.2.1; have q6 := hSw.2.2.2.2.2.2.1; have q7 := hSw.2.2.2.2.2.2.2.1; have q8 := hSw.2.2.2.2.2.2.2.2.1; have q9 := hSw.2.2.2.2.2.2.2.2.2.1; have q10 := hSw.2.2.2.2.2.2.2.2.2.2.1; have q11 := hSw.2.2.2.2.2.2.2.2.2.2.2.1; have q12 := hSw.2.2.2.2.2.2.2.2.2.2.2.2.1; have q13 := hSw.2.2.2.2.2.2.2.2.2.2.2.2.2.1; have q14 := hSw.2.2.2.2.2.2.2.2.2.2.2.2.2.2; go_simp; try (with_reducible rfl))
          simp only [sB, sC]
          refine Ut 15 82 6 0 0 (v := ?vr1_15) rfl hWr1 hH ?yr1_15 ?_
          case yr1_15 => (intro w' hSw; clear hSw; go_simp; try (with_reducible rfl))
          simp only [sB, sC]
          refine Ut 16 83 5 0 0 (v := ?vr1_16) rfl hWr1 hH ?yr1_16 ?_
          case yr1_16 => (intro w' hSw; clear hSw; go_simp; try (with_reducible rfl))
          simp only [sB, sC]
          refine Ut 17 84 4 0 0 (v := ?vr1_17) rfl hWr1 hH ?yr1_17 ?_
          case yr1_17 => (intro w' hSw; replace hSw := S2o0 hSw; (try dsimp only at hSw); have q0 := hSw.1; have q1 := hSw.2.1; have q2 := hSw.2.2.1; have q3 := hSw.2.2.2.1; have q4 := hSw.2.2.2.2.1; have q5 := hSw.2.2.2.2.2.1; have q6 := hSw.2.2.2.2.2.2.1; have q7 := hSw.2.2.2.2.2.2.2.1; have q8 := hSw.2.2.2.2.2.2.2.2.1; have q9 := hSw.2.2.2.2.2.2.2.2.2.1; have q10 := hSw.2.2.2.2.2.2.2.2.2.2.1; have q11 := hSw.2.2.2.2.2.2.2.2.2.2.2.1; have q12 := hSw.2.2.2.2.2.2.2.2.2.2.2.2.1; have q13 := hSw.2.2.2.2.2.2.2.2.2.2.2.2.2.1; have q14 := hSw.2.2.2.2.2.2.2.2.2.2.2.2.2.2; go_simp; try (with_reducible rfl))
          simp only [sB, sC]
          refine Ut 18 85 3 0 0 (v := ?vr1_18) rfl hWr1 hH ?yr1_18 ?_
          case yr1_18 => (intro w' hSw; replace hSw := S2o0 hSw; (try dsimp only at hSw); have q0 := hSw.1; have q1 := hSw.2.1; have q2 := hSw.2.2.1; have q3 := hSw.2.2.2.1; have q4 := hSw.2.2.2.2.1; have q5 := hSw.2.2.2.2.2.1; have q6 := hSw.2.2.2.2.2.2.1; have q7 := hSw.2.2.2.2.2.2.2.1; have q8 := hSw.2.2.2.2.2.2.2.2.1; have q9 := hSw.2.2.2.2.2.2.2.2.2.1; have q10 := hSw.2.2.2.2.2.2.2.2.2.2.1; have q11 := hSw.2.2.2.2.2.2.2.2.2.2.2.1; have q12 := hSw.2.2.2.2.2.2.2.2.2.2.2.2.1; have q13 := hSw.2.2.2.2.2.2.2.2.2.2.2.2.2.1; have q14 := hSw.2.2.2.2.2.2.2.2.2.2.2.2.2.2; go_simp; try (with_reducible rfl))
          simp only [sB, sC]
          refine U1 9 0 rfl (fun K hK => ?_)
          try clear hb
          go_simp
          (go_at_call 26; refine (HGR.out _ _ _ _ _ _ _ _ _).mono ?_; rintro e wn ⟨⟨z9, rfl⟩, hb⟩)
          refine hK.out _ _ (S2i0 (by have hG := hH; replace hG := S2o0 hG; (try dsimp only at hG); have q0 := hG.1; have q1 := hG.2.1; have q2 := hG.2.2.1; have q3 := hG.2.2.2.1; have q4 := hG.2.2.2.2.1; have q5 := hG.2.2.2.2.2.1; have q6 := hG.2.2.2.2.2.2.1; have q7 := hG.2.2.2.2.2.2.2.1; have q8 := hG.2.2.2.2.2.2.2.2.1; have q9 := hG.2.2.2.2.2.2.2.2.2.1; have q10 := hG.2.2.2.2.2.2.2.2.2.2.1; have q11 := hG.2.2.2.2.2.2.2.2.2.2.2.1; have q12 := hG.2.2.2.2.2.2.2.2.2.2.2.2.1; have q13 := hG.2.2.2.2.2.2.2.2.2.2.2.2.2.1; have q14 := hG.2.2.2.2.2.2.2.2.2.2.2.2.2.2; exact ⟨keepCell hb q0, keepCell hb q1, keepCell hb q2, keepCell hb q3, keepCell hb q4, keepCell hb q5, keepCell hb q6, keepCell hb q7, keepCell hb q8, keepCell hb q9, keepCell hb q10, keepCell hb q11, keepCell hb q12, keepCell hb q13, keepBelow hb q14⟩)) (fun hH2 => ?_)
          clear hK K hH
          rename _ => hH
          try simp only [Act.put, sA, sB, sC]
          refine U1 19 0 rfl (fun K hK => ?_)
          try clear hb
          go_simp
          (go_at_call 26; refine (HGR.out _ _ _ _ _ _ _ _ _).mono ?_; rintro e wn ⟨⟨z19, rfl⟩, hb⟩)
          refine hK.out _ _ (S2i0 (by have hG := hH; replace hG := S2o0 hG; (try dsimp only at hG); have q0 := hG.1; have q1 := hG.2.1; have q2 := hG.2.2.1; have q3 := hG.2.2.2.1; have q4 := hG.2.2.2.2.1; have q5 := hG.2.2.2.2.2.1; have q6 := hG.2.2.2.2.2.2.1; have q7 := hG.2.2.2.2.2.2.2.1; have q8 := hG.2.2.2.2.2.2.2.2.1; have q9 := hG.2.2.2.2.2.2.2.2.2.1; have q10 := hG.2.2.2.2.2.2.2.2.2.2.1; have q11 := hG.2.2.2.2.2.2.2.2.2.2.2.1; have q12 := hG.2.2.2.2.2.2.2.2.2.2.2.2.1; have q13 := hG.2.2.2.2.2.2.2.2.2.2.2.2.2.1; have q14 := hG.2.2.2.2.2.2.2.2.2.2.2.2.2.2; exact ⟨keepCell hb q0, keepCell hb q1, keepCell hb q2, keepCell hb q3, keepCell hb q4, keepCell hb q5, keepCell hb q6, keepCell hb q7, keepCell hb q8, keepCell hb q9, keepCell hb q10, keepCell hb q11, keepCell hb q12, keepCell hb q13, keepBelow hb q14⟩)) (fun hH2 => ?_)
          clear hK K hH
          rename _ => hH
          try simp only [Act.put, sA, sB, sC]
          refine Ut 20 87 0 0 0 (v := ?vr1_21) rfl hWr1 hH ?yr1_21 ?_
          case yr1_21 => (intro w' hSw; clear hSw; go_simp; try (with_reducible rfl))
          simp only [sB, sC]
          refine wpAnyU_done (by kernel_rfl) ?_ _ _
          refine NoPanic.normal ?_
          clear hWr1
          replace hH := S2o0 hH
          (try dsimp only at hH)
          have t0 := hH.1
          have t1 := hH.2.1
          have t2 := hH.2.2.1
          have t3 := hH.2.2.2.1
          have t4 := hH.2.2.2.2.1
          have t5 := hH.2.2.2.2.2.1
          have t6 := hH.2.2.2.2.2.2.1
          have t7 := hH.2.2.2.2.2.2.2.1
          have t8 := hH.2.2.2.2.2.2.2.2.1
          have t9 := hH.2.2.2.2.2.2.2.2.2.1
          have t10 := hH.2.2.2.2.2.2.2.2.2.2.1
          have t11 := hH.2.2.2.2.2.2.2.2.2.2.2.1
          have t12 := hH.2.2.2.2.2.2.2.2.2.2.2.2.1
          have t13 := hH.2.2.2.2.2.2.2.2.2.2.2.2.2.1
          have t14 := hH.2.2.2.2.2.2.2.2.2.2.2.2.2.2
          have HBW : Hid (Below wo.heap.size wo wn) := t14
          have HM7 := hid t0
          have HM8 := hid t1
          clear t0 t1 t2 t3 t4 t5 t6 t7 t8 t9 t10 t11 t12 t13 t14 d5 ld D7 D8 L0 L1 L2 L3 R0 R1 R2 R3 B0' B1' B2' B3' HBL HGR hz0 hH
          by_cases hlt : z9 < z19
          · have hD := hid (HL.out.right HBW.out)
            have HMR : Hid (htOf wn (.pointer (some ⟨rb, 0, none⟩)) = r.tr.ht) := by
              obtain ⟨rx, hrx, -, -, hrh⟩ := hD.out.tree.top
              show _ = _
              rw [HRB.out]
              exact htOf_eq (hD.out.mem.nd _ _ hrx) hrh
            have hk := HM8.out
            have hkl := lt_of_cell hk
            clear HL HBW HM7 HM8
            go_wp2
            go_roundw
            case rel => exact ⟨frR p l r :: C, r, rb, rfl, HRB, hD⟩
            case measure =>
              rw [HMR.out, HME.out, TB.tr_ht]
              omega
          · have hD := hid (HL.out.left HBW.out)
            have HMR : Hid (htOf wn (.pointer (some ⟨lb, 0, none⟩)) = l.tr.ht) := by
              obtain ⟨rx, hrx, -, -, hrh⟩ := hD.out.tree.top
              show _ = _
              rw [HLB.out]
              exact htOf_eq (hD.out.mem.nd _ _ hrx) hrh
            have hk := HM7.out
            have hkl := lt_of_cell hk
            clear HL HBW HM7 HM8
            go_wp2
            go_roundw
            case rel => exact ⟨frL p l r :: C, l, lb, rfl, HLB, hD⟩
            case measure =>
              rw [HMR.out, HME.out, TB.tr_ht]
              omega
end
end Go.Proofs.Ytiaoandbdgdecaa
