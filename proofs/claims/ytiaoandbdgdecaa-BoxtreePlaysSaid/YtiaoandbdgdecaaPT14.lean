/- Parts of a proof: contracts and laws. -/
import Derived.Test.YtiaoandbdgdecaaPT13
namespace Go.Proofs.Ytiaoandbdgdecaa
section
set_option linter.unusedVariables false
set_option linter.unusedSimpArgs false
open Go.RowKit
abbrev pA (b : Nat) : Option Addr := some ⟨b, 0, none⟩
theorem Mem.neq {w : World} {g : Nat} {s : TS} (h : Mem w g s) {b : Nat} {r : NR} (hb : s.nd b = some r) : b ≠ g := fun e => by have := h.ne; rw [e, this] at hb; cases hb
theorem TS.in_nd {s : TS} {g b : Nat} {r : NR} (hb : s.nd b = some r) : s.In g b := .inr (by rw [hb]; simp)
theorem TS.set_in {s : TS} {g b k : Nat} {r r0 : NR} (hb : s.nd b = some r0) (h : (s.set b r).In g k) : s.In g k := by
  rcases h with h | h
  · exact .inl h
  · by_cases e : k = b
    · subst e; exact TS.in_nd hb
    · rw [TS.set_ne _ _ e] at h; exact .inr h

theorem Mem.put {w w' : World} {g : Nat} {s : TS} (h : Mem w g s) {b : Nat} {r0 r : NR} (hb : s.nd b = some r0) (hn : NdC w' b r) (k : Out (fun i => i = b) w w') : Mem w' g (s.set b r) ∧ Out (s.In g) w w' :=
  ⟨h.set hn (h.neq hb) k, k.mono (fun i _ e => by rw [e]; exact TS.in_nd hb)⟩
theorem fit_calls {w : World} {g : Nat} {s : TS} (h : Mem w g s) {n a c : Nat} {bx : Bx} {id ht : Int} {up : Option Addr} {ra rc : NR} (hn : s.nd n = some ⟨bx, id, ht, up, pA a, pA c⟩) (ha : s.nd a = some ra) (hc : s.nd c = some rc)
    (h1 : 0 ≤ ra.ht ∧ ra.ht ≤ 1000000) (h2 : 0 ≤ rc.ht ∧ rc.ht ≤ 1000000) : Calls Try.prog 47 #[.pointer (pA n)] w (RetM g s (s.set n ⟨joinB ra.bx rc.bx, id, 1 + max ra.ht rc.ht, up, pA a, pA c⟩) (.tuple #[]) w) := by
  obtain ⟨⟨x1, x2⟩, x3, x4⟩ := bx
  obtain ⟨⟨⟨p1, p2⟩, p3, p4⟩, ida, hta, upa, k0a, k1a⟩ := ra
  obtain ⟨⟨⟨q1, q2⟩, q3, q4⟩, idc, htc, upc, k0c, k1c⟩ := rc
  rcases hj : joinB ((p1, p2), (p3, p4)) ((q1, q2), (q3, q4)) with ⟨⟨j1, j2⟩, j3, j4⟩
  refine (fit0_calls n a c x1 x2 x3 x4 id ht p1 p2 p3 p4 ida hta q1 q2 q3 q4 idc htc j1 j2 j3 j4 up upa k0a k1a upc k0c k1c hj h1 h2 w (h.nd _ _ hn) (h.nd _ _ ha) (h.nd _ _ hc)).mono ?_
  rintro e w' ⟨rfl, hN, hO⟩
  obtain ⟨a1, a2⟩ := h.put hn hN hO
  exact ⟨rfl, a1, a2⟩

def TS.adopt (s : TS) (n a b : Nat) (rn ra rb : NR) : TS := ((((s.set n { rn with k0 := pA a, k1 := pA b }).set a { ra with up := pA n }).set b { rb with up := pA n }).set n ⟨joinB ra.bx rb.bx, rn.id, 1 + max ra.ht rb.ht, rn.up, pA a, pA b⟩)
set_option maxRecDepth 100000 in
set_option maxHeartbeats 4000000 in
theorem adopt_calls {w : World} {g : Nat} {s : TS} (h : Mem w g s) {n a b : Nat} {rn ra rb : NR} (hn : s.nd n = some rn) (ha : s.nd a = some ra) (hb : s.nd b = some rb) (na : a ≠ n) (nb : b ≠ n) (nab : b ≠ a)
    (h1 : 0 ≤ ra.ht ∧ ra.ht ≤ 1000000) (h2 : 0 ≤ rb.ht ∧ rb.ht ≤ 1000000) : Calls Try.prog 28 #[.pointer (pA n), .pointer (pA a), .pointer (pA b)] w (RetM g s (s.adopt n a b rn ra rb) (.tuple #[]) w) := by
  obtain ⟨bn, idn, htn, upn, k0n, k1n⟩ := rn
  obtain ⟨ba, ida, hta, upa, k0a, k1a⟩ := ra
  obtain ⟨bb, idb, htb, upb, k0b, k1b⟩ := rb
  have c1 := h.nd _ _ hn
  obtain ⟨w1, hw1⟩ : ∃ w1, w1 = (w.setCell ⟨n, 7, none⟩ (.pointer (pA a))).setCell ⟨n, 8, none⟩ (.pointer (pA b)) := ⟨_, rfl⟩
  obtain ⟨m1, o1⟩ := h.put hn (w' := w1) (by rw [hw1]; exact (c1.setK0 (pA a)).setK1 (pA b)) (by rw [hw1]; exact ((Out.refl (fun i => i = n) w).setCell (p := ⟨n, 7, none⟩) (.inr rfl) _).setCell (p := ⟨n, 8, none⟩) (.inr rfl) _)
  have ha1 := (TS.set_ne s ⟨bn, idn, htn, upn, pA a, pA b⟩ na).trans ha
  have c2 := m1.nd _ _ ha1
  obtain ⟨w2, hw2⟩ : ∃ w2, w2 = w1.setCell ⟨a, 6, none⟩ (.pointer (pA n)) := ⟨_, rfl⟩
  obtain ⟨m2, o2⟩ := m1.put ha1 (w' := w2) (by rw [hw2]; exact c2.setUp (pA n)) (by rw [hw2]; exact (Out.refl (fun i => i = a) w1).setCell (p := ⟨a, 6, none⟩) (.inr rfl) _)
  have hb2 := (TS.set_ne (s.set n ⟨bn, idn, htn, upn, pA a, pA b⟩) ⟨ba, ida, hta, pA n, k0a, k1a⟩ nab).trans ((TS.set_ne s ⟨bn, idn, htn, upn, pA a, pA b⟩ nb).trans hb)
  have c3 := m2.nd _ _ hb2
  have c4 := m1.nd _ _ ((TS.set_ne s ⟨bn, idn, htn, upn, pA a, pA b⟩ nb).trans hb)
  have nab' : ¬ a = b := fun e => nab e.symm
  obtain ⟨w3, hw3⟩ : ∃ w3, w3 = w2.setCell ⟨b, 6, none⟩ (.pointer (pA n)) := ⟨_, rfl⟩
  obtain ⟨m3, o3⟩ := m2.put hb2 (w' := w3) (by rw [hw3]; exact c3.setUp (pA n)) (by rw [hw3]; exact (Out.refl (fun i => i = b) w2).setCell (p := ⟨b, 6, none⟩) (.inr rfl) _)
  have HF := hid (fit_calls m3 (n := n) (a := a) (c := b) (ra := ⟨ba, ida, hta, pA n, k0a, k1a⟩) (rc := ⟨bb, idb, htb, pA n, k0b, k1b⟩) (by rw [TS.set_ne _ _ (fun e => nb e.symm), TS.set_ne _ _ (fun e => na e.symm), TS.set_eq]) (by rw [TS.set_ne _ _ (fun e => nab e.symm), TS.set_eq]) (TS.set_eq _ _ _) h1 h2)
  have hO : Out (s.In g) w w3 := (o1.trans o2 (fun i _ q => TS.set_in hn q)).trans o3 (fun i _ q => TS.set_in hn (TS.set_in ha1 q))
  have HO := hid hO
  have HS : Hid (∀ i, ((((s.set n ⟨bn, idn, htn, upn, pA a, pA b⟩).set a ⟨ba, ida, hta, pA n, k0a, k1a⟩).set b ⟨bb, idb, htb, pA n, k0b, k1b⟩)).In g i → s.In g i) := fun i q => TS.set_in hn (TS.set_in ha1 (TS.set_in hb2 q))
  obtain ⟨-, -, -, -, -, -, -, z7, z8, zf, -⟩ := c1
  obtain ⟨-, -, -, -, -, -, y6, -, -, yf, -⟩ := c2
  obtain ⟨-, -, -, -, -, -, x6, -, -, xf, -⟩ := c4
  have l1 := lt_of_cell z7
  have l2 := lt_of_cell y6
  have l3 := lt_of_cell x6
  clear h hn ha hb h1 h2 m1 o1 ha1 m2 o2 hb2 m3 o3 hO c3
  go_enter Try.func28, Try.ntmps28
  go_upto_region 1 with fail
  rw [← hw1]
  clear hw1
  go_upto_region 2 with fail
  rw [← hw2, ← hw3]
  clear hw2 hw3 z7 z8 zf y6 yf x6 xf l1 l2 l3
  go_wp2_with fail
  refine HF.out.mono ?_
  rintro e w4 ⟨rfl, m4, o4⟩
  go_wp2
  go_returns
  exact ⟨rfl, m4, HO.out.trans o4 (fun i _ q => HS.out i q)⟩
theorem Mem.setRoot {w : World} {g : Nat} {s : TS} (h : Mem w g s) (r : Option Addr) : Mem (w.setCell ⟨g, 0, none⟩ (.pointer r)) g { s with root := r } :=
  ⟨cell_eqB h.root, fun i hi => cell_neB (h.lv i hi) (by omega), cell_neB h.cnt (by omega), frz_set h.free _ _, fun b x hx => (h.nd b x hx).same (Below.heap_setCell w _ _ _ (h.neq hx)), h.ne⟩
set_option maxRecDepth 100000 in
set_option maxHeartbeats 4000000 in
theorem place_root {w : World} {g : Nat} {s : TS} (h : Mem w g s) {old n : Nat} {bo : Bx} {ido hto : Int} {k0o k1o : Option Addr} {rn : NR} (ho : s.nd old = some ⟨bo, ido, hto, none, k0o, k1o⟩) (hn : s.nd n = some rn) (no : old ≠ n) : Calls Try.prog 27 #[.pointer (pA g), .pointer (pA old), .pointer (pA n)] w (RetM g s ({ s.set n { rn with up := none } with root := pA n }) (.tuple #[]) w) := by
  obtain ⟨bn, idn, htn, upn, k0n, k1n⟩ := rn
  have c0 := h.nd _ _ ho
  have c1 := h.nd _ _ hn
  obtain ⟨w1, hw1⟩ : ∃ w1, w1 = w.setCell ⟨n, 6, none⟩ (.pointer none) := ⟨_, rfl⟩
  obtain ⟨m1, o1⟩ := h.put hn (w' := w1) (by rw [hw1]; exact c1.setUp none) (by rw [hw1]; exact (Out.refl (fun i => i = n) w).setCell (p := ⟨n, 6, none⟩) (.inr rfl) _)
  have ho1 := (TS.set_ne s ⟨bn, idn, htn, none, k0n, k1n⟩ no).trans ho
  have d0 := m1.nd _ _ ho1
  obtain ⟨w2, hw2⟩ : ∃ w2, w2 = w1.setCell ⟨g, 0, none⟩ (.pointer (pA n)) := ⟨_, rfl⟩
  have m2 : Mem w2 g { s.set n ⟨bn, idn, htn, none, k0n, k1n⟩ with root := pA n } := by
    rw [hw2]
    exact m1.setRoot (pA n)
  have o2 : Out (s.In g) w w2 := by rw [hw2]; exact o1.setCell (p := ⟨g, 0, none⟩) (.inr (.inl rfl)) _
  have r0 := m1.root
  have rf := m1.free
  have lg := m1.lt
  obtain ⟨-, -, -, -, -, -, z6, -, -, zf, -⟩ := c0
  obtain ⟨-, -, -, -, -, -, y6, -, -, yf, -⟩ := c1
  obtain ⟨-, -, -, -, -, -, x6, -, -, xf, -⟩ := d0
  have l0 := lt_of_cell z6
  have l1 := lt_of_cell y6
  have l2 := lt_of_cell x6
  have no' : ¬ n = old := fun e => no e.symm
  have M2 := hid m2
  have O2 := hid o2
  clear h ho hn m1 o1 ho1 m2 o2
  go_enter Try.func27, Try.ntmps27
  go_upto_region 2 with fail
  rw [← hw1]
  clear hw1 z6 zf y6 yf l0 l1
  go_wp2
  rw [← hw2]
  go_returns
  exact ⟨rfl, M2.out, O2.out⟩
set_option maxRecDepth 100000 in
set_option maxHeartbeats 4000000 in
theorem place_kid0 {w : World} {g : Nat} {s : TS} (h : Mem w g s) {old n u x : Nat} {bo : Bx} {ido hto : Int} {k0o k1o : Option Addr} {rn : NR} (ho : s.nd old = some ⟨bo, ido, hto, (pA u), k0o, k1o⟩) (hn : s.nd n = some rn) (no : old ≠ n) {bu : Bx} {idu htu : Int} {upu k1u : Option Addr} (hu : s.nd u = some ⟨bu, idu, htu, upu, pA old, k1u⟩) (nu : u ≠ n) : Calls Try.prog 27 #[.pointer (pA g), .pointer (pA old), .pointer (pA n)] w (RetM g s ((s.set n { rn with up := pA u }).set u ⟨bu, idu, htu, upu, pA n, k1u⟩) (.tuple #[]) w) := by
  obtain ⟨bn, idn, htn, upn, k0n, k1n⟩ := rn
  have c0 := h.nd _ _ ho
  have c1 := h.nd _ _ hn
  obtain ⟨w1, hw1⟩ : ∃ w1, w1 = w.setCell ⟨n, 6, none⟩ (.pointer (pA u)) := ⟨_, rfl⟩
  obtain ⟨m1, o1⟩ := h.put hn (w' := w1) (by rw [hw1]; exact c1.setUp (pA u)) (by rw [hw1]; exact (Out.refl (fun i => i = n) w).setCell (p := ⟨n, 6, none⟩) (.inr rfl) _)
  have ho1 := (TS.set_ne s ⟨bn, idn, htn, (pA u), k0n, k1n⟩ no).trans ho
  have d0 := m1.nd _ _ ho1
  have hu1 := (TS.set_ne s ⟨bn, idn, htn, pA u, k0n, k1n⟩ nu).trans hu
  have e0 := m1.nd _ _ hu1
  obtain ⟨w2, hw2⟩ : ∃ w2, w2 = w1.setCell ⟨u, 7, none⟩ (.pointer (pA n)) := ⟨_, rfl⟩
  obtain ⟨m2, o2⟩ := m1.put hu1 (w' := w2) (by rw [hw2]; exact e0.setK0 (pA n)) (by rw [hw2]; exact (Out.refl (fun i => i = u) w1).setCell (p := ⟨u, 7, none⟩) (.inr rfl) _)
  have o3 := o1.trans o2 (fun i _ q => TS.set_in hn q)
  obtain ⟨-, -, -, -, -, -, -, v7, v8, vf, -⟩ := e0
  have l3 := lt_of_cell v7
  obtain ⟨-, -, -, -, -, -, z6, -, -, zf, -⟩ := c0
  obtain ⟨-, -, -, -, -, -, y6, -, -, yf, -⟩ := c1
  obtain ⟨-, -, -, -, -, -, x6, -, -, xf, -⟩ := d0
  have l0 := lt_of_cell z6
  have l1 := lt_of_cell y6
  have l2 := lt_of_cell x6
  have no' : ¬ n = old := fun e => no e.symm
  have hEQ := run_eqNs old w1
  have M2 := hid m2
  have O2 := hid o3
  clear h ho hn m1 o1 ho1 m2 o2 o3 hu hu1
  go_enter Try.func27, Try.ntmps27
  go_upto_region 2 with fail
  rw [← hw1]
  clear hw1 z6 zf y6 yf l0 l1
  go_wp2
  rw [← hw2]
  go_returns
  exact ⟨rfl, M2.out, O2.out⟩
set_option maxRecDepth 100000 in
set_option maxHeartbeats 4000000 in
theorem place_kid1 {w : World} {g : Nat} {s : TS} (h : Mem w g s) {old n u x : Nat} {bo : Bx} {ido hto : Int} {k0o k1o : Option Addr} {rn : NR} (ho : s.nd old = some ⟨bo, ido, hto, (pA u), k0o, k1o⟩) (hn : s.nd n = some rn) (no : old ≠ n) {bu : Bx} {idu htu : Int} {upu k1u : Option Addr} (hu : s.nd u = some ⟨bu, idu, htu, upu, pA x, k1u⟩) (nu : u ≠ n) (nx : x ≠ old) (hxs : ∃ rx, s.nd x = some rx) : Calls Try.prog 27 #[.pointer (pA g), .pointer (pA old), .pointer (pA n)] w (RetM g s ((s.set n { rn with up := pA u }).set u ⟨bu, idu, htu, upu, pA x, pA n⟩) (.tuple #[]) w) := by
  obtain ⟨bn, idn, htn, upn, k0n, k1n⟩ := rn
  have c0 := h.nd _ _ ho
  have c1 := h.nd _ _ hn
  obtain ⟨w1, hw1⟩ : ∃ w1, w1 = w.setCell ⟨n, 6, none⟩ (.pointer (pA u)) := ⟨_, rfl⟩
  obtain ⟨m1, o1⟩ := h.put hn (w' := w1) (by rw [hw1]; exact c1.setUp (pA u)) (by rw [hw1]; exact (Out.refl (fun i => i = n) w).setCell (p := ⟨n, 6, none⟩) (.inr rfl) _)
  have ho1 := (TS.set_ne s ⟨bn, idn, htn, (pA u), k0n, k1n⟩ no).trans ho
  have d0 := m1.nd _ _ ho1
  have hu1 := (TS.set_ne s ⟨bn, idn, htn, pA u, k0n, k1n⟩ nu).trans hu
  have e0 := m1.nd _ _ hu1
  obtain ⟨w2, hw2⟩ : ∃ w2, w2 = w1.setCell ⟨u, 8, none⟩ (.pointer (pA n)) := ⟨_, rfl⟩
  obtain ⟨m2, o2⟩ := m1.put hu1 (w' := w2) (by rw [hw2]; exact e0.setK1 (pA n)) (by rw [hw2]; exact (Out.refl (fun i => i = u) w1).setCell (p := ⟨u, 8, none⟩) (.inr rfl) _)
  have o3 := o1.trans o2 (fun i _ q => TS.set_in hn q)
  obtain ⟨-, -, -, -, -, -, -, v7, v8, vf, -⟩ := e0
  have l3 := lt_of_cell v7
  obtain ⟨-, -, -, -, -, -, z6, -, -, zf, -⟩ := c0
  obtain ⟨-, -, -, -, -, -, y6, -, -, yf, -⟩ := c1
  obtain ⟨-, -, -, -, -, -, x6, -, -, xf, -⟩ := d0
  have l0 := lt_of_cell z6
  have l1 := lt_of_cell y6
  have l2 := lt_of_cell x6
  have no' : ¬ n = old := fun e => no e.symm
  obtain ⟨rx, hx⟩ := hxs
  obtain ⟨ry, hy⟩ : ∃ ry, (s.set n ⟨bn, idn, htn, pA u, k0n, k1n⟩).nd x = some ry := by
    by_cases q : x = n
    · exact ⟨_, by rw [q, TS.set_eq]⟩
    · exact ⟨rx, by rw [TS.set_ne _ _ q]; exact hx⟩
  have hx1 := m1.nd x _ hy
  have hEQ := run_eqNd hx1 (m1.nd _ _ ho1) nx
  have M2 := hid m2
  have O2 := hid o3
  clear h ho hn m1 o1 ho1 m2 o2 o3 hu hu1
  have nx' : ¬ old = x := fun e => nx e.symm
  go_enter Try.func27, Try.ntmps27
  go_upto_region 2 with fail
  rw [← hw1]
  clear hw1 z6 zf y6 yf l0 l1
  go_wp2
  rw [← hw2]
  go_returns
  exact ⟨rfl, M2.out, O2.out⟩
end
end Go.Proofs.Ytiaoandbdgdecaa
