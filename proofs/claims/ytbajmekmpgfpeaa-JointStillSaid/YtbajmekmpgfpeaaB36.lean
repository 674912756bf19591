/- Parts of a proof: contracts and laws. -/
import Derived.Test.YtbajmekmpgfpeaaB35
import Derived.Test.YtbajmekmpgfpeaaB23
import Derived.Test.YtbajmekmpgfpeaaB14
import Derived.Test.YtbajmekmpgfpeaaB34
namespace Go.Proofs.Ytbajmekmpgfpeaa
section
set_option linter.unusedVariables false
set_option linter.unusedSimpArgs false
open Go.RowKit
theorem cells_b0 {w : World} {g k : Nat} {L : List BE} {x : BE} (h : CellsE layB w g 0 L) (hk : k < L.length) (hx : x = L[k]) : w.cell? ⟨g, k * 13, none⟩ = some (.int .i64 x.b.px) ∧ w.cell? ⟨g, k * 13 + 1, none⟩ = some (.int .i64 x.b.py) ∧ w.cell? ⟨g, k * 13 + 2, none⟩ = some (.int .i64 x.b.vx) ∧ w.cell? ⟨g, k * 13 + 3, none⟩ = some (.int .i64 x.b.vy) ∧ w.cell? ⟨g, k * 13 + 4, none⟩ = some (.int .i64 x.b.ang) ∧ w.cell? ⟨g, k * 13 + 5, none⟩ = some (.int .i64 x.b.spin) ∧ w.cell? ⟨g, k * 13 + 6, none⟩ = some (.int .i64 x.b.mass) ∧ w.cell? ⟨g, k * 13 + 7, none⟩ = some (.int .i64 x.b.iner) ∧ w.cell? ⟨g, k * 13 + 8, none⟩ = some (.int .i64 x.b.bounce) ∧ w.cell? ⟨g, k * 13 + 9, none⟩ = some (.int .i64 x.b.rub) ∧ w.cell? ⟨g, k * 13 + 10, none⟩ = some (.slice x.A x.n x.c) ∧ w.cell? ⟨g, k * 13 + 11, none⟩ = some (.bool x.b.asleep) ∧ w.cell? ⟨g, k * 13 + 12, none⟩ = some (.int .i64 x.b.calm) := by
  have := cells_bd h hk hx
  simpa only [Nat.zero_add] using this

structure Pj (w0 : World) (g : Nat) (L : List BE) (x : Jt) (p1 p2 q1 q2 v1 v2 : Int) (w : World) : Prop where
  j : w.cell? ⟨w0.heap.size, 0, none⟩ = some (.int .i64 x.a) ∧ w.cell? ⟨w0.heap.size, 1, none⟩ = some (.int .i64 x.b) ∧ w.cell? ⟨w0.heap.size, 2, none⟩ = some (.int .i64 x.p1) ∧ w.cell? ⟨w0.heap.size, 3, none⟩ = some (.int .i64 x.p2) ∧ w.cell? ⟨w0.heap.size, 4, none⟩ = some (.int .i64 x.q1) ∧ w.cell? ⟨w0.heap.size, 5, none⟩ = some (.int .i64 x.q2) ∧ w.cell? ⟨w0.heap.size, 6, none⟩ = some (.int .i64 x.len)
  p : w.cell? ⟨w0.heap.size + 1, 0, none⟩ = some (.int .i64 p1) ∧ w.cell? ⟨w0.heap.size + 1, 1, none⟩ = some (.int .i64 p2)
  q : w.cell? ⟨w0.heap.size + 2, 0, none⟩ = some (.int .i64 q1) ∧ w.cell? ⟨w0.heap.size + 2, 1, none⟩ = some (.int .i64 q2)
  v : w.cell? ⟨w0.heap.size + 3, 0, none⟩ = some (.int .i64 v1) ∧ w.cell? ⟨w0.heap.size + 3, 1, none⟩ = some (.int .i64 v2)
  bl : BL w g L
  bel : Below w0.heap.size w0 w
  lt : g < w0.heap.size
  lo : ∀ y ∈ L, ∀ bx off, y.A = some ⟨bx, off, none⟩ → bx < w0.heap.size
  sz : w0.heap.size + 3 < w.heap.size
theorem keepPj {w0 : World} {g : Nat} {L : List BE} {x : Jt} {p1 p2 q1 q2 v1 v2 : Int} {w w' : World} (hb : Below w.heap.size w w') (h : Pj w0 g L x p1 p2 q1 q2 v1 v2 w) : Pj w0 g L x p1 p2 q1 q2 v1 v2 w' := by
  obtain ⟨h0, h1, h2, h3, h4, h5, h6⟩ := h.j
  exact ⟨⟨keepCell hb h0, keepCell hb h1, keepCell hb h2, keepCell hb h3, keepCell hb h4, keepCell hb h5, keepCell hb h6⟩, ⟨keepCell hb h.p.1, keepCell hb h.p.2⟩, ⟨keepCell hb h.q.1, keepCell hb h.q.2⟩, ⟨keepCell hb h.v.1, keepCell hb h.v.2⟩, keepBL hb h.bl, keepBelow hb h.bel, h.lt, h.lo, Nat.lt_of_lt_of_le h.sz hb.size⟩
theorem Pj.alloc {w0 : World} {g : Nat} {L : List BE} {x : Jt} {p1 p2 q1 q2 v1 v2 : Int} {w : World} (h : Pj w0 g L x p1 p2 q1 q2 v1 v2 w) (o : Obj) : Pj w0 g L x p1 p2 q1 q2 v1 v2 (w.alloc o) := keepPj ((Below.refl _ _).alloc (Nat.le_refl _) _) h
theorem Pj.drew {w0 : World} {g : Nat} {L : List BE} {x : Jt} {p1 p2 q1 q2 v1 v2 : Int} {w : World} (h : Pj w0 g L x p1 p2 q1 q2 v1 v2 w) : Pj w0 g L x p1 p2 q1 q2 v1 v2 w.drew := keepPj (Below.refl _ _).drew h

theorem BL.off {w : World} {g k o : Nat} {v : Value} {L : List BE} (h : BL w g L) (hk : k ≠ g) (hne : ∀ x ∈ L, ∀ bx off, x.A = some ⟨bx, off, none⟩ → bx ≠ k) : BL (w.setCell ⟨k, o, none⟩ v) g L :=
  ⟨⟨by simp; exact h.cl.lt, fun j hj i u hu => far1 hk (h.cl.at_ j hj i u hu)⟩, fun j => by rw [World.frozen?_setCell]; exact h.free j, fun x hx => (h.co x hx).setAt (hne x hx), h.ne⟩
theorem Pj.set {w0 : World} {g : Nat} {L : List BE} {x : Jt} {p1 p2 q1 q2 v1 v2 : Int} {w : World} {k o : Nat} {v : Value} (h : Pj w0 g L x p1 p2 q1 q2 v1 v2 w) (hk : w0.heap.size + 3 < k) : Pj w0 g L x p1 p2 q1 q2 v1 v2 (w.setCell ⟨k, o, none⟩ v) := by
  obtain ⟨h0, h1, h2, h3, h4, h5, h6⟩ := h.j
  have hlt := h.lt
  have n0 : k ≠ w0.heap.size := by omega
  have n1 : k ≠ w0.heap.size + 1 := by omega
  have n2 : k ≠ w0.heap.size + 2 := by omega
  have n3 : k ≠ w0.heap.size + 3 := by omega
  exact ⟨⟨far1 n0 h0, far1 n0 h1, far1 n0 h2, far1 n0 h3, far1 n0 h4, far1 n0 h5, far1 n0 h6⟩, ⟨far1 n1 h.p.1, far1 n1 h.p.2⟩, ⟨far1 n2 h.q.1, far1 n2 h.q.2⟩, ⟨far1 n3 h.v.1, far1 n3 h.v.2⟩, h.bl.off (by omega) (fun y hy bx off e => by have := h.lo y hy bx off e; omega), h.bel.setCell (p := ⟨k, o, none⟩) (by show w0.heap.size ≤ k; omega) _, h.lt, h.lo, by simp; exact h.sz⟩
theorem Pj.setBd {w0 : World} {g : Nat} {L : List BE} {x : Jt} {p1 p2 q1 q2 v1 v2 : Int} {w : World} {k : Nat} (h : Pj w0 g L x p1 p2 q1 q2 v1 v2 w) (hk : w0.heap.size + 3 < k) (b : Bd) (A : Option Addr) (n c : Nat) : Pj w0 g L x p1 p2 q1 q2 v1 v2 (Go.Proofs.Ytbajmekmpgfpeaa.setBd w k b A n c) := by
  unfold Go.Proofs.Ytbajmekmpgfpeaa.setBd
  iterate 13 refine Pj.set ?_ hk
  exact h
theorem pj_two {w0 : World} {g : Nat} {L : List BE} {x : Jt} {p1 p2 q1 q2 v1 v2 : Int} {w : World} {gT gU : Nat} (h1 : w0.heap.size + 3 < gT) (h2 : w0.heap.size + 3 < gU) (hne : ¬ gT = gU) (h : Pj w0 g L x p1 p2 q1 q2 v1 v2 w) (hT : BdZ w gT) (hU : BdZ w gU) (b b' : Bd) (A A' : Option Addr) (n n' c c' : Nat) :
    Pj w0 g L x p1 p2 q1 q2 v1 v2 (setBd (setBd w gT b A n c) gU b' A' n' c') ∧ BdAt (setBd (setBd w gT b A n c) gU b' A' n' c') gT b A n c ∧ BdAt (setBd (setBd w gT b A n c) gU b' A' n' c') gU b' A' n' c' :=
  ⟨(h.setBd h1 b A n c).setBd h2 b' A' n' c', BdAt.setBd_offJ (setBd_at hT b A n c) (fun e => hne e.symm) b' A' n' c', setBd_at (hU.setBd b A n c) b' A' n' c'⟩
theorem checkE_len4 {l : List V} (h : checkE l = 0) : l.length ≤ 8 := by
  unfold checkE at h
  by_cases hc : 8 < l.length
  · rw [if_pos hc] at h; cases h
  · omega
theorem jover_calls (a n : Int) (w : World) : Calls Try.prog 91 #[.int .i64 a, .int .i64 n] w (Ret (.int .i64 (divF a n)) w) := by
  go_enter Try.func91, Try.ntmps91
  go_wp2_with fail
  refine (fdiv_calls a n _).mono ?_
  rintro e w1 ⟨rfl, hb1⟩
  go_wp2
  go_returns
  exact ret_int rfl hb1
theorem setBo_far {w : World} {g o k o' : Nat} {u : Value} {b : Bd} {A : Option Addr} {n c : Nat} (hne : g ≠ k) (h : w.cell? ⟨k, o', none⟩ = some u) : (setBo w g o b A n c).cell? ⟨k, o', none⟩ = some u := by
  unfold setBo
  iterate 13 refine far1 hne ?_
  exact h
theorem both_map {L : List BE} {ka kb : Nat} (hka : ka < L.length) (hkb : kb < L.length) (hab : ka ≠ kb) (p1 p2 q1 q2 j1 j2 : Int) (xa xb : BE) (ha : valB xa = (pushR L[ka].b (-j1) (-j2) p1 p2, L[ka].l)) (hb : valB xb = (pushR L[kb].b j1 j2 q1 q2, L[kb].l)) : ((L.set ka xa).set kb xb).map valB = bothQ (L.map valB) ka kb p1 p2 q1 q2 j1 j2 := by
  have e1 : (L.map valB)[ka]? = some (valB L[ka]) := by rw [List.getElem?_map, List.getElem?_eq_getElem hka]; rfl
  have e2 : (L.map valB)[kb]? = some (valB L[kb]) := by rw [List.getElem?_map, List.getElem?_eq_getElem hkb]; rfl
  unfold bothQ
  rw [qB_at rfl e1, qB_at rfl e2, putQ_eq e1, putQ_eq (y := valB L[kb]) (by rw [List.getElem?_set_ne hab]; exact e2), List.map_set, List.map_set, ha, hb]
  rfl
def RetPull (g : Nat) (L : List BE) (Q : List QB) (w : World) (e : Ending) (w' : World) : Prop := ∃ L' : List BE, e = .returned (.tuple #[]) ∧ BL w' g L' ∧ L'.map valB = Q ∧ w.grownBy w' (some g)
set_option maxRecDepth 100000 in
set_option maxHeartbeats 8000000 in
theorem pull_calls (cap g ka kb : Nat) (L : List BE) (x : Jt) (p1 p2 q1 q2 v1 v2 gap st : Int) (w : World) (h : BL w g L) (hlo : ∀ y ∈ L, ∀ bx off, y.A = some ⟨bx, off, none⟩ → bx < w.heap.size) (hv : ∀ y ∈ L, bodyE y.b y.l = 0) (hab : ka < kb) (hka : ka < L.length) (hkb : kb < L.length) (hxa : x.a = ka) (hxb : x.b = kb) (h64 : L.length ≤ 64) (xa xb : BE) (HXA0 : xa = L[ka]'hka) (HXB0 : xb = L[kb]'hkb) :
    Calls Try.prog 62 #[.slice (some ⟨g, 0, none⟩) L.length cap, jtV x, vecV p1 p2, vecV q1 q2, vecV v1 v2, .int .i64 gap, .int .i64 st] w (RetPull g L (pullQ (L.map valB) ka kb p1 p2 q1 q2 v1 v2 gap st) w) := by
  obtain ⟨W, hW⟩ : ∃ W, W = (((w.alloc (.cells #[.int .i64 x.a, .int .i64 x.b, .int .i64 x.p1, .int .i64 x.p2, .int .i64 x.q1, .int .i64 x.q2, .int .i64 x.len] 49)).alloc (.cells #[.int .i64 p1, .int .i64 p2] 24)).alloc (.cells #[.int .i64 q1, .int .i64 q2] 24)).alloc (.cells #[.int .i64 v1, .int .i64 v2] 24) := ⟨_, rfl⟩
  have hgl := h.cl.lt
  have hB : Below w.heap.size w W := by rw [hW]; go_grown
  have HPJ4 : Hid (Pj w g L x p1 p2 q1 q2 v1 v2 W) := by
    show Pj _ _ _ _ _ _ _ _ _ _ _
    refine ⟨?_, ?_, ?_, ?_, keepBL hB h, hB, hgl, hlo, by rw [hW]; simp⟩ <;> rw [hW]
    · exact ⟨by go_simp, by go_simp, by go_simp, by go_simp, by go_simp, by go_simp, by go_simp⟩
    · exact ⟨by go_simp, by go_simp⟩
    · exact ⟨by go_simp, by go_simp⟩
    · exact ⟨by go_simp, by go_simp⟩
  have HXA := hid HXA0
  have HXB := hid HXB0
  have hea := hv xa (by rw [HXA0]; exact List.getElem_mem hka)
  have heb := hv xb (by rw [HXB0]; exact List.getElem_mem hkb)
  have HSA := hid (fun (w' : World) (hb : Below w.heap.size w w') => (h.co xa (by rw [HXA0]; exact List.getElem_mem hka)).below hb)
  have HSB := hid (fun (w' : World) (hb : Below w.heap.size w w') => (h.co xb (by rw [HXB0]; exact List.getElem_mem hkb)).below hb)
  have HEA : Hid (∀ w', Below w.heap.size w w' → Calls Try.prog 69 #[bodyV xa.b xa.A xa.n xa.c, vecV p1 p2, vecV v1 v2] w' (Ret (.int .i64 (easeR xa.b p1 p2 v1 v2)) w')) := fun w' hb => by
    have := bease_calls xa.b xa.A xa.n xa.c xa.l p1 p2 v1 v2 w' (HSA.out w' hb)
    rwa [easeB_ok hea] at this
  have HEB : Hid (∀ w', Below w.heap.size w w' → Calls Try.prog 69 #[bodyV xb.b xb.A xb.n xb.c, vecV q1 q2, vecV v1 v2] w' (Ret (.int .i64 (easeR xb.b q1 q2 v1 v2)) w')) := fun w' hb => by
    have := bease_calls xb.b xb.A xb.n xb.c xb.l q1 q2 v1 v2 w' (HSB.out w' hb)
    rwa [easeB_ok heb] at this
  have HVA : Hid (∀ w', Below w.heap.size w w' → Calls Try.prog 12 #[bodyV xa.b xa.A xa.n xa.c, vecV p1 p2] w' (Ret (vecV (speedX xa.b p1 p2) (speedY xa.b p1 p2)) w')) := fun w' hb => by
    have := at_calls xa.b xa.A xa.n xa.c xa.l p1 p2 w' (HSA.out w' hb)
    rwa [show atX xa.b xa.l p1 p2 = speedX xa.b p1 p2 by unfold atX speedX; rw [if_neg (by simp [hea])], show atY xa.b xa.l p1 p2 = speedY xa.b p1 p2 by unfold atY speedY; rw [if_neg (by simp [hea])]] at this
  have HVB : Hid (∀ w', Below w.heap.size w w' → Calls Try.prog 12 #[bodyV xb.b xb.A xb.n xb.c, vecV q1 q2] w' (Ret (vecV (speedX xb.b q1 q2) (speedY xb.b q1 q2)) w')) := fun w' hb => by
    have := at_calls xb.b xb.A xb.n xb.c xb.l q1 q2 w' (HSB.out w' hb)
    rwa [show atX xb.b xb.l q1 q2 = speedX xb.b q1 q2 by unfold atX speedX; rw [if_neg (by simp [heb])], show atY xb.b xb.l q1 q2 = speedY xb.b q1 q2 by unfold atY speedY; rw [if_neg (by simp [heb])]] at this
  obtain ⟨s1, hs1⟩ : ∃ z, z = speedX xb.b q1 q2 := ⟨_, rfl⟩
  obtain ⟨s2, hs2⟩ : ∃ z, z = speedY xb.b q1 q2 := ⟨_, rfl⟩
  obtain ⟨t1, ht1⟩ : ∃ z, z = speedX xa.b p1 p2 := ⟨_, rfl⟩
  obtain ⟨t2, ht2⟩ : ∃ z, z = speedY xa.b p1 p2 := ⟨_, rfl⟩
  rw [← hs1, ← hs2] at HVB
  rw [← ht1, ← ht2] at HVA
  obtain ⟨d1, hd1⟩ : ∃ z, z = subF s1 t1 := ⟨_, rfl⟩
  obtain ⟨d2, hd2⟩ : ∃ z, z = subF s2 t2 := ⟨_, rfl⟩
  have HC6 := hid (vsub_calls s1 s2 t1 t2)
  rw [← hd1, ← hd2] at HC6
  obtain ⟨vz, hvz⟩ : ∃ z, z = dotF d1 d2 v1 v2 := ⟨_, rfl⟩
  have HC8 := hid (vdot_calls d1 d2 v1 v2)
  rw [← hvz] at HC8
  obtain ⟨ez, hez⟩ : ∃ ez, ez = pulE xa.b xb.b p1 p2 q1 q2 v1 v2 := ⟨_, rfl⟩
  have HEZ : Hid (addF (easeR xa.b p1 p2 v1 v2) (easeR xb.b q1 q2 v1 v2) = ez) := hez.symm
  have hvn : IntKind.i64.wrap (-vz) = -vz := by have := dotF_bd d1 d2 v1 v2; rw [← hvz] at this; exact IntWalk.i64_in _ (by omega)
  obtain ⟨mg, hmg⟩ : ∃ z, z = mulF gap 16384 := ⟨_, rfl⟩
  have HD4 := hid (fmul_calls gap 16384)
  rw [← hmg] at HD4
  obtain ⟨qd, hqd⟩ : ∃ z, z = divF mg st := ⟨_, rfl⟩
  have HD6 := hid (jover_calls mg st)
  rw [← hqd] at HD6
  obtain ⟨sb, hsb⟩ : ∃ z, z = subF (-vz) qd := ⟨_, rfl⟩
  have HD7 := hid (fsub_calls (-vz) qd)
  rw [← hsb] at HD7
  obtain ⟨jz, hjz⟩ : ∃ z, z = divF sb ez := ⟨_, rfl⟩
  have HD9 := hid (jover_calls sb ez)
  rw [← hjz] at HD9
  obtain ⟨j1, hj1⟩ : ∃ z, z = mulF v1 jz := ⟨_, rfl⟩
  obtain ⟨j2, hj2⟩ : ∃ z, z = mulF v2 jz := ⟨_, rfl⟩
  have HD10 := hid (vscale_calls v1 v2 jz)
  rw [← hj1, ← hj2] at HD10
  have hn1 : IntKind.i64.wrap (-j1) = -j1 := by have := mulF_bd v1 jz; rw [← hj1] at this; exact IntWalk.i64_in _ (by omega)
  have hn2 : IntKind.i64.wrap (-j2) = -j2 := by have := mulF_bd v2 jz; rw [← hj2] at this; exact IntWalk.i64_in _ (by omega)
  obtain ⟨ya, hya⟩ : ∃ z, z = pushR xa.b (-j1) (-j2) p1 p2 := ⟨_, rfl⟩
  obtain ⟨yb, hyb⟩ : ∃ z, z = pushR xb.b j1 j2 q1 q2 := ⟨_, rfl⟩
  have hlc : ∀ {y : BE}, bodyE y.b y.l = 0 → y.l.length ≤ 8796093022208 := fun {y} he => by have h3 := checkE_len4 (shapeE_zero (bodyE_zero he).1); omega
  have HPA : Hid (∀ w', Below w.heap.size w w' → Calls Try.prog 73 #[bodyV xa.b xa.A xa.n xa.c, vecV (-j1) (-j2), vecV p1 p2] w' (RetBody ya xa.l w')) := fun w' hb => by
    have := push_calls xa.b xa.A xa.n xa.c xa.l (-j1) (-j2) p1 p2 w' (HSA.out w' hb) (hlc hea)
    rwa [pushB_ok hea, ← hya] at this
  have HPB : Hid (∀ w', Below w.heap.size w w' → Calls Try.prog 73 #[bodyV xb.b xb.A xb.n xb.c, vecV j1 j2, vecV q1 q2] w' (RetBody yb xb.l w')) := fun w' hb => by
    have := push_calls xb.b xb.A xb.n xb.c xb.l j1 j2 q1 q2 w' (HSB.out w' hb) (hlc heb)
    rwa [pushB_ok heb, ← hyb] at this
  have eA : (L.map valB)[ka]? = some (valB xa) := by rw [List.getElem?_map, List.getElem?_eq_getElem hka, HXA0]; rfl
  have eB : (L.map valB)[kb]? = some (valB xb) := by rw [List.getElem?_map, List.getElem?_eq_getElem hkb, HXB0]; rfl
  have HFIZ : Hid (ez = 0 → L.map valB = pullQ (L.map valB) ka kb p1 p2 q1 q2 v1 v2 gap st) := fun hz => by
    unfold pullQ
    rw [qB_at rfl eA, qB_at rfl eB]
    rw [if_pos (by show pulE xa.b xb.b p1 p2 q1 q2 v1 v2 = 0; rw [← hez]; exact hz)]
  have HFIN : Hid (ez ≠ 0 → ∀ (za zb : BE), valB za = (ya, xa.l) → valB zb = (yb, xb.l) → ((L.set ka za).set kb zb).map valB = pullQ (L.map valB) ka kb p1 p2 q1 q2 v1 v2 gap st) := fun hz za zb h1 h2 => by
    have hJ : pulJ xa.b xb.b p1 p2 q1 q2 v1 v2 gap st = jz := by unfold pulJ pulV; rw [← hez, ← hs1, ← hs2, ← ht1, ← ht2, ← hd1, ← hd2, ← hvz, ← hmg, ← hqd, ← hsb, ← hjz]
    unfold pullQ
    rw [qB_at rfl eA, qB_at rfl eB]
    rw [if_neg (by show ¬ pulE xa.b xb.b p1 p2 q1 q2 v1 v2 = 0; rw [← hez]; exact hz)]
    show _ = bothQ _ _ _ _ _ _ _ (mulF v1 (pulJ xa.b xb.b p1 p2 q1 q2 v1 v2 gap st)) (mulF v2 (pulJ xa.b xb.b p1 p2 q1 q2 v1 v2 gap st))
    rw [hJ, ← hj1, ← hj2]
    exact both_map hka hkb (by omega) _ _ _ _ _ _ _ _ (by rw [h1, hya, HXA0]) (by rw [h2, hyb, HXB0])
  have HXB8 : Hid (∀ z : BE, xb = (L.set ka z)[kb]'(by rw [List.length_set]; exact hkb)) := fun z => by rw [List.getElem_set_ne (by omega)]; exact HXB0
  have hac : (ka : Int) < (L.length : Int) := by omega
  have hbc : (kb : Int) < (L.length : Int) := by omega
  obtain ⟨w3, hw3⟩ : ∃ w3 : World, w3 = W := ⟨_, rfl⟩
  have HXI := hid (And.intro hxa hxb)
  clear hxa hxb
  go_enter Try.func62, Try.ntmps62
  go_upto_region 1 with fail
  rw [← hW, ← hw3]
  obtain ⟨hxa, hxb⟩ := HXI.out
  clear HXI
  rw [← hw3] at HPJ4
  clear hW hw3 h hlo hv HXA0 HXB0 hea heb hB hez hvz hs1 hs2 ht1 ht2 hd1 hd2 hmg hqd hsb hjz hj1 hj2 hya hyb eA eB hlc
  refine (fun (hNr8 : Hid (?Tr8 : Prop)) => ?mainr8) (hid ?prfr8)
  case mainr8 =>
    refine wp_region_noPanic ?_
    refine wp_region_U (S := (S3 (fun w' => Pj w g L x p1 p2 q1 q2 v1 v2 w') (fun w' => Pj w g L x p1 p2 q1 q2 v1 v2 w'))) (T := (fun j => [0, 0, 0, 0, 0, 0, 0, 0, 0, 0, 0, 0, 1, 2].getD j 0)) (by kernel_rfl) (S3i0 HPJ4.out.drew) (fun hH => ?_)
    have hWr8 : Weaker (S3 (fun w' => Pj w g L x p1 p2 q1 q2 v1 v2 w') (fun w' => Pj w g L x p1 p2 q1 q2 v1 v2 w')) := weaker3 (fun _ q0 => q0)
    refine U_take 0 19 13 0 0 (v := ?vr8_1) rfl (by kernel_rfl) (by kernel_rfl) hWr8 (by kernel_rfl) (by kernel_rfl) (by kernel_rfl) (by kernel_rfl) (by kernel_rfl) (by kernel_rfl) (fun _ _ _ _ h => h) (by kernel_rfl) ?hyr8_1 (by omega) hH ?_
    case hyr8_1 => (intro w' hSw; clear hSw; go_simp; try (with_reducible rfl))
    simp only [List.set_cons_zero, List.set_cons_succ]
    refine U_take 1 20 12 0 0 (v := ?vr8_2) rfl (by kernel_rfl) (by kernel_rfl) hWr8 (by kernel_rfl) (by kernel_rfl) (by kernel_rfl) (by kernel_rfl) (by kernel_rfl) (by kernel_rfl) (fun _ _ _ _ h => h) (by kernel_rfl) ?hyr8_2 (by omega) hH ?_
    case hyr8_2 => (intro w' hSw; clear hSw; go_simp; try (with_reducible rfl))
    simp only [List.set_cons_zero, List.set_cons_succ]
    refine U_take 2 21 11 0 0 (v := ?vr8_3) rfl (by kernel_rfl) (by kernel_rfl) hWr8 (by kernel_rfl) (by kernel_rfl) (by kernel_rfl) (by kernel_rfl) (by kernel_rfl) (by kernel_rfl) (fun _ _ _ _ h => h) (by kernel_rfl) ?hyr8_3 (by omega) hH ?_
    case hyr8_3 => (intro w' hSw; replace hSw := S3o0 hSw; (try dsimp only at hSw); have q0 := hSw; obtain ⟨qa0_0, qa0_1, qa0_2, qa0_3, qa0_4, qa0_5, qa0_6⟩ := (q0).j; have d0_0 := (q0).p.1; have d0_1 := (q0).p.2; have e0_0 := (q0).q.1; have e0_1 := (q0).q.2; have f0_0 := (q0).v.1; have f0_1 := (q0).v.2; obtain ⟨b0_0, b0_1, b0_2, b0_3, b0_4, b0_5, b0_6, b0_7, b0_8, b0_9, b0_10, b0_11, b0_12⟩ := cells_b0 (q0).bl.cl hka HXA.out; obtain ⟨c0_0, c0_1, c0_2, c0_3, c0_4, c0_5, c0_6, c0_7, c0_8, c0_9, c0_10, c0_11, c0_12⟩ := cells_b0 (q0).bl.cl hkb HXB.out; go_simp; try (with_reducible rfl))
    simp only [List.set_cons_zero, List.set_cons_succ]
    refine U_take 3 22 10 0 0 (v := ?vr8_4) rfl (by kernel_rfl) (by kernel_rfl) hWr8 (by kernel_rfl) (by kernel_rfl) (by kernel_rfl) (by kernel_rfl) (by kernel_rfl) (by kernel_rfl) (fun _ _ _ _ h => h) (by kernel_rfl) ?hyr8_4 (by omega) hH ?_
    case hyr8_4 => (intro w' hSw; clear hSw; go_simp; try (with_reducible rfl))
    simp only [List.set_cons_zero, List.set_cons_succ]
    refine U_take 4 23 9 0 0 (v := ?vr8_5) rfl (by kernel_rfl) (by kernel_rfl) hWr8 (by kernel_rfl) (by kernel_rfl) (by kernel_rfl) (by kernel_rfl) (by kernel_rfl) (by kernel_rfl) (fun _ _ _ _ h => h) (by kernel_rfl) ?hyr8_5 (by omega) hH ?_
    case hyr8_5 => (intro w' hSw; replace hSw := S3o0 hSw; (try dsimp only at hSw); have q0 := hSw; obtain ⟨qa0_0, qa0_1, qa0_2, qa0_3, qa0_4, qa0_5, qa0_6⟩ := (q0).j; have d0_0 := (q0).p.1; have d0_1 := (q0).p.2; have e0_0 := (q0).q.1; have e0_1 := (q0).q.2; have f0_0 := (q0).v.1; have f0_1 := (q0).v.2; obtain ⟨b0_0, b0_1, b0_2, b0_3, b0_4, b0_5, b0_6, b0_7, b0_8, b0_9, b0_10, b0_11, b0_12⟩ := cells_b0 (q0).bl.cl hka HXA.out; obtain ⟨c0_0, c0_1, c0_2, c0_3, c0_4, c0_5, c0_6, c0_7, c0_8, c0_9, c0_10, c0_11, c0_12⟩ := cells_b0 (q0).bl.cl hkb HXB.out; go_simp; try (with_reducible rfl))
    simp only [List.set_cons_zero, List.set_cons_succ]
    refine U_take 5 24 8 1 0 (v := ?vr8_6) rfl (by kernel_rfl) (by kernel_rfl) hWr8 (by kernel_rfl) (by kernel_rfl) (by kernel_rfl) (by kernel_rfl) (by kernel_rfl) (by kernel_rfl) (fun _ _ _ _ h => h) (by kernel_rfl) ?hyr8_6 (by omega) hH ?_
    case hyr8_6 => (intro w' hSw; clear hSw; go_simp; try (with_reducible rfl))
    simp only [List.set_cons_zero, List.set_cons_succ]
    refine U_take 6 25 7 1 0 (v := ?vr8_7) rfl (by kernel_rfl) (by kernel_rfl) hWr8 (by kernel_rfl) (by kernel_rfl) (by kernel_rfl) (by kernel_rfl) (by kernel_rfl) (by kernel_rfl) (fun _ _ _ _ h => h) (by kernel_rfl) ?hyr8_7 (by omega) hH ?_
    case hyr8_7 => (intro w' hSw; clear hSw; go_simp; try (with_reducible rfl))
    simp only [List.set_cons_zero, List.set_cons_succ]
    refine U_take 7 26 6 1 0 (v := ?vr8_8) rfl (by kernel_rfl) (by kernel_rfl) hWr8 (by kernel_rfl) (by kernel_rfl) (by kernel_rfl) (by kernel_rfl) (by kernel_rfl) (by kernel_rfl) (fun _ _ _ _ h => h) (by kernel_rfl) ?hyr8_8 (by omega) hH ?_
    case hyr8_8 => (intro w' hSw; replace hSw := S3o1 hSw; (try dsimp only at hSw); have q0 := hSw; obtain ⟨qa0_0, qa0_1, qa0_2, qa0_3, qa0_4, qa0_5, qa0_6⟩ := (q0).j; have d0_0 := (q0).p.1; have d0_1 := (q0).p.2; have e0_0 := (q0).q.1; have e0_1 := (q0).q.2; have f0_0 := (q0).v.1; have f0_1 := (q0).v.2; obtain ⟨b0_0, b0_1, b0_2, b0_3, b0_4, b0_5, b0_6, b0_7, b0_8, b0_9, b0_10, b0_11, b0_12⟩ := cells_b0 (q0).bl.cl hka HXA.out; obtain ⟨c0_0, c0_1, c0_2, c0_3, c0_4, c0_5, c0_6, c0_7, c0_8, c0_9, c0_10, c0_11, c0_12⟩ := cells_b0 (q0).bl.cl hkb HXB.out; go_simp; try (with_reducible rfl))
    simp only [List.set_cons_zero, List.set_cons_succ]
    refine U_take 8 27 5 1 0 (v := ?vr8_9) rfl (by kernel_rfl) (by kernel_rfl) hWr8 (by kernel_rfl) (by kernel_rfl) (by kernel_rfl) (by kernel_rfl) (by kernel_rfl) (by kernel_rfl) (fun _ _ _ _ h => h) (by kernel_rfl) ?hyr8_9 (by omega) hH ?_
    case hyr8_9 => (intro w' hSw; clear hSw; go_simp; try (with_reducible rfl))
    simp only [List.set_cons_zero, List.set_cons_succ]
    refine U_take 9 28 4 1 0 (v := ?vr8_10) rfl (by kernel_rfl) (by kernel_rfl) hWr8 (by kernel_rfl) (by kernel_rfl) (by kernel_rfl) (by kernel_rfl) (by kernel_rfl) (by kernel_rfl) (fun _ _ _ _ h => h) (by kernel_rfl) ?hyr8_10 (by omega) hH ?_
    case hyr8_10 => (intro w' hSw; replace hSw := S3o1 hSw; (try dsimp only at hSw); have q0 := hSw; obtain ⟨qa0_0, qa0_1, qa0_2, qa0_3, qa0_4, qa0_5, qa0_6⟩ := (q0).j; have d0_0 := (q0).p.1; have d0_1 := (q0).p.2; have e0_0 := (q0).q.1; have e0_1 := (q0).q.2; have f0_0 := (q0).v.1; have f0_1 := (q0).v.2; obtain ⟨b0_0, b0_1, b0_2, b0_3, b0_4, b0_5, b0_6, b0_7, b0_8, b0_9, b0_10, b0_11, b0_12⟩ := cells_b0 (q0).bl.cl hka HXA.out; obtain ⟨c0_0, c0_1, c0_2, c0_3, c0_4, c0_5, c0_6, c0_7, c0_8, c0_9, c0_10, c0_11, c0_12⟩ := cells_b0 (q0).bl.cl hkb HXB.out; go_simp; try (with_reducible rfl))
    simp only [List.set_cons_zero, List.set_cons_succ]
    refine wpAnyU_ready (rs := [10, 11]) (by kernel_rfl) (by simp) ?_
    refine AllReadyU.cons 0 (by kernel_rfl) (o := _) rfl (fun K hK => ?_) ?_
    · try clear hb
      have hG := hH
      replace hG := S3o0 hG; (try dsimp only at hG); have q0 := hG
      go_simp
      refine hK.out _ _ ?hsr8_11 (fun hH2 => ?hrr8_11)
      case hsr8_11 => exact S3i0 (by have hG := hH; replace hG := S3o0 hG; (try dsimp only at hG); have q0 := hG; exact q0.alloc _)
      clear hK K hH
      have hH := hH2
      clear hH2
      try simp only [Act.put, List.setIfInBounds_toArray, List.set_cons_zero, List.set_cons_succ]
      have hT : BdZ ((w3.alloc (.cells #[.int .i64 0, .int .i64 0, .int .i64 0, .int .i64 0, .int .i64 0, .int .i64 0, .int .i64 0, .int .i64 0, .int .i64 0, .int .i64 0, .slice none 0 0, .bool false, .int .i64 0] 27)).drew) w3.heap.size := BdZ.drew (by have := BdAt.here w3 bd0 none 0 0 27; simp only [bd0] at this; exact BdZ.of this)
      obtain ⟨gT, hgT⟩ : ∃ g, g = w3.heap.size := ⟨_, rfl⟩
      have hlT : w.heap.size + 3 < gT := by rw [hgT]; exact q0.sz
      rw [← hgT] at hT
      try rw [← hgT]
      clear hgT q0
      generalize (w3.alloc (.cells #[.int .i64 0, .int .i64 0, .int .i64 0, .int .i64 0, .int .i64 0, .int .i64 0, .int .i64 0, .int .i64 0, .int .i64 0, .int .i64 0, .slice none 0 0, .bool false, .int .i64 0] 27)).drew = wx10 at *
      refine wpAnyU_ready (rs := [11]) (by kernel_rfl) (by simp) ?_
      refine AllReadyU.cons 0 (by kernel_rfl) (o := _) rfl (fun K hK => ?_) AllReadyU.nil
      try clear hb
      have hG := hH
      replace hG := S3o0 hG; (try dsimp only at hG); have q0 := hG
      have hZT := BdZ.lt hT
      go_simp
      refine hK.out _ _ ?hsr8_12 (fun hH2 => ?hrr8_12)
      case hsr8_12 => exact S3i0 (by have hG := hH; replace hG := S3o0 hG; (try dsimp only at hG); have q0 := hG; exact q0.alloc _)
      clear hK K hH
      have hH := hH2
      clear hH2
      try simp only [Act.put, List.setIfInBounds_toArray, List.set_cons_zero, List.set_cons_succ]
      have hU : BdZ (wx10.alloc (.cells #[.int .i64 0, .int .i64 0, .int .i64 0, .int .i64 0, .int .i64 0, .int .i64 0, .int .i64 0, .int .i64 0, .int .i64 0, .int .i64 0, .slice none 0 0, .bool false, .int .i64 0] 27)) wx10.heap.size := by have := BdAt.here wx10 bd0 none 0 0 27; simp only [bd0] at this; exact BdZ.of this
      replace hT := keepBdZ ((Below.refl _ _).alloc (Nat.le_refl _) (.cells #[.int .i64 0, .int .i64 0, .int .i64 0, .int .i64 0, .int .i64 0, .int .i64 0, .int .i64 0, .int .i64 0, .int .i64 0, .int .i64 0, .slice none 0 0, .bool false, .int .i64 0] 27)) hT
      obtain ⟨gU, hgU⟩ : ∃ g, g = wx10.heap.size := ⟨_, rfl⟩
      have hlU : w.heap.size + 3 < gU ∧ gT < gU := by rw [hgU]; exact ⟨q0.sz, hZT⟩
      rw [← hgU] at hU
      try rw [← hgU]
      clear hgU q0
      generalize wx10.alloc (.cells #[.int .i64 0, .int .i64 0, .int .i64 0, .int .i64 0, .int .i64 0, .int .i64 0, .int .i64 0, .int .i64 0, .int .i64 0, .int .i64 0, .slice none 0 0, .bool false, .int .i64 0] 27) = wx11 at *
      refine wpAnyU_lst (l' := #[true, true, true, true, true, true, true, true, true, true, true, true, false, false]) (by kernel_rfl) ?_
      have hl2 : w.heap.size + 3 < gT ∧ w.heap.size + 3 < gU ∧ gT ≠ gU := by omega
      clear hlT hlU
      try clear hZT
      try clear hZU
      try clear hb
      revert hH
      revert hU; revert hT
      revert hl2
      revert gU; revert gT
      revert wx11
      exact hNr8.out
    refine AllReadyU.cons 0 (by kernel_rfl) (o := _) rfl (fun K hK => ?_) ?_
    · try clear hb
      have hG := hH
      replace hG := S3o0 hG; (try dsimp only at hG); have q0 := hG
      go_simp
      refine hK.out _ _ ?hsr8_15 (fun hH2 => ?hrr8_15)
      case hsr8_15 => exact S3i0 (by have hG := hH; replace hG := S3o0 hG; (try dsimp only at hG); have q0 := hG; exact q0.alloc _)
      clear hK K hH
      have hH := hH2
      clear hH2
      try simp only [Act.put, List.setIfInBounds_toArray, List.set_cons_zero, List.set_cons_succ]
      have hU : BdZ ((w3.alloc (.cells #[.int .i64 0, .int .i64 0, .int .i64 0, .int .i64 0, .int .i64 0, .int .i64 0, .int .i64 0, .int .i64 0, .int .i64 0, .int .i64 0, .slice none 0 0, .bool false, .int .i64 0] 27)).drew) w3.heap.size := BdZ.drew (by have := BdAt.here w3 bd0 none 0 0 27; simp only [bd0] at this; exact BdZ.of this)
      obtain ⟨gU, hgU⟩ : ∃ g, g = w3.heap.size := ⟨_, rfl⟩
      have hlU : w.heap.size + 3 < gU := by rw [hgU]; exact q0.sz
      rw [← hgU] at hU
      try rw [← hgU]
      clear hgU q0
      generalize (w3.alloc (.cells #[.int .i64 0, .int .i64 0, .int .i64 0, .int .i64 0, .int .i64 0, .int .i64 0, .int .i64 0, .int .i64 0, .int .i64 0, .int .i64 0, .slice none 0 0, .bool false, .int .i64 0] 27)).drew = wx11 at *
      refine wpAnyU_ready (rs := [10]) (by kernel_rfl) (by simp) ?_
      refine AllReadyU.cons 0 (by kernel_rfl) (o := _) rfl (fun K hK => ?_) AllReadyU.nil
      try clear hb
      have hG := hH
      replace hG := S3o0 hG; (try dsimp only at hG); have q0 := hG
      have hZU := BdZ.lt hU
      go_simp
      refine hK.out _ _ ?hsr8_16 (fun hH2 => ?hrr8_16)
      case hsr8_16 => exact S3i0 (by have hG := hH; replace hG := S3o0 hG; (try dsimp only at hG); have q0 := hG; exact q0.alloc _)
      clear hK K hH
      have hH := hH2
      clear hH2
      try simp only [Act.put, List.setIfInBounds_toArray, List.set_cons_zero, List.set_cons_succ]
      have hT : BdZ (wx11.alloc (.cells #[.int .i64 0, .int .i64 0, .int .i64 0, .int .i64 0, .int .i64 0, .int .i64 0, .int .i64 0, .int .i64 0, .int .i64 0, .int .i64 0, .slice none 0 0, .bool false, .int .i64 0] 27)) wx11.heap.size := by have := BdAt.here wx11 bd0 none 0 0 27; simp only [bd0] at this; exact BdZ.of this
      replace hU := keepBdZ ((Below.refl _ _).alloc (Nat.le_refl _) (.cells #[.int .i64 0, .int .i64 0, .int .i64 0, .int .i64 0, .int .i64 0, .int .i64 0, .int .i64 0, .int .i64 0, .int .i64 0, .int .i64 0, .slice none 0 0, .bool false, .int .i64 0] 27)) hU
      obtain ⟨gT, hgT⟩ : ∃ g, g = wx11.heap.size := ⟨_, rfl⟩
      have hlT : w.heap.size + 3 < gT ∧ gU < gT := by rw [hgT]; exact ⟨q0.sz, hZU⟩
      rw [← hgT] at hT
      try rw [← hgT]
      clear hgT q0
      generalize wx11.alloc (.cells #[.int .i64 0, .int .i64 0, .int .i64 0, .int .i64 0, .int .i64 0, .int .i64 0, .int .i64 0, .int .i64 0, .int .i64 0, .int .i64 0, .slice none 0 0, .bool false, .int .i64 0] 27) = wx10 at *
      refine wpAnyU_lst (l' := #[true, true, true, true, true, true, true, true, true, true, true, true, false, false]) (by kernel_rfl) ?_
      have hl2 : w.heap.size + 3 < gT ∧ w.heap.size + 3 < gU ∧ gT ≠ gU := by omega
      clear hlT hlU
      try clear hZT
      try clear hZU
      try clear hb
      revert hH
      revert hU; revert hT
      revert hl2
      revert gU; revert gT
      revert wx10
      exact hNr8.out
    exact AllReadyU.nil
  case prfr8 =>
    intro wX gT gU hl2 hT hU hH
    have hWr8 : Weaker (S3 (fun w' => Pj w g L x p1 p2 q1 q2 v1 v2 w') (fun w' => Pj w g L x p1 p2 q1 q2 v1 v2 w')) := weaker3 (fun _ q0 => q0)
    refine wpAnyU_ready (rs := [12]) (by kernel_rfl) (by simp) ?_
    refine AllReadyU.cons 1 (by kernel_rfl) (o := _) rfl (fun K hK => ?_) AllReadyU.nil
    try clear hb
    have hG := hH
    replace hG := S3o0 hG; (try dsimp only at hG); have fq0 := hG
    have HPJ := hid fq0
    have HT := hid hT
    have HU := hid hU
    obtain ⟨z0, z1, z2, z3, z4, z5, z6, z7, z8, z9, z10, z11, z12, y0, y1, y2, y3, y4, y5, y6, y7, y8, y9, y10, y11, y12⟩ := hT.all
    have yf := hT.free
    obtain ⟨t0, t1, t2, t3, t4, t5, t6, t7, t8, t9, t10, t11, t12, u0, u1, u2, u3, u4, u5, u6, u7, u8, u9, u10, u11, u12⟩ := hU.all
    have uf := hU.free
    have hneTU : ¬ gT = gU := hl2.2.2
    have hneUT : ¬ gU = gT := fun h => hl2.2.2 h.symm
    clear hG fq0
    go_simp
    refine hK.out _ _ ?hsr8_13 (fun hH2 => ?hrr8_13)
    case hsr8_13 => exact S3i1 (by have hh := HPJ.out.setBd hl2.1 xa.b xa.A xa.n xa.c; unfold Go.Proofs.Ytbajmekmpgfpeaa.setBd at hh; exact hh)
    clear hK K hH
    have hH := hH2
    clear hH2
    try simp only [Act.put, List.setIfInBounds_toArray, List.set_cons_zero, List.set_cons_succ]
    refine wpAnyU_ready (rs := [13]) (by kernel_rfl) (by simp) ?_
    refine AllReadyU.cons 2 (by kernel_rfl) (o := _) rfl (fun K hK => ?_) AllReadyU.nil
    go_simp
    refine hK.out _ _ ?hsr8_14 (fun hH2 => ?hrr8_14)
    case hsr8_14 => exact S3i2
    clear hK K hH
    have hH := hH2
    clear hH2
    try simp only [Act.put, List.setIfInBounds_toArray, List.set_cons_zero, List.set_cons_succ]
    refine wpAnyU_done (by kernel_rfl) ?_ _ _
    refine NoPanic.normal ?_
    obtain ⟨w5, hw5⟩ : ∃ w5, w5 = setBd (setBd wX gT xa.b xa.A xa.n xa.c) gU xb.b xb.A xb.n xb.c := ⟨_, rfl⟩
    have HE3 := hid (pj_two hl2.1 hl2.2.1 hneTU HPJ.out HT.out HU.out xa.b xb.b xa.A xb.A xa.n xb.n xa.c xb.c)
    rw [← hw5] at HE3
    unfold setBd at hw5
    have HPJ5 := hid HE3.out.1
    have HTA := hid HE3.out.2.1
    have HUB := hid HE3.out.2.2
    clear HE3 HPJ HT HU z0 z1 z2 z3 z4 z5 z6 z7 z8 z9 z10 z11 z12 y0 y1 y2 y3 y4 y5 y6 y7 y8 y9 y10 y11 y12 t0 t1 t2 t3 t4 t5 t6 t7 t8 t9 t10 t11 t12 u0 u1 u2 u3 u4 u5 u6 u7 u8 u9 u10 u11 u12 yf uf
    try clear hH
    go_upto_region 2 with fail
    rw [← hw5]
    clear hw5
    refine wp_region_noPanic ?_
    refine wp_region_U (S := (S2 (fun w' => Pj w g L x p1 p2 q1 q2 v1 v2 w' ∧ BdAt w' gT xa.b xa.A xa.n xa.c ∧ BdAt w' gU xb.b xb.A xb.n xb.c))) (T := (fun _ => 0)) (by kernel_rfl) (S2i0 ⟨HPJ5.out.drew, HTA.out.drew, HUB.out.drew⟩) (fun hH => ?_)
    have hWr4 : Weaker (S2 (fun w' => Pj w g L x p1 p2 q1 q2 v1 v2 w' ∧ BdAt w' gT xa.b xa.A xa.n xa.c ∧ BdAt w' gU xb.b xb.A xb.n xb.c)) := weaker2 _
    refine U_take 0 29 9 0 0 (v := ?vr4_1) rfl (by kernel_rfl) (by kernel_rfl) hWr4 (by kernel_rfl) (by kernel_rfl) (by kernel_rfl) (by kernel_rfl) (by kernel_rfl) (by kernel_rfl) (fun _ _ _ _ h => h) (by kernel_rfl) ?hyr4_1 (by omega) hH ?_
    case hyr4_1 => (intro w' hSw; replace hSw := S2o0 hSw; (try dsimp only at hSw); have q0 := hSw.1; have q1 := hSw.2.1; have q2 := hSw.2.2; obtain ⟨qa0_0, qa0_1, qa0_2, qa0_3, qa0_4, qa0_5, qa0_6⟩ := (q0).j; have d0_0 := (q0).p.1; have d0_1 := (q0).p.2; have e0_0 := (q0).q.1; have e0_1 := (q0).q.2; have f0_0 := (q0).v.1; have f0_1 := (q0).v.2; obtain ⟨b0_0, b0_1, b0_2, b0_3, b0_4, b0_5, b0_6, b0_7, b0_8, b0_9, b0_10, b0_11, b0_12⟩ := cells_b0 (q0).bl.cl hka HXA.out; obtain ⟨c0_0, c0_1, c0_2, c0_3, c0_4, c0_5, c0_6, c0_7, c0_8, c0_9, c0_10, c0_11, c0_12⟩ := cells_b0 (q0).bl.cl hkb HXB.out; obtain ⟨qa1_0, qa1_1, qa1_2, qa1_3, qa1_4, qa1_5, qa1_6, qa1_7, qa1_8, qa1_9, qa1_10, qa1_11, qa1_12, qa1_f⟩ := id q1; obtain ⟨qa2_0, qa2_1, qa2_2, qa2_3, qa2_4, qa2_5, qa2_6, qa2_7, qa2_8, qa2_9, qa2_10, qa2_11, qa2_12, qa2_f⟩ := id q2; go_simp; try (with_reducible rfl))
    simp only [List.set_cons_zero, List.set_cons_succ]
    refine U_take 1 30 8 0 0 (v := ?vr4_2) rfl (by kernel_rfl) (by kernel_rfl) hWr4 (by kernel_rfl) (by kernel_rfl) (by kernel_rfl) (by kernel_rfl) (by kernel_rfl) (by kernel_rfl) (fun _ _ _ _ h => h) (by kernel_rfl) ?hyr4_2 (by omega) hH ?_
    case hyr4_2 => (intro w' hSw; replace hSw := S2o0 hSw; (try dsimp only at hSw); have q0 := hSw.1; have q1 := hSw.2.1; have q2 := hSw.2.2; obtain ⟨qa0_0, qa0_1, qa0_2, qa0_3, qa0_4, qa0_5, qa0_6⟩ := (q0).j; have d0_0 := (q0).p.1; have d0_1 := (q0).p.2; have e0_0 := (q0).q.1; have e0_1 := (q0).q.2; have f0_0 := (q0).v.1; have f0_1 := (q0).v.2; obtain ⟨b0_0, b0_1, b0_2, b0_3, b0_4, b0_5, b0_6, b0_7, b0_8, b0_9, b0_10, b0_11, b0_12⟩ := cells_b0 (q0).bl.cl hka HXA.out; obtain ⟨c0_0, c0_1, c0_2, c0_3, c0_4, c0_5, c0_6, c0_7, c0_8, c0_9, c0_10, c0_11, c0_12⟩ := cells_b0 (q0).bl.cl hkb HXB.out; obtain ⟨qa1_0, qa1_1, qa1_2, qa1_3, qa1_4, qa1_5, qa1_6, qa1_7, qa1_8, qa1_9, qa1_10, qa1_11, qa1_12, qa1_f⟩ := id q1; obtain ⟨qa2_0, qa2_1, qa2_2, qa2_3, qa2_4, qa2_5, qa2_6, qa2_7, qa2_8, qa2_9, qa2_10, qa2_11, qa2_12, qa2_f⟩ := id q2; go_simp; try (with_reducible rfl))
    simp only [List.set_cons_zero, List.set_cons_succ]
    refine U_take 2 31 7 0 0 (v := ?vr4_3) rfl (by kernel_rfl) (by kernel_rfl) hWr4 (by kernel_rfl) (by kernel_rfl) (by kernel_rfl) (by kernel_rfl) (by kernel_rfl) (by kernel_rfl) (fun _ _ _ _ h => h) (by kernel_rfl) ?hyr4_3 (by omega) hH ?_
    case hyr4_3 => (intro w' hSw; replace hSw := S2o0 hSw; (try dsimp only at hSw); have q0 := hSw.1; have q1 := hSw.2.1; have q2 := hSw.2.2; obtain ⟨qa0_0, qa0_1, qa0_2, qa0_3, qa0_4, qa0_5, qa0_6⟩ := (q0).j; have d0_0 := (q0).p.1; have d0_1 := (q0).p.2; have e0_0 := (q0).q.1; have e0_1 := (q0).q.2; have f0_0 := (q0).v.1; have f0_1 := (q0).v.2; obtain ⟨b0_0, b0_1, b0_2, b0_3, b0_4, b0_5, b0_6, b0_7, b0_8, b0_9, b0_10, b0_11, b0_12⟩ := cells_b0 (q0).bl.cl hka HXA.out; obtain ⟨c0_0, c0_1, c0_2, c0_3, c0_4, c0_5, c0_6, c0_7, c0_8, c0_9, c0_10, c0_11, c0_12⟩ := cells_b0 (q0).bl.cl hkb HXB.out; obtain ⟨qa1_0, qa1_1, qa1_2, qa1_3, qa1_4, qa1_5, qa1_6, qa1_7, qa1_8, qa1_9, qa1_10, qa1_11, qa1_12, qa1_f⟩ := id q1; obtain ⟨qa2_0, qa2_1, qa2_2, qa2_3, qa2_4, qa2_5, qa2_6, qa2_7, qa2_8, qa2_9, qa2_10, qa2_11, qa2_12, qa2_f⟩ := id q2; go_simp; try (with_reducible rfl))
    simp only [List.set_cons_zero, List.set_cons_succ]
    refine U_take 4 33 6 0 0 (v := ?vr4_4) rfl (by kernel_rfl) (by kernel_rfl) hWr4 (by kernel_rfl) (by kernel_rfl) (by kernel_rfl) (by kernel_rfl) (by kernel_rfl) (by kernel_rfl) (fun _ _ _ _ h => h) (by kernel_rfl) ?hyr4_4 (by omega) hH ?_
    case hyr4_4 => (intro w' hSw; replace hSw := S2o0 hSw; (try dsimp only at hSw); have q0 := hSw.1; have q1 := hSw.2.1; have q2 := hSw.2.2; obtain ⟨qa0_0, qa0_1, qa0_2, qa0_3, qa0_4, qa0_5, qa0_6⟩ := (q0).j; have d0_0 := (q0).p.1; have d0_1 := (q0).p.2; have e0_0 := (q0).q.1; have e0_1 := (q0).q.2; have f0_0 := (q0).v.1; have f0_1 := (q0).v.2; obtain ⟨b0_0, b0_1, b0_2, b0_3, b0_4, b0_5, b0_6, b0_7, b0_8, b0_9, b0_10, b0_11, b0_12⟩ := cells_b0 (q0).bl.cl hka HXA.out; obtain ⟨c0_0, c0_1, c0_2, c0_3, c0_4, c0_5, c0_6, c0_7, c0_8, c0_9, c0_10, c0_11, c0_12⟩ := cells_b0 (q0).bl.cl hkb HXB.out; obtain ⟨qa1_0, qa1_1, qa1_2, qa1_3, qa1_4, qa1_5, qa1_6, qa1_7, qa1_8, qa1_9, qa1_10, qa1_11, qa1_12, qa1_f⟩ := id q1; obtain ⟨qa2_0, qa2_1, qa2_2, qa2_3, qa2_4, qa2_5, qa2_6, qa2_7, qa2_8, qa2_9, qa2_10, qa2_11, qa2_12, qa2_f⟩ := id q2; go_simp; try (with_reducible rfl))
    simp only [List.set_cons_zero, List.set_cons_succ]
    refine U_take 5 34 5 0 0 (v := ?vr4_5) rfl (by kernel_rfl) (by kernel_rfl) hWr4 (by kernel_rfl) (by kernel_rfl) (by kernel_rfl) (by kernel_rfl) (by kernel_rfl) (by kernel_rfl) (fun _ _ _ _ h => h) (by kernel_rfl) ?hyr4_5 (by omega) hH ?_
    case hyr4_5 => (intro w' hSw; replace hSw := S2o0 hSw; (try dsimp only at hSw); have q0 := hSw.1; have q1 := hSw.2.1; have q2 := hSw.2.2; obtain ⟨qa0_0, qa0_1, qa0_2, qa0_3, qa0_4, qa0_5, qa0_6⟩ := (q0).j; have d0_0 := (q0).p.1; have d0_1 := (q0).p.2; have e0_0 := (q0).q.1; have e0_1 := (q0).q.2; have f0_0 := (q0).v.1; have f0_1 := (q0).v.2; obtain ⟨b0_0, b0_1, b0_2, b0_3, b0_4, b0_5, b0_6, b0_7, b0_8, b0_9, b0_10, b0_11, b0_12⟩ := cells_b0 (q0).bl.cl hka HXA.out; obtain ⟨c0_0, c0_1, c0_2, c0_3, c0_4, c0_5, c0_6, c0_7, c0_8, c0_9, c0_10, c0_11, c0_12⟩ := cells_b0 (q0).bl.cl hkb HXB.out; obtain ⟨qa1_0, qa1_1, qa1_2, qa1_3, qa1_4, qa1_5, qa1_6, qa1_7, qa1_8, qa1_9, qa1_10, qa1_11, qa1_12, qa1_f⟩ := id q1; obtain ⟨qa2_0, qa2_1, qa2_2, qa2_3, qa2_4, qa2_5, qa2_6, qa2_7, qa2_8, qa2_9, qa2_10, qa2_11, qa2_12, qa2_f⟩ := id q2; go_simp; try (with_reducible rfl))
    simp only [List.set_cons_zero, List.set_cons_succ]
    refine U_take 6 35 4 0 0 (v := ?vr4_6) rfl (by kernel_rfl) (by kernel_rfl) hWr4 (by kernel_rfl) (by kernel_rfl) (by kernel_rfl) (by kernel_rfl) (by kernel_rfl) (by kernel_rfl) (fun _ _ _ _ h => h) (by kernel_rfl) ?hyr4_6 (by omega) hH ?_
    case hyr4_6 => (intro w' hSw; replace hSw := S2o0 hSw; (try dsimp only at hSw); have q0 := hSw.1; have q1 := hSw.2.1; have q2 := hSw.2.2; obtain ⟨qa0_0, qa0_1, qa0_2, qa0_3, qa0_4, qa0_5, qa0_6⟩ := (q0).j; have d0_0 := (q0).p.1; have d0_1 := (q0).p.2; have e0_0 := (q0).q.1; have e0_1 := (q0).q.2; have f0_0 := (q0).v.1; have f0_1 := (q0).v.2; obtain ⟨b0_0, b0_1, b0_2, b0_3, b0_4, b0_5, b0_6, b0_7, b0_8, b0_9, b0_10, b0_11, b0_12⟩ := cells_b0 (q0).bl.cl hka HXA.out; obtain ⟨c0_0, c0_1, c0_2, c0_3, c0_4, c0_5, c0_6, c0_7, c0_8, c0_9, c0_10, c0_11, c0_12⟩ := cells_b0 (q0).bl.cl hkb HXB.out; obtain ⟨qa1_0, qa1_1, qa1_2, qa1_3, qa1_4, qa1_5, qa1_6, qa1_7, qa1_8, qa1_9, qa1_10, qa1_11, qa1_12, qa1_f⟩ := id q1; obtain ⟨qa2_0, qa2_1, qa2_2, qa2_3, qa2_4, qa2_5, qa2_6, qa2_7, qa2_8, qa2_9, qa2_10, qa2_11, qa2_12, qa2_f⟩ := id q2; go_simp; try (with_reducible rfl))
    simp only [List.set_cons_zero, List.set_cons_succ]
    refine wpAnyU_ready (rs := [3]) (by kernel_rfl) (by simp) ?_
    refine AllReadyU.cons 0 (by kernel_rfl) (o := _) rfl (fun K hK => ?_) AllReadyU.nil
    try clear hb
    have hG := hH
    replace hG := S2o0 hG; (try dsimp only at hG); have fq0 := hG.1; have fq1 := hG.2.1; have fq2 := hG.2.2
    go_simp
    (go_at_call 69; refine (HEA.out _ fq0.bel).mono ?_; rintro e wn ⟨rfl, hb⟩)
    refine hK.out _ _ ?hsr4_7 (fun hH2 => ?hrr4_7)
    case hsr4_7 => exact S2i0 (by have hG := hH; replace hG := S2o0 hG; (try dsimp only at hG); have q0 := hG.1; have q1 := hG.2.1; have q2 := hG.2.2; exact ⟨keepPj hb q0, keepBd hb q1, keepBd hb q2⟩)
    clear hK K hH
    have hH := hH2
    clear hH2
    try simp only [Act.put, List.setIfInBounds_toArray, List.set_cons_zero, List.set_cons_succ]
    refine wpAnyU_ready (rs := [7]) (by kernel_rfl) (by simp) ?_
    refine AllReadyU.cons 0 (by kernel_rfl) (o := _) rfl (fun K hK => ?_) AllReadyU.nil
    try clear hb
    have hG := hH
    replace hG := S2o0 hG; (try dsimp only at hG); have fq0 := hG.1; have fq1 := hG.2.1; have fq2 := hG.2.2
    go_simp
    (go_at_call 69; refine (HEB.out _ fq0.bel).mono ?_; rintro e wn ⟨rfl, hb⟩)
    refine hK.out _ _ ?hsr4_8 (fun hH2 => ?hrr4_8)
    case hsr4_8 => exact S2i0 (by have hG := hH; replace hG := S2o0 hG; (try dsimp only at hG); have q0 := hG.1; have q1 := hG.2.1; have q2 := hG.2.2; exact ⟨keepPj hb q0, keepBd hb q1, keepBd hb q2⟩)
    clear hK K hH
    have hH := hH2
    clear hH2
    try simp only [Act.put, List.setIfInBounds_toArray, List.set_cons_zero, List.set_cons_succ]
    refine wpAnyU_ready (rs := [8]) (by kernel_rfl) (by simp) ?_
    refine AllReadyU.cons 0 (by kernel_rfl) (o := _) rfl (fun K hK => ?_) AllReadyU.nil
    try clear hb
    go_simp
    (go_at_call 45; refine (fadd_calls _ _ _).mono ?_; rw [HEZ.out]; rintro e wn ⟨rfl, hb⟩)
    refine hK.out _ _ ?hsr4_9 (fun hH2 => ?hrr4_9)
    case hsr4_9 => exact S2i0 (by have hG := hH; replace hG := S2o0 hG; (try dsimp only at hG); have q0 := hG.1; have q1 := hG.2.1; have q2 := hG.2.2; exact ⟨keepPj hb q0, keepBd hb q1, keepBd hb q2⟩)
    clear hK K hH
    have hH := hH2
    clear hH2
    try simp only [Act.put, List.setIfInBounds_toArray, List.set_cons_zero, List.set_cons_succ]
    refine U_take 9 16 0 0 0 (v := ?vr4_10) rfl (by kernel_rfl) (by kernel_rfl) hWr4 (by kernel_rfl) (by kernel_rfl) (by kernel_rfl) (by kernel_rfl) (by kernel_rfl) (by kernel_rfl) (fun _ _ _ _ h => h) (by kernel_rfl) ?hyr4_10 (by omega) hH ?_
    case hyr4_10 => (intro w' hSw; clear hSw; go_simp; try (with_reducible rfl))
    simp only [List.set_cons_zero, List.set_cons_succ]
    refine wpAnyU_done (by kernel_rfl) ?_ _ _
    refine NoPanic.normal ?_
    clear hWr4
    replace hH := S2o0 hH
    (try dsimp only at hH)
    have t0 := hH.1
    have t1 := hH.2.1
    have t2 := hH.2.2
    replace HPJ5 := hid t0
    replace HTA := hid t1
    replace HUB := hid t2
    clear t0 t1 t2
    try clear hH hb
    by_cases hz : ez = 0
    · have HB9 := hid (grown_of_below (row := some g) HPJ5.out.bel)
      have HBL9 := hid HPJ5.out.bl
      have HFI := hid (HFIZ.out hz)
      clear HPJ5 HTA HUB
      go_wp2
      refine bodyPost_ret (v := .tuple #[]) (by simp [results, Try.results62, go_sem]) rfl ⟨L, rfl, HBL9.out, HFI.out, HB9.out⟩
    have hzb : (ez == 0) = false := by simp [hz]
    replace HFIN := hid (HFIN.out hz)
    clear hz HFIZ
    go_upto_region 4 with fail
    refine wp_region_noPanic ?_
    refine wp_region_U (S := (S2 (fun w' => Pj w g L x p1 p2 q1 q2 v1 v2 w' ∧ BdAt w' gT xa.b xa.A xa.n xa.c ∧ BdAt w' gU xb.b xb.A xb.n xb.c))) (T := (fun _ => 0)) (by kernel_rfl) (S2i0 ⟨HPJ5.out.drew, HTA.out.drew, HUB.out.drew⟩) (fun hH => ?_)
    have hWr5 : Weaker (S2 (fun w' => Pj w g L x p1 p2 q1 q2 v1 v2 w' ∧ BdAt w' gT xa.b xa.A xa.n xa.c ∧ BdAt w' gU xb.b xb.A xb.n xb.c)) := weaker2 _
    refine U_take 0 40 9 0 0 (v := ?vr5_1) rfl (by kernel_rfl) (by kernel_rfl) hWr5 (by kernel_rfl) (by kernel_rfl) (by kernel_rfl) (by kernel_rfl) (by kernel_rfl) (by kernel_rfl) (fun _ _ _ _ h => h) (by kernel_rfl) ?hyr5_1 (by omega) hH ?_
    case hyr5_1 => (intro w' hSw; replace hSw := S2o0 hSw; (try dsimp only at hSw); have q0 := hSw.1; have q1 := hSw.2.1; have q2 := hSw.2.2; obtain ⟨qa0_0, qa0_1, qa0_2, qa0_3, qa0_4, qa0_5, qa0_6⟩ := (q0).j; have d0_0 := (q0).p.1; have d0_1 := (q0).p.2; have e0_0 := (q0).q.1; have e0_1 := (q0).q.2; have f0_0 := (q0).v.1; have f0_1 := (q0).v.2; obtain ⟨b0_0, b0_1, b0_2, b0_3, b0_4, b0_5, b0_6, b0_7, b0_8, b0_9, b0_10, b0_11, b0_12⟩ := cells_b0 (q0).bl.cl hka HXA.out; obtain ⟨c0_0, c0_1, c0_2, c0_3, c0_4, c0_5, c0_6, c0_7, c0_8, c0_9, c0_10, c0_11, c0_12⟩ := cells_b0 (q0).bl.cl hkb HXB.out; obtain ⟨qa1_0, qa1_1, qa1_2, qa1_3, qa1_4, qa1_5, qa1_6, qa1_7, qa1_8, qa1_9, qa1_10, qa1_11, qa1_12, qa1_f⟩ := id q1; obtain ⟨qa2_0, qa2_1, qa2_2, qa2_3, qa2_4, qa2_5, qa2_6, qa2_7, qa2_8, qa2_9, qa2_10, qa2_11, qa2_12, qa2_f⟩ := id q2; go_simp; try (with_reducible rfl))
    simp only [List.set_cons_zero, List.set_cons_succ]
    refine U_take 1 41 8 0 0 (v := ?vr5_2) rfl (by kernel_rfl) (by kernel_rfl) hWr5 (by kernel_rfl) (by kernel_rfl) (by kernel_rfl) (by kernel_rfl) (by kernel_rfl) (by kernel_rfl) (fun _ _ _ _ h => h) (by kernel_rfl) ?hyr5_2 (by omega) hH ?_
    case hyr5_2 => (intro w' hSw; replace hSw := S2o0 hSw; (try dsimp only at hSw); have q0 := hSw.1; have q1 := hSw.2.1; have q2 := hSw.2.2; obtain ⟨qa0_0, qa0_1, qa0_2, qa0_3, qa0_4, qa0_5, qa0_6⟩ := (q0).j; have d0_0 := (q0).p.1; have d0_1 := (q0).p.2; have e0_0 := (q0).q.1; have e0_1 := (q0).q.2; have f0_0 := (q0).v.1; have f0_1 := (q0).v.2; obtain ⟨b0_0, b0_1, b0_2, b0_3, b0_4, b0_5, b0_6, b0_7, b0_8, b0_9, b0_10, b0_11, b0_12⟩ := cells_b0 (q0).bl.cl hka HXA.out; obtain ⟨c0_0, c0_1, c0_2, c0_3, c0_4, c0_5, c0_6, c0_7, c0_8, c0_9, c0_10, c0_11, c0_12⟩ := cells_b0 (q0).bl.cl hkb HXB.out; obtain ⟨qa1_0, qa1_1, qa1_2, qa1_3, qa1_4, qa1_5, qa1_6, qa1_7, qa1_8, qa1_9, qa1_10, qa1_11, qa1_12, qa1_f⟩ := id q1; obtain ⟨qa2_0, qa2_1, qa2_2, qa2_3, qa2_4, qa2_5, qa2_6, qa2_7, qa2_8, qa2_9, qa2_10, qa2_11, qa2_12, qa2_f⟩ := id q2; go_simp; try (with_reducible rfl))
    simp only [List.set_cons_zero, List.set_cons_succ]
    refine U_take 3 43 7 0 0 (v := ?vr5_3) rfl (by kernel_rfl) (by kernel_rfl) hWr5 (by kernel_rfl) (by kernel_rfl) (by kernel_rfl) (by kernel_rfl) (by kernel_rfl) (by kernel_rfl) (fun _ _ _ _ h => h) (by kernel_rfl) ?hyr5_3 (by omega) hH ?_
    case hyr5_3 => (intro w' hSw; replace hSw := S2o0 hSw; (try dsimp only at hSw); have q0 := hSw.1; have q1 := hSw.2.1; have q2 := hSw.2.2; obtain ⟨qa0_0, qa0_1, qa0_2, qa0_3, qa0_4, qa0_5, qa0_6⟩ := (q0).j; have d0_0 := (q0).p.1; have d0_1 := (q0).p.2; have e0_0 := (q0).q.1; have e0_1 := (q0).q.2; have f0_0 := (q0).v.1; have f0_1 := (q0).v.2; obtain ⟨b0_0, b0_1, b0_2, b0_3, b0_4, b0_5, b0_6, b0_7, b0_8, b0_9, b0_10, b0_11, b0_12⟩ := cells_b0 (q0).bl.cl hka HXA.out; obtain ⟨c0_0, c0_1, c0_2, c0_3, c0_4, c0_5, c0_6, c0_7, c0_8, c0_9, c0_10, c0_11, c0_12⟩ := cells_b0 (q0).bl.cl hkb HXB.out; obtain ⟨qa1_0, qa1_1, qa1_2, qa1_3, qa1_4, qa1_5, qa1_6, qa1_7, qa1_8, qa1_9, qa1_10, qa1_11, qa1_12, qa1_f⟩ := id q1; obtain ⟨qa2_0, qa2_1, qa2_2, qa2_3, qa2_4, qa2_5, qa2_6, qa2_7, qa2_8, qa2_9, qa2_10, qa2_11, qa2_12, qa2_f⟩ := id q2; go_simp; try (with_reducible rfl))
    simp only [List.set_cons_zero, List.set_cons_succ]
    refine U_take 4 44 6 0 0 (v := ?vr5_4) rfl (by kernel_rfl) (by kernel_rfl) hWr5 (by kernel_rfl) (by kernel_rfl) (by kernel_rfl) (by kernel_rfl) (by kernel_rfl) (by kernel_rfl) (fun _ _ _ _ h => h) (by kernel_rfl) ?hyr5_4 (by omega) hH ?_
    case hyr5_4 => (intro w' hSw; replace hSw := S2o0 hSw; (try dsimp only at hSw); have q0 := hSw.1; have q1 := hSw.2.1; have q2 := hSw.2.2; obtain ⟨qa0_0, qa0_1, qa0_2, qa0_3, qa0_4, qa0_5, qa0_6⟩ := (q0).j; have d0_0 := (q0).p.1; have d0_1 := (q0).p.2; have e0_0 := (q0).q.1; have e0_1 := (q0).q.2; have f0_0 := (q0).v.1; have f0_1 := (q0).v.2; obtain ⟨b0_0, b0_1, b0_2, b0_3, b0_4, b0_5, b0_6, b0_7, b0_8, b0_9, b0_10, b0_11, b0_12⟩ := cells_b0 (q0).bl.cl hka HXA.out; obtain ⟨c0_0, c0_1, c0_2, c0_3, c0_4, c0_5, c0_6, c0_7, c0_8, c0_9, c0_10, c0_11, c0_12⟩ := cells_b0 (q0).bl.cl hkb HXB.out; obtain ⟨qa1_0, qa1_1, qa1_2, qa1_3, qa1_4, qa1_5, qa1_6, qa1_7, qa1_8, qa1_9, qa1_10, qa1_11, qa1_12, qa1_f⟩ := id q1; obtain ⟨qa2_0, qa2_1, qa2_2, qa2_3, qa2_4, qa2_5, qa2_6, qa2_7, qa2_8, qa2_9, qa2_10, qa2_11, qa2_12, qa2_f⟩ := id q2; go_simp; try (with_reducible rfl))
    simp only [List.set_cons_zero, List.set_cons_succ]
    refine U_take 7 47 5 0 0 (v := ?vr5_5) rfl (by kernel_rfl) (by kernel_rfl) hWr5 (by kernel_rfl) (by kernel_rfl) (by kernel_rfl) (by kernel_rfl) (by kernel_rfl) (by kernel_rfl) (fun _ _ _ _ h => h) (by kernel_rfl) ?hyr5_5 (by omega) hH ?_
    case hyr5_5 => (intro w' hSw; replace hSw := S2o0 hSw; (try dsimp only at hSw); have q0 := hSw.1; have q1 := hSw.2.1; have q2 := hSw.2.2; obtain ⟨qa0_0, qa0_1, qa0_2, qa0_3, qa0_4, qa0_5, qa0_6⟩ := (q0).j; have d0_0 := (q0).p.1; have d0_1 := (q0).p.2; have e0_0 := (q0).q.1; have e0_1 := (q0).q.2; have f0_0 := (q0).v.1; have f0_1 := (q0).v.2; obtain ⟨b0_0, b0_1, b0_2, b0_3, b0_4, b0_5, b0_6, b0_7, b0_8, b0_9, b0_10, b0_11, b0_12⟩ := cells_b0 (q0).bl.cl hka HXA.out; obtain ⟨c0_0, c0_1, c0_2, c0_3, c0_4, c0_5, c0_6, c0_7, c0_8, c0_9, c0_10, c0_11, c0_12⟩ := cells_b0 (q0).bl.cl hkb HXB.out; obtain ⟨qa1_0, qa1_1, qa1_2, qa1_3, qa1_4, qa1_5, qa1_6, qa1_7, qa1_8, qa1_9, qa1_10, qa1_11, qa1_12, qa1_f⟩ := id q1; obtain ⟨qa2_0, qa2_1, qa2_2, qa2_3, qa2_4, qa2_5, qa2_6, qa2_7, qa2_8, qa2_9, qa2_10, qa2_11, qa2_12, qa2_f⟩ := id q2; go_simp; try (with_reducible rfl))
    simp only [List.set_cons_zero, List.set_cons_succ]
    refine wpAnyU_ready (rs := [2]) (by kernel_rfl) (by simp) ?_
    refine AllReadyU.cons 0 (by kernel_rfl) (o := _) rfl (fun K hK => ?_) AllReadyU.nil
    try clear hb
    have hG := hH
    replace hG := S2o0 hG; (try dsimp only at hG); have fq0 := hG.1; have fq1 := hG.2.1; have fq2 := hG.2.2
    go_simp
    (go_at_call 12; refine (HVB.out _ fq0.bel).mono ?_; rintro e wn ⟨rfl, hb⟩)
    refine hK.out _ _ ?hsr5_6 (fun hH2 => ?hrr5_6)
    case hsr5_6 => exact S2i0 (by have hG := hH; replace hG := S2o0 hG; (try dsimp only at hG); have q0 := hG.1; have q1 := hG.2.1; have q2 := hG.2.2; exact ⟨keepPj hb q0, keepBd hb q1, keepBd hb q2⟩)
    clear hK K hH
    have hH := hH2
    clear hH2
    try simp only [Act.put, List.setIfInBounds_toArray, List.set_cons_zero, List.set_cons_succ]
    refine wpAnyU_ready (rs := [5]) (by kernel_rfl) (by simp) ?_
    refine AllReadyU.cons 0 (by kernel_rfl) (o := _) rfl (fun K hK => ?_) AllReadyU.nil
    try clear hb
    have hG := hH
    replace hG := S2o0 hG; (try dsimp only at hG); have fq0 := hG.1; have fq1 := hG.2.1; have fq2 := hG.2.2
    go_simp
    (go_at_call 12; refine (HVA.out _ fq0.bel).mono ?_; rintro e wn ⟨rfl, hb⟩)
    refine hK.out _ _ ?hsr5_7 (fun hH2 => ?hrr5_7)
    case hsr5_7 => exact S2i0 (by have hG := hH; replace hG := S2o0 hG; (try dsimp only at hG); have q0 := hG.1; have q1 := hG.2.1; have q2 := hG.2.2; exact ⟨keepPj hb q0, keepBd hb q1, keepBd hb q2⟩)
    clear hK K hH
    have hH := hH2
    clear hH2
    try simp only [Act.put, List.setIfInBounds_toArray, List.set_cons_zero, List.set_cons_succ]
    refine wpAnyU_ready (rs := [6]) (by kernel_rfl) (by simp) ?_
    refine AllReadyU.cons 0 (by kernel_rfl) (o := _) rfl (fun K hK => ?_) AllReadyU.nil
    try clear hb
    go_simp
    (go_at_call 25; refine (HC6.out _).mono ?_; rintro e wn ⟨rfl, hb⟩)
    refine hK.out _ _ ?hsr5_8 (fun hH2 => ?hrr5_8)
    case hsr5_8 => exact S2i0 (by have hG := hH; replace hG := S2o0 hG; (try dsimp only at hG); have q0 := hG.1; have q1 := hG.2.1; have q2 := hG.2.2; exact ⟨keepPj hb q0, keepBd hb q1, keepBd hb q2⟩)
    clear hK K hH
    have hH := hH2
    clear hH2
    try simp only [Act.put, List.setIfInBounds_toArray, List.set_cons_zero, List.set_cons_succ]
    refine wpAnyU_ready (rs := [8]) (by kernel_rfl) (by simp) ?_
    refine AllReadyU.cons 0 (by kernel_rfl) (o := _) rfl (fun K hK => ?_) AllReadyU.nil
    try clear hb
    go_simp
    (go_at_call 71; refine (HC8.out _).mono ?_; rintro e wn ⟨rfl, hb⟩)
    refine hK.out _ _ ?hsr5_9 (fun hH2 => ?hrr5_9)
    case hsr5_9 => exact S2i0 (by have hG := hH; replace hG := S2o0 hG; (try dsimp only at hG); have q0 := hG.1; have q1 := hG.2.1; have q2 := hG.2.2; exact ⟨keepPj hb q0, keepBd hb q1, keepBd hb q2⟩)
    clear hK K hH
    have hH := hH2
    clear hH2
    try simp only [Act.put, List.setIfInBounds_toArray, List.set_cons_zero, List.set_cons_succ]
    refine U_take 9 17 0 0 0 (v := ?vr5_10) rfl (by kernel_rfl) (by kernel_rfl) hWr5 (by kernel_rfl) (by kernel_rfl) (by kernel_rfl) (by kernel_rfl) (by kernel_rfl) (by kernel_rfl) (fun _ _ _ _ h => h) (by kernel_rfl) ?hyr5_10 (by omega) hH ?_
    case hyr5_10 => (intro w' hSw; clear hSw; go_simp; try (with_reducible rfl))
    simp only [List.set_cons_zero, List.set_cons_succ]
    refine wpAnyU_done (by kernel_rfl) ?_ _ _
    refine NoPanic.normal ?_
    clear hWr5
    replace hH := S2o0 hH
    (try dsimp only at hH)
    have t0 := hH.1
    have t1 := hH.2.1
    have t2 := hH.2.2
    replace HPJ5 := hid t0
    replace HTA := hid t1
    replace HUB := hid t2
    clear t0 t1 t2
    try clear hH hb
    obtain ⟨w7, hw7⟩ : ∃ w7 : World, w7 = wn := ⟨_, rfl⟩
    rw [← hw7] at HPJ5 HTA HUB
    go_upto_region 5 with fail
    rw [← hw7]
    clear hw7
    refine (fun (hNr7 : Hid (?Tr7 : Prop)) => ?mainr7) (hid ?prfr7)
    case mainr7 =>
      refine wp_region_noPanic ?_
      refine wp_region_U (S := (S2 (fun w' => Pj w g L x p1 p2 q1 q2 v1 v2 w' ∧ BdAt w' gT xa.b xa.A xa.n xa.c ∧ BdAt w' gU xb.b xb.A xb.n xb.c))) (T := (fun j => [0, 0, 0, 0, 0, 0, 0, 0, 0, 0, 0, 0, 1].getD j 0)) (by kernel_rfl) (S2i0 ⟨HPJ5.out.drew, HTA.out.drew, HUB.out.drew⟩) (fun hH => ?_)
      have hWr7 : Weaker (S2 (fun w' => Pj w g L x p1 p2 q1 q2 v1 v2 w' ∧ BdAt w' gT xa.b xa.A xa.n xa.c ∧ BdAt w' gU xb.b xb.A xb.n xb.c)) := weaker2 _
      refine U_take 0 49 12 0 0 (v := ?vr7_1) rfl (by kernel_rfl) (by kernel_rfl) hWr7 (by kernel_rfl) (by kernel_rfl) (by kernel_rfl) (by kernel_rfl) (by kernel_rfl) (by kernel_rfl) (fun _ _ _ _ h => h) (by kernel_rfl) ?hyr7_1 (by omega) hH ?_
      case hyr7_1 => (intro w' hSw; replace hSw := S2o0 hSw; (try dsimp only at hSw); have q0 := hSw.1; have q1 := hSw.2.1; have q2 := hSw.2.2; obtain ⟨qa0_0, qa0_1, qa0_2, qa0_3, qa0_4, qa0_5, qa0_6⟩ := (q0).j; have d0_0 := (q0).p.1; have d0_1 := (q0).p.2; have e0_0 := (q0).q.1; have e0_1 := (q0).q.2; have f0_0 := (q0).v.1; have f0_1 := (q0).v.2; obtain ⟨b0_0, b0_1, b0_2, b0_3, b0_4, b0_5, b0_6, b0_7, b0_8, b0_9, b0_10, b0_11, b0_12⟩ := cells_b0 (q0).bl.cl hka HXA.out; obtain ⟨c0_0, c0_1, c0_2, c0_3, c0_4, c0_5, c0_6, c0_7, c0_8, c0_9, c0_10, c0_11, c0_12⟩ := cells_b0 (q0).bl.cl hkb HXB.out; obtain ⟨qa1_0, qa1_1, qa1_2, qa1_3, qa1_4, qa1_5, qa1_6, qa1_7, qa1_8, qa1_9, qa1_10, qa1_11, qa1_12, qa1_f⟩ := id q1; obtain ⟨qa2_0, qa2_1, qa2_2, qa2_3, qa2_4, qa2_5, qa2_6, qa2_7, qa2_8, qa2_9, qa2_10, qa2_11, qa2_12, qa2_f⟩ := id q2; go_simp; try (with_reducible rfl))
      simp only [List.set_cons_zero, List.set_cons_succ]
      refine U_take 1 50 11 0 0 (v := ?vr7_2) rfl (by kernel_rfl) (by kernel_rfl) hWr7 (by kernel_rfl) (by kernel_rfl) (by kernel_rfl) (by kernel_rfl) (by kernel_rfl) (by kernel_rfl) (fun _ _ _ _ h => h) (by kernel_rfl) ?hyr7_2 (by omega) hH ?_
      case hyr7_2 => (intro w' hSw; clear hSw; go_simp; try (with_reducible rfl))
      simp only [List.set_cons_zero, List.set_cons_succ]
      refine U_take 2 51 10 0 0 (v := ?vr7_3) rfl (by kernel_rfl) (by kernel_rfl) hWr7 (by kernel_rfl) (by kernel_rfl) (by kernel_rfl) (by kernel_rfl) (by kernel_rfl) (by kernel_rfl) (fun _ _ _ _ h => h) (by kernel_rfl) ?hyr7_3 (by omega) hH ?_
      case hyr7_3 => (intro w' hSw; clear hSw; go_simp; try (with_reducible rfl))
      simp only [List.set_cons_zero, List.set_cons_succ]
      refine U_take 3 52 9 0 0 (v := ?vr7_4) rfl (by kernel_rfl) (by kernel_rfl) hWr7 (by kernel_rfl) (by kernel_rfl) (by kernel_rfl) (by kernel_rfl) (by kernel_rfl) (by kernel_rfl) (fun _ _ _ _ h => h) (by kernel_rfl) ?hyr7_4 (by omega) hH ?_
      case hyr7_4 => (intro w' hSw; clear hSw; go_simp; try (with_reducible rfl))
      simp only [List.set_cons_zero, List.set_cons_succ]
      refine U_take 5 54 8 0 0 (v := ?vr7_5) rfl (by kernel_rfl) (by kernel_rfl) hWr7 (by kernel_rfl) (by kernel_rfl) (by kernel_rfl) (by kernel_rfl) (by kernel_rfl) (by kernel_rfl) (fun _ _ _ _ h => h) (by kernel_rfl) ?hyr7_5 (by omega) hH ?_
      case hyr7_5 => (intro w' hSw; clear hSw; go_simp; try (with_reducible rfl))
      simp only [List.set_cons_zero, List.set_cons_succ]
      refine U_take 8 57 7 0 0 (v := ?vr7_6) rfl (by kernel_rfl) (by kernel_rfl) hWr7 (by kernel_rfl) (by kernel_rfl) (by kernel_rfl) (by kernel_rfl) (by kernel_rfl) (by kernel_rfl) (fun _ _ _ _ h => h) (by kernel_rfl) ?hyr7_6 (by omega) hH ?_
      case hyr7_6 => (intro w' hSw; clear hSw; go_simp; try (with_reducible rfl))
      simp only [List.set_cons_zero, List.set_cons_succ]
      refine wpAnyU_ready (rs := [4, 11]) (by kernel_rfl) (by simp) ?_
      refine AllReadyU.cons 0 (by kernel_rfl) (o := _) rfl (fun K hK => ?_) ?_
      · try clear hb
        go_simp
        (go_at_call 43; refine (HD4.out _).mono ?_; rintro e wn ⟨rfl, hb⟩)
        refine hK.out _ _ ?hsr7_7 (fun hH2 => ?hrr7_7)
        case hsr7_7 => exact S2i0 (by have hG := hH; replace hG := S2o0 hG; (try dsimp only at hG); have q0 := hG.1; have q1 := hG.2.1; have q2 := hG.2.2; exact ⟨keepPj hb q0, keepBd hb q1, keepBd hb q2⟩)
        clear hK K hH
        have hH := hH2
        clear hH2
        try simp only [Act.put, List.setIfInBounds_toArray, List.set_cons_zero, List.set_cons_succ]
        refine wpAnyU_ready (rs := [6, 11]) (by kernel_rfl) (by simp) ?_
        refine AllReadyU.cons 0 (by kernel_rfl) (o := _) rfl (fun K hK => ?_) ?_
        · try clear hb
          go_simp
          (go_at_call 91; refine (HD6.out _).mono ?_; rintro e wn ⟨rfl, hb⟩)
          refine hK.out _ _ ?hsr7_8 (fun hH2 => ?hrr7_8)
          case hsr7_8 => exact S2i0 (by have hG := hH; replace hG := S2o0 hG; (try dsimp only at hG); have q0 := hG.1; have q1 := hG.2.1; have q2 := hG.2.2; exact ⟨keepPj hb q0, keepBd hb q1, keepBd hb q2⟩)
          clear hK K hH
          have hH := hH2
          clear hH2
          try simp only [Act.put, List.setIfInBounds_toArray, List.set_cons_zero, List.set_cons_succ]
          refine wpAnyU_ready (rs := [7, 11]) (by kernel_rfl) (by simp) ?_
          refine AllReadyU.cons 0 (by kernel_rfl) (o := _) rfl (fun K hK => ?_) ?_
          · try clear hb
            go_simp
            (go_at_call 44; refine (HD7.out _).mono ?_; rintro e wn ⟨rfl, hb⟩)
            refine hK.out _ _ ?hsr7_9 (fun hH2 => ?hrr7_9)
            case hsr7_9 => exact S2i0 (by have hG := hH; replace hG := S2o0 hG; (try dsimp only at hG); have q0 := hG.1; have q1 := hG.2.1; have q2 := hG.2.2; exact ⟨keepPj hb q0, keepBd hb q1, keepBd hb q2⟩)
            clear hK K hH
            have hH := hH2
            clear hH2
            try simp only [Act.put, List.setIfInBounds_toArray, List.set_cons_zero, List.set_cons_succ]
            refine wpAnyU_ready (rs := [9, 11]) (by kernel_rfl) (by simp) ?_
            refine AllReadyU.cons 0 (by kernel_rfl) (o := _) rfl (fun K hK => ?_) ?_
            · try clear hb
              go_simp
              (go_at_call 91; refine (HD9.out _).mono ?_; rintro e wn ⟨rfl, hb⟩)
              refine hK.out _ _ ?hsr7_10 (fun hH2 => ?hrr7_10)
              case hsr7_10 => exact S2i0 (by have hG := hH; replace hG := S2o0 hG; (try dsimp only at hG); have q0 := hG.1; have q1 := hG.2.1; have q2 := hG.2.2; exact ⟨keepPj hb q0, keepBd hb q1, keepBd hb q2⟩)
              clear hK K hH
              have hH := hH2
              clear hH2
              try simp only [Act.put, List.setIfInBounds_toArray, List.set_cons_zero, List.set_cons_succ]
              refine wpAnyU_ready (rs := [10, 11]) (by kernel_rfl) (by simp) ?_
              refine AllReadyU.cons 0 (by kernel_rfl) (o := _) rfl (fun K hK => ?_) ?_
              · try clear hb
                go_simp
                (go_at_call 40; refine (HD10.out _).mono ?_; rintro e wn ⟨rfl, hb⟩)
                refine hK.out _ _ ?hsr7_11 (fun hH2 => ?hrr7_11)
                case hsr7_11 => exact S2i0 (by have hG := hH; replace hG := S2o0 hG; (try dsimp only at hG); have q0 := hG.1; have q1 := hG.2.1; have q2 := hG.2.2; exact ⟨keepPj hb q0, keepBd hb q1, keepBd hb q2⟩)
                clear hK K hH
                have hH := hH2
                clear hH2
                try simp only [Act.put, List.setIfInBounds_toArray, List.set_cons_zero, List.set_cons_succ]
                refine wpAnyU_ready (rs := [11]) (by kernel_rfl) (by simp) ?_
                refine AllReadyU.cons 0 (by kernel_rfl) (o := _) rfl (fun K hK => ?_) AllReadyU.nil
                try clear hb
                have hG := hH
                replace hG := S2o0 hG; (try dsimp only at hG); have q0 := hG.1; have q1 := hG.2.1; have q2 := hG.2.2
                go_simp
                refine hK.out _ _ ?hsr7_12 (fun hH2 => ?hrr7_12)
                case hsr7_12 => exact S2i0 (by have hG := hH; replace hG := S2o0 hG; (try dsimp only at hG); have q0 := hG.1; have q1 := hG.2.1; have q2 := hG.2.2; exact ⟨q0.alloc _, q1.alloc _, q2.alloc _⟩)
                clear hK K hH
                have hH := hH2
                clear hH2
                try simp only [Act.put, List.setIfInBounds_toArray, List.set_cons_zero, List.set_cons_succ]
                have hJ : VZ (wn.alloc (.cells #[.int .i64 0, .int .i64 0] 24)) wn.heap.size := VZ.here wn 0 0 24
                obtain ⟨gJ, hgJ⟩ : ∃ g, g = wn.heap.size := ⟨_, rfl⟩
                have hlJ : w.heap.size + 3 < gJ ∧ gT < gJ ∧ gU < gJ := by rw [hgJ]; exact ⟨q0.sz, q1.lt, q2.lt⟩
                rw [← hgJ] at hJ
                try rw [← hgJ]
                clear hgJ q0 q1 q2
                generalize wn.alloc (.cells #[.int .i64 0, .int .i64 0] 24) = wx11 at *
                refine wpAnyU_lst (l' := #[true, true, true, true, true, true, true, true, true, true, true, true, false]) (by kernel_rfl) ?_
                have hl2 : w.heap.size + 3 < gJ ∧ gT < gJ ∧ gU < gJ := by exact hlJ
                clear hlJ
                try clear hZJ
                try clear hb
                revert hH
                revert hJ
                revert hl2
                revert gJ
                revert wx11
                exact hNr7.out
              refine AllReadyU.cons 0 (by kernel_rfl) (o := _) rfl (fun K hK => ?_) ?_
              · try clear hb
                have hG := hH
                replace hG := S2o0 hG; (try dsimp only at hG); have q0 := hG.1; have q1 := hG.2.1; have q2 := hG.2.2
                go_simp
                refine hK.out _ _ ?hsr7_14 (fun hH2 => ?hrr7_14)
                case hsr7_14 => exact S2i0 (by have hG := hH; replace hG := S2o0 hG; (try dsimp only at hG); have q0 := hG.1; have q1 := hG.2.1; have q2 := hG.2.2; exact ⟨q0.alloc _, q1.alloc _, q2.alloc _⟩)
                clear hK K hH
                have hH := hH2
                clear hH2
                try simp only [Act.put, List.setIfInBounds_toArray, List.set_cons_zero, List.set_cons_succ]
                have hJ : VZ (wn.alloc (.cells #[.int .i64 0, .int .i64 0] 24)) wn.heap.size := VZ.here wn 0 0 24
                obtain ⟨gJ, hgJ⟩ : ∃ g, g = wn.heap.size := ⟨_, rfl⟩
                have hlJ : w.heap.size + 3 < gJ ∧ gT < gJ ∧ gU < gJ := by rw [hgJ]; exact ⟨q0.sz, q1.lt, q2.lt⟩
                rw [← hgJ] at hJ
                try rw [← hgJ]
                clear hgJ q0 q1 q2
                generalize wn.alloc (.cells #[.int .i64 0, .int .i64 0] 24) = wx11 at *
                refine wpAnyU_ready (rs := [10]) (by kernel_rfl) (by simp) ?_
                refine AllReadyU.cons 0 (by kernel_rfl) (o := _) rfl (fun K hK => ?_) AllReadyU.nil
                try clear hb
                go_simp
                (go_at_call 40; refine (HD10.out _).mono ?_; rintro e wn ⟨rfl, hb⟩)
                refine hK.out _ _ ?hsr7_15 (fun hH2 => ?hrr7_15)
                case hsr7_15 => exact S2i0 (by have hG := hH; replace hG := S2o0 hG; (try dsimp only at hG); have q0 := hG.1; have q1 := hG.2.1; have q2 := hG.2.2; exact ⟨keepPj hb q0, keepBd hb q1, keepBd hb q2⟩)
                clear hK K hH
                have hH := hH2
                clear hH2
                try simp only [Act.put, List.setIfInBounds_toArray, List.set_cons_zero, List.set_cons_succ]
                replace hJ := keepVZ hb hJ
                refine wpAnyU_lst (l' := #[true, true, true, true, true, true, true, true, true, true, true, true, false]) (by kernel_rfl) ?_
                have hl2 : w.heap.size + 3 < gJ ∧ gT < gJ ∧ gU < gJ := by exact hlJ
                clear hlJ
                try clear hZJ
                try clear hb
                revert hH
                revert hJ
                revert hl2
                revert gJ
                revert wn
                exact hNr7.out
              exact AllReadyU.nil
            refine AllReadyU.cons 0 (by kernel_rfl) (o := _) rfl (fun K hK => ?_) ?_
            · try clear hb
              have hG := hH
              replace hG := S2o0 hG; (try dsimp only at hG); have q0 := hG.1; have q1 := hG.2.1; have q2 := hG.2.2
              go_simp
              refine hK.out _ _ ?hsr7_16 (fun hH2 => ?hrr7_16)
              case hsr7_16 => exact S2i0 (by have hG := hH; replace hG := S2o0 hG; (try dsimp only at hG); have q0 := hG.1; have q1 := hG.2.1; have q2 := hG.2.2; exact ⟨q0.alloc _, q1.alloc _, q2.alloc _⟩)
              clear hK K hH
              have hH := hH2
              clear hH2
              try simp only [Act.put, List.setIfInBounds_toArray, List.set_cons_zero, List.set_cons_succ]
              have hJ : VZ (wn.alloc (.cells #[.int .i64 0, .int .i64 0] 24)) wn.heap.size := VZ.here wn 0 0 24
              obtain ⟨gJ, hgJ⟩ : ∃ g, g = wn.heap.size := ⟨_, rfl⟩
              have hlJ : w.heap.size + 3 < gJ ∧ gT < gJ ∧ gU < gJ := by rw [hgJ]; exact ⟨q0.sz, q1.lt, q2.lt⟩
              rw [← hgJ] at hJ
              try rw [← hgJ]
              clear hgJ q0 q1 q2
              generalize wn.alloc (.cells #[.int .i64 0, .int .i64 0] 24) = wx11 at *
              refine wpAnyU_ready (rs := [9]) (by kernel_rfl) (by simp) ?_
              refine AllReadyU.cons 0 (by kernel_rfl) (o := _) rfl (fun K hK => ?_) AllReadyU.nil
              try clear hb
              go_simp
              (go_at_call 91; refine (HD9.out _).mono ?_; rintro e wn ⟨rfl, hb⟩)
              refine hK.out _ _ ?hsr7_17 (fun hH2 => ?hrr7_17)
              case hsr7_17 => exact S2i0 (by have hG := hH; replace hG := S2o0 hG; (try dsimp only at hG); have q0 := hG.1; have q1 := hG.2.1; have q2 := hG.2.2; exact ⟨keepPj hb q0, keepBd hb q1, keepBd hb q2⟩)
              clear hK K hH
              have hH := hH2
              clear hH2
              try simp only [Act.put, List.setIfInBounds_toArray, List.set_cons_zero, List.set_cons_succ]
              replace hJ := keepVZ hb hJ
              refine wpAnyU_ready (rs := [10]) (by kernel_rfl) (by simp) ?_
              refine AllReadyU.cons 0 (by kernel_rfl) (o := _) rfl (fun K hK => ?_) AllReadyU.nil
              try clear hb
              go_simp
              (go_at_call 40; refine (HD10.out _).mono ?_; rintro e wn ⟨rfl, hb⟩)
              refine hK.out _ _ ?hsr7_18 (fun hH2 => ?hrr7_18)
              case hsr7_18 => exact S2i0 (by have hG := hH; replace hG := S2o0 hG; (try dsimp only at hG); have q0 := hG.1; have q1 := hG.2.1; have q2 := hG.2.2; exact ⟨keepPj hb q0, keepBd hb q1, keepBd hb q2⟩)
              clear hK K hH
              have hH := hH2
              clear hH2
              try simp only [Act.put, List.setIfInBounds_toArray, List.set_cons_zero, List.set_cons_succ]
              replace hJ := keepVZ hb hJ
              refine wpAnyU_lst (l' := #[true, true, true, true, true, true, true, true, true, true, true, true, false]) (by kernel_rfl) ?_
              have hl2 : w.heap.size + 3 < gJ ∧ gT < gJ ∧ gU < gJ := by exact hlJ
              clear hlJ
              try clear hZJ
              try clear hb
              revert hH
              revert hJ
              revert hl2
              revert gJ
              revert wn
              exact hNr7.out
            exact AllReadyU.nil
          refine AllReadyU.cons 0 (by kernel_rfl) (o := _) rfl (fun K hK => ?_) ?_
          · try clear hb
            have hG := hH
            replace hG := S2o0 hG; (try dsimp only at hG); have q0 := hG.1; have q1 := hG.2.1; have q2 := hG.2.2
            go_simp
            refine hK.out _ _ ?hsr7_19 (fun hH2 => ?hrr7_19)
            case hsr7_19 => exact S2i0 (by have hG := hH; replace hG := S2o0 hG; (try dsimp only at hG); have q0 := hG.1; have q1 := hG.2.1; have q2 := hG.2.2; exact ⟨q0.alloc _, q1.alloc _, q2.alloc _⟩)
            clear hK K hH
            have hH := hH2
            clear hH2
            try simp only [Act.put, List.setIfInBounds_toArray, List.set_cons_zero, List.set_cons_succ]
            have hJ : VZ (wn.alloc (.cells #[.int .i64 0, .int .i64 0] 24)) wn.heap.size := VZ.here wn 0 0 24
            obtain ⟨gJ, hgJ⟩ : ∃ g, g = wn.heap.size := ⟨_, rfl⟩
            have hlJ : w.heap.size + 3 < gJ ∧ gT < gJ ∧ gU < gJ := by rw [hgJ]; exact ⟨q0.sz, q1.lt, q2.lt⟩
            rw [← hgJ] at hJ
            try rw [← hgJ]
            clear hgJ q0 q1 q2
            generalize wn.alloc (.cells #[.int .i64 0, .int .i64 0] 24) = wx11 at *
            refine wpAnyU_ready (rs := [7]) (by kernel_rfl) (by simp) ?_
            refine AllReadyU.cons 0 (by kernel_rfl) (o := _) rfl (fun K hK => ?_) AllReadyU.nil
            try clear hb
            go_simp
            (go_at_call 44; refine (HD7.out _).mono ?_; rintro e wn ⟨rfl, hb⟩)
            refine hK.out _ _ ?hsr7_20 (fun hH2 => ?hrr7_20)
            case hsr7_20 => exact S2i0 (by have hG := hH; replace hG := S2o0 hG; (try dsimp only at hG); have q0 := hG.1; have q1 := hG.2.1; have q2 := hG.2.2; exact ⟨keepPj hb q0, keepBd hb q1, keepBd hb q2⟩)
            clear hK K hH
            have hH := hH2
            clear hH2
            try simp only [Act.put, List.setIfInBounds_toArray, List.set_cons_zero, List.set_cons_succ]
            replace hJ := keepVZ hb hJ
            refine wpAnyU_ready (rs := [9]) (by kernel_rfl) (by simp) ?_
            refine AllReadyU.cons 0 (by kernel_rfl) (o := _) rfl (fun K hK => ?_) AllReadyU.nil
            try clear hb
            go_simp
            (go_at_call 91; refine (HD9.out _).mono ?_; rintro e wn ⟨rfl, hb⟩)
            refine hK.out _ _ ?hsr7_21 (fun hH2 => ?hrr7_21)
            case hsr7_21 => exact S2i0 (by have hG := hH; replace hG := S2o0 hG; (try dsimp only at hG); have q0 := hG.1; have q1 := hG.2.1; have q2 := hG.2.2; exact ⟨keepPj hb q0, keepBd hb q1, keepBd hb q2⟩)
            clear hK K hH
            have hH := hH2
            clear hH2
            try simp only [Act.put, List.setIfInBounds_toArray, List.set_cons_zero, List.set_cons_succ]
            replace hJ := keepVZ hb hJ
            refine wpAnyU_ready (rs := [10]) (by kernel_rfl) (by simp) ?_
            refine AllReadyU.cons 0 (by kernel_rfl) (o := _) rfl (fun K hK => ?_) AllReadyU.nil
            try clear hb
            go_simp
            (go_at_call 40; refine (HD10.out _).mono ?_; rintro e wn ⟨rfl, hb⟩)
            refine hK.out _ _ ?hsr7_22 (fun hH2 => ?hrr7_22)
            case hsr7_22 => exact S2i0 (by have hG := hH; replace hG := S2o0 hG; (try dsimp only at hG); have q0 := hG.1; have q1 := hG.2.1; have q2 := hG.2.2; exact ⟨keepPj hb q0, keepBd hb q1, keepBd hb q2⟩)
            clear hK K hH
            have hH := hH2
            clear hH2
            try simp only [Act.put, List.setIfInBounds_toArray, List.set_cons_zero, List.set_cons_succ]
            replace hJ := keepVZ hb hJ
            refine wpAnyU_lst (l' := #[true, true, true, true, true, true, true, true, true, true, true, true, false]) (by kernel_rfl) ?_
            have hl2 : w.heap.size + 3 < gJ ∧ gT < gJ ∧ gU < gJ := by exact hlJ
            clear hlJ
            try clear hZJ
            try clear hb
            revert hH
            revert hJ
            revert hl2
            revert gJ
            revert wn
            exact hNr7.out
          exact AllReadyU.nil
        refine AllReadyU.cons 0 (by kernel_rfl) (o := _) rfl (fun K hK => ?_) ?_
        · try clear hb
          have hG := hH
          replace hG := S2o0 hG; (try dsimp only at hG); have q0 := hG.1; have q1 := hG.2.1; have q2 := hG.2.2
          go_simp
          refine hK.out _ _ ?hsr7_23 (fun hH2 => ?hrr7_23)
          case hsr7_23 => exact S2i0 (by have hG := hH; replace hG := S2o0 hG; (try dsimp only at hG); have q0 := hG.1; have q1 := hG.2.1; have q2 := hG.2.2; exact ⟨q0.alloc _, q1.alloc _, q2.alloc _⟩)
          clear hK K hH
          have hH := hH2
          clear hH2
          try simp only [Act.put, List.setIfInBounds_toArray, List.set_cons_zero, List.set_cons_succ]
          have hJ : VZ (wn.alloc (.cells #[.int .i64 0, .int .i64 0] 24)) wn.heap.size := VZ.here wn 0 0 24
          obtain ⟨gJ, hgJ⟩ : ∃ g, g = wn.heap.size := ⟨_, rfl⟩
          have hlJ : w.heap.size + 3 < gJ ∧ gT < gJ ∧ gU < gJ := by rw [hgJ]; exact ⟨q0.sz, q1.lt, q2.lt⟩
          rw [← hgJ] at hJ
          try rw [← hgJ]
          clear hgJ q0 q1 q2
          generalize wn.alloc (.cells #[.int .i64 0, .int .i64 0] 24) = wx11 at *
          refine wpAnyU_ready (rs := [6]) (by kernel_rfl) (by simp) ?_
          refine AllReadyU.cons 0 (by kernel_rfl) (o := _) rfl (fun K hK => ?_) AllReadyU.nil
          try clear hb
          go_simp
          (go_at_call 91; refine (HD6.out _).mono ?_; rintro e wn ⟨rfl, hb⟩)
          refine hK.out _ _ ?hsr7_24 (fun hH2 => ?hrr7_24)
          case hsr7_24 => exact S2i0 (by have hG := hH; replace hG := S2o0 hG; (try dsimp only at hG); have q0 := hG.1; have q1 := hG.2.1; have q2 := hG.2.2; exact ⟨keepPj hb q0, keepBd hb q1, keepBd hb q2⟩)
          clear hK K hH
          have hH := hH2
          clear hH2
          try simp only [Act.put, List.setIfInBounds_toArray, List.set_cons_zero, List.set_cons_succ]
          replace hJ := keepVZ hb hJ
          refine wpAnyU_ready (rs := [7]) (by kernel_rfl) (by simp) ?_
          refine AllReadyU.cons 0 (by kernel_rfl) (o := _) rfl (fun K hK => ?_) AllReadyU.nil
          try clear hb
          go_simp
          (go_at_call 44; refine (HD7.out _).mono ?_; rintro e wn ⟨rfl, hb⟩)
          refine hK.out _ _ ?hsr7_25 (fun hH2 => ?hrr7_25)
          case hsr7_25 => exact S2i0 (by have hG := hH; replace hG := S2o0 hG; (try dsimp only at hG); have q0 := hG.1; have q1 := hG.2.1; have q2 := hG.2.2; exact ⟨keepPj hb q0, keepBd hb q1, keepBd hb q2⟩)
          clear hK K hH
          have hH := hH2
          clear hH2
          try simp only [Act.put, List.setIfInBounds_toArray, List.set_cons_zero, List.set_cons_succ]
          replace hJ := keepVZ hb hJ
          refine wpAnyU_ready (rs := [9]) (by kernel_rfl) (by simp) ?_
          refine AllReadyU.cons 0 (by kernel_rfl) (o := _) rfl (fun K hK => ?_) AllReadyU.nil
          try clear hb
          go_simp
          (go_at_call 91; refine (HD9.out _).mono ?_; rintro e wn ⟨rfl, hb⟩)
          refine hK.out _ _ ?hsr7_26 (fun hH2 => ?hrr7_26)
          case hsr7_26 => exact S2i0 (by have hG := hH; replace hG := S2o0 hG; (try dsimp only at hG); have q0 := hG.1; have q1 := hG.2.1; have q2 := hG.2.2; exact ⟨keepPj hb q0, keepBd hb q1, keepBd hb q2⟩)
          clear hK K hH
          have hH := hH2
          clear hH2
          try simp only [Act.put, List.setIfInBounds_toArray, List.set_cons_zero, List.set_cons_succ]
          replace hJ := keepVZ hb hJ
          refine wpAnyU_ready (rs := [10]) (by kernel_rfl) (by simp) ?_
          refine AllReadyU.cons 0 (by kernel_rfl) (o := _) rfl (fun K hK => ?_) AllReadyU.nil
          try clear hb
          go_simp
          (go_at_call 40; refine (HD10.out _).mono ?_; rintro e wn ⟨rfl, hb⟩)
          refine hK.out _ _ ?hsr7_27 (fun hH2 => ?hrr7_27)
          case hsr7_27 => exact S2i0 (by have hG := hH; replace hG := S2o0 hG; (try dsimp only at hG); have q0 := hG.1; have q1 := hG.2.1; have q2 := hG.2.2; exact ⟨keepPj hb q0, keepBd hb q1, keepBd hb q2⟩)
          clear hK K hH
          have hH := hH2
          clear hH2
          try simp only [Act.put, List.setIfInBounds_toArray, List.set_cons_zero, List.set_cons_succ]
          replace hJ := keepVZ hb hJ
          refine wpAnyU_lst (l' := #[true, true, true, true, true, true, true, true, true, true, true, true, false]) (by kernel_rfl) ?_
          have hl2 : w.heap.size + 3 < gJ ∧ gT < gJ ∧ gU < gJ := by exact hlJ
          clear hlJ
          try clear hZJ
          try clear hb
          revert hH
          revert hJ
          revert hl2
          revert gJ
          revert wn
          exact hNr7.out
        exact AllReadyU.nil
      refine AllReadyU.cons 0 (by kernel_rfl) (o := _) rfl (fun K hK => ?_) ?_
      · try clear hb
        have hG := hH
        replace hG := S2o0 hG; (try dsimp only at hG); have q0 := hG.1; have q1 := hG.2.1; have q2 := hG.2.2
        go_simp
        refine hK.out _ _ ?hsr7_28 (fun hH2 => ?hrr7_28)
        case hsr7_28 => exact S2i0 (by have hG := hH; replace hG := S2o0 hG; (try dsimp only at hG); have q0 := hG.1; have q1 := hG.2.1; have q2 := hG.2.2; exact ⟨q0.alloc _, q1.alloc _, q2.alloc _⟩)
        clear hK K hH
        have hH := hH2
        clear hH2
        try simp only [Act.put, List.setIfInBounds_toArray, List.set_cons_zero, List.set_cons_succ]
        have hJ : VZ ((w7.alloc (.cells #[.int .i64 0, .int .i64 0] 24)).drew) w7.heap.size := VZ.drew (VZ.here w7 0 0 24)
        obtain ⟨gJ, hgJ⟩ : ∃ g, g = w7.heap.size := ⟨_, rfl⟩
        have hlJ : w.heap.size + 3 < gJ ∧ gT < gJ ∧ gU < gJ := by rw [hgJ]; exact ⟨q0.sz, q1.lt, q2.lt⟩
        rw [← hgJ] at hJ
        try rw [← hgJ]
        clear hgJ q0 q1 q2
        generalize (w7.alloc (.cells #[.int .i64 0, .int .i64 0] 24)).drew = wx11 at *
        refine wpAnyU_ready (rs := [4]) (by kernel_rfl) (by simp) ?_
        refine AllReadyU.cons 0 (by kernel_rfl) (o := _) rfl (fun K hK => ?_) AllReadyU.nil
        try clear hb
        go_simp
        (go_at_call 43; refine (HD4.out _).mono ?_; rintro e wn ⟨rfl, hb⟩)
        refine hK.out _ _ ?hsr7_29 (fun hH2 => ?hrr7_29)
        case hsr7_29 => exact S2i0 (by have hG := hH; replace hG := S2o0 hG; (try dsimp only at hG); have q0 := hG.1; have q1 := hG.2.1; have q2 := hG.2.2; exact ⟨keepPj hb q0, keepBd hb q1, keepBd hb q2⟩)
        clear hK K hH
        have hH := hH2
        clear hH2
        try simp only [Act.put, List.setIfInBounds_toArray, List.set_cons_zero, List.set_cons_succ]
        replace hJ := keepVZ hb hJ
        refine wpAnyU_ready (rs := [6]) (by kernel_rfl) (by simp) ?_
        refine AllReadyU.cons 0 (by kernel_rfl) (o := _) rfl (fun K hK => ?_) AllReadyU.nil
        try clear hb
        go_simp
        (go_at_call 91; refine (HD6.out _).mono ?_; rintro e wn ⟨rfl, hb⟩)
        refine hK.out _ _ ?hsr7_30 (fun hH2 => ?hrr7_30)
        case hsr7_30 => exact S2i0 (by have hG := hH; replace hG := S2o0 hG; (try dsimp only at hG); have q0 := hG.1; have q1 := hG.2.1; have q2 := hG.2.2; exact ⟨keepPj hb q0, keepBd hb q1, keepBd hb q2⟩)
        clear hK K hH
        have hH := hH2
        clear hH2
        try simp only [Act.put, List.setIfInBounds_toArray, List.set_cons_zero, List.set_cons_succ]
        replace hJ := keepVZ hb hJ
        refine wpAnyU_ready (rs := [7]) (by kernel_rfl) (by simp) ?_
        refine AllReadyU.cons 0 (by kernel_rfl) (o := _) rfl (fun K hK => ?_) AllReadyU.nil
        try clear hb
        go_simp
        (go_at_call 44; refine (HD7.out _).mono ?_; rintro e wn ⟨rfl, hb⟩)
        refine hK.out _ _ ?hsr7_31 (fun hH2 => ?hrr7_31)
        case hsr7_31 => exact S2i0 (by have hG := hH; replace hG := S2o0 hG; (try dsimp only at hG); have q0 := hG.1; have q1 := hG.2.1; have q2 := hG.2.2; exact ⟨keepPj hb q0, keepBd hb q1, keepBd hb q2⟩)
        clear hK K hH
        have hH := hH2
        clear hH2
        try simp only [Act.put, List.setIfInBounds_toArray, List.set_cons_zero, List.set_cons_succ]
        replace hJ := keepVZ hb hJ
        refine wpAnyU_ready (rs := [9]) (by kernel_rfl) (by simp) ?_
        refine AllReadyU.cons 0 (by kernel_rfl) (o := _) rfl (fun K hK => ?_) AllReadyU.nil
        try clear hb
        go_simp
        (go_at_call 91; refine (HD9.out _).mono ?_; rintro e wn ⟨rfl, hb⟩)
        refine hK.out _ _ ?hsr7_32 (fun hH2 => ?hrr7_32)
        case hsr7_32 => exact S2i0 (by have hG := hH; replace hG := S2o0 hG; (try dsimp only at hG); have q0 := hG.1; have q1 := hG.2.1; have q2 := hG.2.2; exact ⟨keepPj hb q0, keepBd hb q1, keepBd hb q2⟩)
        clear hK K hH
        have hH := hH2
        clear hH2
        try simp only [Act.put, List.setIfInBounds_toArray, List.set_cons_zero, List.set_cons_succ]
        replace hJ := keepVZ hb hJ
        refine wpAnyU_ready (rs := [10]) (by kernel_rfl) (by simp) ?_
        refine AllReadyU.cons 0 (by kernel_rfl) (o := _) rfl (fun K hK => ?_) AllReadyU.nil
        try clear hb
        go_simp
        (go_at_call 40; refine (HD10.out _).mono ?_; rintro e wn ⟨rfl, hb⟩)
        refine hK.out _ _ ?hsr7_33 (fun hH2 => ?hrr7_33)
        case hsr7_33 => exact S2i0 (by have hG := hH; replace hG := S2o0 hG; (try dsimp only at hG); have q0 := hG.1; have q1 := hG.2.1; have q2 := hG.2.2; exact ⟨keepPj hb q0, keepBd hb q1, keepBd hb q2⟩)
        clear hK K hH
        have hH := hH2
        clear hH2
        try simp only [Act.put, List.setIfInBounds_toArray, List.set_cons_zero, List.set_cons_succ]
        replace hJ := keepVZ hb hJ
        refine wpAnyU_lst (l' := #[true, true, true, true, true, true, true, true, true, true, true, true, false]) (by kernel_rfl) ?_
        have hl2 : w.heap.size + 3 < gJ ∧ gT < gJ ∧ gU < gJ := by exact hlJ
        clear hlJ
        try clear hZJ
        try clear hb
        revert hH
        revert hJ
        revert hl2
        revert gJ
        revert wn
        exact hNr7.out
      exact AllReadyU.nil
    case prfr7 =>
      intro wX gJ hl2 hJ hH
      have hWr7 : Weaker (S2 (fun w' => Pj w g L x p1 p2 q1 q2 v1 v2 w' ∧ BdAt w' gT xa.b xa.A xa.n xa.c ∧ BdAt w' gU xb.b xb.A xb.n xb.c)) := weaker2 _
      refine wpAnyU_ready (rs := [12]) (by kernel_rfl) (by simp) ?_
      refine AllReadyU.cons 1 (by kernel_rfl) (o := _) rfl (fun K hK => ?_) AllReadyU.nil
      try clear hb
      have hG := hH
      replace hG := S2o0 hG; (try dsimp only at hG); have fq0 := hG.1; have fq1 := hG.2.1; have fq2 := hG.2.2
      have HPJ := hid fq0
      have HT := hid fq1
      have HU := hid fq2
      have HJ := hid hJ
      obtain ⟨⟨vv0, vv1, y0, y1⟩, yf⟩ := hJ
      clear hG fq0 fq1 fq2
      go_simp
      refine hK.out _ _ ?hsr7_13 (fun hH2 => ?hrr7_13)
      case hsr7_13 => exact S2i1
      clear hK K hH
      have hH := hH2
      clear hH2
      try simp only [Act.put, List.setIfInBounds_toArray, List.set_cons_zero, List.set_cons_succ]
      refine wpAnyU_done (by kernel_rfl) ?_ _ _
      refine NoPanic.normal ?_
      obtain ⟨w9, hw9⟩ : ∃ w9, w9 = (wX.setCell ⟨gJ, 0, none⟩ (.int .i64 j1)).setCell ⟨gJ, 1, none⟩ (.int .i64 j2) := ⟨_, rfl⟩
      have HPJ7 := hid ((HPJ.out.set (o := 0) (v := .int .i64 j1) hl2.1).set (o := 1) (v := .int .i64 j2) hl2.1)
      have HTA := hid ((HT.out.offJ (o := 0) (v := .int .i64 j1) (Nat.ne_of_gt hl2.2.1)).offJ (o := 1) (v := .int .i64 j2) (Nat.ne_of_gt hl2.2.1))
      have HUB := hid ((HU.out.offJ (o := 0) (v := .int .i64 j1) (Nat.ne_of_gt hl2.2.2)).offJ (o := 1) (v := .int .i64 j2) (Nat.ne_of_gt hl2.2.2))
      have HJ0 : Hid (w9.cell? ⟨gJ, 0, none⟩ = some (.int .i64 j1)) := by show _ = _; rw [hw9]; go_simp
      have HJ1 : Hid (w9.cell? ⟨gJ, 1, none⟩ = some (.int .i64 j2)) := by show _ = _; rw [hw9]; go_simp
      rw [← hw9] at HPJ7 HTA HUB
      clear HPJ HT HU HJ y0 y1 yf
      try clear hH
      go_upto_region 6 with fail
      rw [← hw9]
      clear hw9
      refine wp_region_noPanic ?_
      refine wp_region_U (S := (S3 (fun w' => Pj w g L x p1 p2 q1 q2 v1 v2 w' ∧ BdAt w' gT xa.b xa.A xa.n xa.c ∧ BdAt w' gU xb.b xb.A xb.n xb.c ∧ w'.cell? ⟨gJ, 0, none⟩ = some (.int .i64 j1) ∧ w'.cell? ⟨gJ, 1, none⟩ = some (.int .i64 j2) ∧ w'.cell? ⟨w.heap.size, 1, none⟩ = some (.int .i64 x.b)) (fun w' => w'.cell? ⟨w.heap.size, 1, none⟩ = some (.int .i64 x.b)))) (T := (fun j => [0, 0, 0, 0, 0, 0, 0, 0, 0, 0, 0, 0, 0, 0, 0, 0, 0, 0, 0, 0, 0, 1, 0, 2].getD j 0)) (by kernel_rfl) (S3i0 ⟨HPJ7.out.drew, HTA.out.drew, HUB.out.drew, HJ0.out, HJ1.out, HPJ7.out.drew.j.2.1⟩) (fun hH => ?_)
      have hWr6 : Weaker (S3 (fun w' => Pj w g L x p1 p2 q1 q2 v1 v2 w' ∧ BdAt w' gT xa.b xa.A xa.n xa.c ∧ BdAt w' gU xb.b xb.A xb.n xb.c ∧ w'.cell? ⟨gJ, 0, none⟩ = some (.int .i64 j1) ∧ w'.cell? ⟨gJ, 1, none⟩ = some (.int .i64 j2) ∧ w'.cell? ⟨w.heap.size, 1, none⟩ = some (.int .i64 x.b)) (fun w' => w'.cell? ⟨w.heap.size, 1, none⟩ = some (.int .i64 x.b))) := weaker3 (fun _ ⟨q0, q1, q2, q3, q4, q5⟩ => q5)
      refine U_take 0 60 23 0 0 (v := ?vr6_1) rfl (by kernel_rfl) (by kernel_rfl) hWr6 (by kernel_rfl) (by kernel_rfl) (by kernel_rfl) (by kernel_rfl) (by kernel_rfl) (by kernel_rfl) (fun _ _ _ _ h => h) (by kernel_rfl) ?hyr6_1 (by omega) hH ?_
      case hyr6_1 => (intro w' hSw; clear hSw; go_simp; try (with_reducible rfl))
      simp only [List.set_cons_zero, List.set_cons_succ]
      refine U_take 1 61 22 0 0 (v := ?vr6_2) rfl (by kernel_rfl) (by kernel_rfl) hWr6 (by kernel_rfl) (by kernel_rfl) (by kernel_rfl) (by kernel_rfl) (by kernel_rfl) (by kernel_rfl) (fun _ _ _ _ h => h) (by kernel_rfl) ?hyr6_2 (by omega) hH ?_
      case hyr6_2 => (intro w' hSw; clear hSw; go_simp; try (with_reducible rfl))
      simp only [List.set_cons_zero, List.set_cons_succ]
      refine U_take 2 62 21 0 0 (v := ?vr6_3) rfl (by kernel_rfl) (by kernel_rfl) hWr6 (by kernel_rfl) (by kernel_rfl) (by kernel_rfl) (by kernel_rfl) (by kernel_rfl) (by kernel_rfl) (fun _ _ _ _ h => h) (by kernel_rfl) ?hyr6_3 (by omega) hH ?_
      case hyr6_3 => (intro w' hSw; replace hSw := S3o0 hSw; (try dsimp only at hSw); have q0 := hSw.1; have q1 := hSw.2.1; have q2 := hSw.2.2.1; have q3 := hSw.2.2.2.1; have q4 := hSw.2.2.2.2.1; have q5 := hSw.2.2.2.2.2; obtain ⟨qa0_0, qa0_1, qa0_2, qa0_3, qa0_4, qa0_5, qa0_6⟩ := (q0).j; have d0_0 := (q0).p.1; have d0_1 := (q0).p.2; have e0_0 := (q0).q.1; have e0_1 := (q0).q.2; have f0_0 := (q0).v.1; have f0_1 := (q0).v.2; obtain ⟨b0_0, b0_1, b0_2, b0_3, b0_4, b0_5, b0_6, b0_7, b0_8, b0_9, b0_10, b0_11, b0_12⟩ := cells_b0 (q0).bl.cl hka HXA.out; obtain ⟨c0_0, c0_1, c0_2, c0_3, c0_4, c0_5, c0_6, c0_7, c0_8, c0_9, c0_10, c0_11, c0_12⟩ := cells_b0 (q0).bl.cl hkb HXB.out; obtain ⟨qa1_0, qa1_1, qa1_2, qa1_3, qa1_4, qa1_5, qa1_6, qa1_7, qa1_8, qa1_9, qa1_10, qa1_11, qa1_12, qa1_f⟩ := id q1; obtain ⟨qa2_0, qa2_1, qa2_2, qa2_3, qa2_4, qa2_5, qa2_6, qa2_7, qa2_8, qa2_9, qa2_10, qa2_11, qa2_12, qa2_f⟩ := id q2; go_simp; try (with_reducible rfl))
      simp only [List.set_cons_zero, List.set_cons_succ]
      refine U_take 6 66 20 0 0 (v := ?vr6_4) rfl (by kernel_rfl) (by kernel_rfl) hWr6 (by kernel_rfl) (by kernel_rfl) (by kernel_rfl) (by kernel_rfl) (by kernel_rfl) (by kernel_rfl) (fun _ _ _ _ h => h) (by kernel_rfl) ?hyr6_4 (by omega) hH ?_
      case hyr6_4 => (intro w' hSw; replace hSw := S3o0 hSw; (try dsimp only at hSw); have q0 := hSw.1; have q1 := hSw.2.1; have q2 := hSw.2.2.1; have q3 := hSw.2.2.2.1; have q4 := hSw.2.2.2.2.1; have q5 := hSw.2.2.2.2.2; obtain ⟨qa0_0, qa0_1, qa0_2, qa0_3, qa0_4, qa0_5, qa0_6⟩ := (q0).j; have d0_0 := (q0).p.1; have d0_1 := (q0).p.2; have e0_0 := (q0).q.1; have e0_1 := (q0).q.2; have f0_0 := (q0).v.1; have f0_1 := (q0).v.2; obtain ⟨b0_0, b0_1, b0_2, b0_3, b0_4, b0_5, b0_6, b0_7, b0_8, b0_9, b0_10, b0_11, b0_12⟩ := cells_b0 (q0).bl.cl hka HXA.out; obtain ⟨c0_0, c0_1, c0_2, c0_3, c0_4, c0_5, c0_6, c0_7, c0_8, c0_9, c0_10, c0_11, c0_12⟩ := cells_b0 (q0).bl.cl hkb HXB.out; obtain ⟨qa1_0, qa1_1, qa1_2, qa1_3, qa1_4, qa1_5, qa1_6, qa1_7, qa1_8, qa1_9, qa1_10, qa1_11, qa1_12, qa1_f⟩ := id q1; obtain ⟨qa2_0, qa2_1, qa2_2, qa2_3, qa2_4, qa2_5, qa2_6, qa2_7, qa2_8, qa2_9, qa2_10, qa2_11, qa2_12, qa2_f⟩ := id q2; go_simp; try (with_reducible rfl))
      simp only [List.set_cons_zero, List.set_cons_succ]
      refine U_take 7 67 19 0 0 (v := ?vr6_5) rfl (by kernel_rfl) (by kernel_rfl) hWr6 (by kernel_rfl) (by kernel_rfl) (by kernel_rfl) (by kernel_rfl) (by kernel_rfl) (by kernel_rfl) (fun _ _ _ _ h => h) (by kernel_rfl) ?hyr6_5 (by omega) hH ?_
      case hyr6_5 => (intro w' hSw; clear hSw; go_simp; try (with_reducible rfl))
      simp only [List.set_cons_zero, List.set_cons_succ]
      refine U_take 8 68 18 0 0 (v := ?vr6_6) rfl (by kernel_rfl) (by kernel_rfl) hWr6 (by kernel_rfl) (by kernel_rfl) (by kernel_rfl) (by kernel_rfl) (by kernel_rfl) (by kernel_rfl) (fun _ _ _ _ h => h) (by kernel_rfl) ?hyr6_6 (by omega) hH ?_
      case hyr6_6 => (intro w' hSw; replace hSw := S3o0 hSw; (try dsimp only at hSw); have q0 := hSw.1; have q1 := hSw.2.1; have q2 := hSw.2.2.1; have q3 := hSw.2.2.2.1; have q4 := hSw.2.2.2.2.1; have q5 := hSw.2.2.2.2.2; obtain ⟨qa0_0, qa0_1, qa0_2, qa0_3, qa0_4, qa0_5, qa0_6⟩ := (q0).j; have d0_0 := (q0).p.1; have d0_1 := (q0).p.2; have e0_0 := (q0).q.1; have e0_1 := (q0).q.2; have f0_0 := (q0).v.1; have f0_1 := (q0).v.2; obtain ⟨b0_0, b0_1, b0_2, b0_3, b0_4, b0_5, b0_6, b0_7, b0_8, b0_9, b0_10, b0_11, b0_12⟩ := cells_b0 (q0).bl.cl hka HXA.out; obtain ⟨c0_0, c0_1, c0_2, c0_3, c0_4, c0_5, c0_6, c0_7, c0_8, c0_9, c0_10, c0_11, c0_12⟩ := cells_b0 (q0).bl.cl hkb HXB.out; obtain ⟨qa1_0, qa1_1, qa1_2, qa1_3, qa1_4, qa1_5, qa1_6, qa1_7, qa1_8, qa1_9, qa1_10, qa1_11, qa1_12, qa1_f⟩ := id q1; obtain ⟨qa2_0, qa2_1, qa2_2, qa2_3, qa2_4, qa2_5, qa2_6, qa2_7, qa2_8, qa2_9, qa2_10, qa2_11, qa2_12, qa2_f⟩ := id q2; go_simp; try (with_reducible rfl))
      simp only [List.set_cons_zero, List.set_cons_succ]
      refine U_take 9 69 17 0 0 (v := ?vr6_7) rfl (by kernel_rfl) (by kernel_rfl) hWr6 (by kernel_rfl) (by kernel_rfl) (by kernel_rfl) (by kernel_rfl) (by kernel_rfl) (by kernel_rfl) (fun _ _ _ _ h => h) (by kernel_rfl) ?hyr6_7 (by omega) hH ?_
      case hyr6_7 => (intro w' hSw; clear hSw; go_simp; try (with_reducible rfl))
      simp only [List.set_cons_zero, List.set_cons_succ]
      refine U_take 10 70 16 0 0 (v := ?vr6_8) rfl (by kernel_rfl) (by kernel_rfl) hWr6 (by kernel_rfl) (by kernel_rfl) (by kernel_rfl) (by kernel_rfl) (by kernel_rfl) (by kernel_rfl) (fun _ _ _ _ h => h) (by kernel_rfl) ?hyr6_8 (by omega) hH ?_
      case hyr6_8 => (intro w' hSw; clear hSw; go_simp; try (with_reducible rfl))
      simp only [List.set_cons_zero, List.set_cons_succ]
      refine U_take 11 71 15 0 0 (v := ?vr6_9) rfl (by kernel_rfl) (by kernel_rfl) hWr6 (by kernel_rfl) (by kernel_rfl) (by kernel_rfl) (by kernel_rfl) (by kernel_rfl) (by kernel_rfl) (fun _ _ _ _ h => h) (by kernel_rfl) ?hyr6_9 (by omega) hH ?_
      case hyr6_9 => (intro w' hSw; replace hSw := S3o0 hSw; (try dsimp only at hSw); have q0 := hSw.1; have q1 := hSw.2.1; have q2 := hSw.2.2.1; have q3 := hSw.2.2.2.1; have q4 := hSw.2.2.2.2.1; have q5 := hSw.2.2.2.2.2; obtain ⟨qa0_0, qa0_1, qa0_2, qa0_3, qa0_4, qa0_5, qa0_6⟩ := (q0).j; have d0_0 := (q0).p.1; have d0_1 := (q0).p.2; have e0_0 := (q0).q.1; have e0_1 := (q0).q.2; have f0_0 := (q0).v.1; have f0_1 := (q0).v.2; obtain ⟨b0_0, b0_1, b0_2, b0_3, b0_4, b0_5, b0_6, b0_7, b0_8, b0_9, b0_10, b0_11, b0_12⟩ := cells_b0 (q0).bl.cl hka HXA.out; obtain ⟨c0_0, c0_1, c0_2, c0_3, c0_4, c0_5, c0_6, c0_7, c0_8, c0_9, c0_10, c0_11, c0_12⟩ := cells_b0 (q0).bl.cl hkb HXB.out; obtain ⟨qa1_0, qa1_1, qa1_2, qa1_3, qa1_4, qa1_5, qa1_6, qa1_7, qa1_8, qa1_9, qa1_10, qa1_11, qa1_12, qa1_f⟩ := id q1; obtain ⟨qa2_0, qa2_1, qa2_2, qa2_3, qa2_4, qa2_5, qa2_6, qa2_7, qa2_8, qa2_9, qa2_10, qa2_11, qa2_12, qa2_f⟩ := id q2; go_simp; try (with_reducible rfl))
      simp only [List.set_cons_zero, List.set_cons_succ]
      refine U_take 12 72 14 0 0 (v := ?vr6_10) rfl (by kernel_rfl) (by kernel_rfl) hWr6 (by kernel_rfl) (by kernel_rfl) (by kernel_rfl) (by kernel_rfl) (by kernel_rfl) (by kernel_rfl) (fun _ _ _ _ h => h) (by kernel_rfl) ?hyr6_10 (by omega) hH ?_
      case hyr6_10 => (intro w' hSw; clear hSw; go_simp; try (with_reducible rfl))
      simp only [List.set_cons_zero, List.set_cons_succ]
      refine U_take 13 73 13 0 0 (v := ?vr6_11) rfl (by kernel_rfl) (by kernel_rfl) hWr6 (by kernel_rfl) (by kernel_rfl) (by kernel_rfl) (by kernel_rfl) (by kernel_rfl) (by kernel_rfl) (fun _ _ _ _ h => h) (by kernel_rfl) ?hyr6_11 (by omega) hH ?_
      case hyr6_11 => (intro w' hSw; clear hSw; go_simp; try (with_reducible rfl))
      simp only [List.set_cons_zero, List.set_cons_succ]
      refine U_take 14 74 12 0 0 (v := ?vr6_12) rfl (by kernel_rfl) (by kernel_rfl) hWr6 (by kernel_rfl) (by kernel_rfl) (by kernel_rfl) (by kernel_rfl) (by kernel_rfl) (by kernel_rfl) (fun _ _ _ _ h => h) (by kernel_rfl) ?hyr6_12 (by omega) hH ?_
      case hyr6_12 => (intro w' hSw; replace hSw := S3o0 hSw; (try dsimp only at hSw); have q0 := hSw.1; have q1 := hSw.2.1; have q2 := hSw.2.2.1; have q3 := hSw.2.2.2.1; have q4 := hSw.2.2.2.2.1; have q5 := hSw.2.2.2.2.2; obtain ⟨qa0_0, qa0_1, qa0_2, qa0_3, qa0_4, qa0_5, qa0_6⟩ := (q0).j; have d0_0 := (q0).p.1; have d0_1 := (q0).p.2; have e0_0 := (q0).q.1; have e0_1 := (q0).q.2; have f0_0 := (q0).v.1; have f0_1 := (q0).v.2; obtain ⟨b0_0, b0_1, b0_2, b0_3, b0_4, b0_5, b0_6, b0_7, b0_8, b0_9, b0_10, b0_11, b0_12⟩ := cells_b0 (q0).bl.cl hka HXA.out; obtain ⟨c0_0, c0_1, c0_2, c0_3, c0_4, c0_5, c0_6, c0_7, c0_8, c0_9, c0_10, c0_11, c0_12⟩ := cells_b0 (q0).bl.cl hkb HXB.out; obtain ⟨qa1_0, qa1_1, qa1_2, qa1_3, qa1_4, qa1_5, qa1_6, qa1_7, qa1_8, qa1_9, qa1_10, qa1_11, qa1_12, qa1_f⟩ := id q1; obtain ⟨qa2_0, qa2_1, qa2_2, qa2_3, qa2_4, qa2_5, qa2_6, qa2_7, qa2_8, qa2_9, qa2_10, qa2_11, qa2_12, qa2_f⟩ := id q2; go_simp; try (with_reducible rfl))
      simp only [List.set_cons_zero, List.set_cons_succ]
      refine U_take 16 76 11 0 0 (v := ?vr6_13) rfl (by kernel_rfl) (by kernel_rfl) hWr6 (by kernel_rfl) (by kernel_rfl) (by kernel_rfl) (by kernel_rfl) (by kernel_rfl) (by kernel_rfl) (fun _ _ _ _ h => h) (by kernel_rfl) ?hyr6_13 (by omega) hH ?_
      case hyr6_13 => (intro w' hSw; replace hSw := S3o0 hSw; (try dsimp only at hSw); have q0 := hSw.1; have q1 := hSw.2.1; have q2 := hSw.2.2.1; have q3 := hSw.2.2.2.1; have q4 := hSw.2.2.2.2.1; have q5 := hSw.2.2.2.2.2; obtain ⟨qa0_0, qa0_1, qa0_2, qa0_3, qa0_4, qa0_5, qa0_6⟩ := (q0).j; have d0_0 := (q0).p.1; have d0_1 := (q0).p.2; have e0_0 := (q0).q.1; have e0_1 := (q0).q.2; have f0_0 := (q0).v.1; have f0_1 := (q0).v.2; obtain ⟨b0_0, b0_1, b0_2, b0_3, b0_4, b0_5, b0_6, b0_7, b0_8, b0_9, b0_10, b0_11, b0_12⟩ := cells_b0 (q0).bl.cl hka HXA.out; obtain ⟨c0_0, c0_1, c0_2, c0_3, c0_4, c0_5, c0_6, c0_7, c0_8, c0_9, c0_10, c0_11, c0_12⟩ := cells_b0 (q0).bl.cl hkb HXB.out; obtain ⟨qa1_0, qa1_1, qa1_2, qa1_3, qa1_4, qa1_5, qa1_6, qa1_7, qa1_8, qa1_9, qa1_10, qa1_11, qa1_12, qa1_f⟩ := id q1; obtain ⟨qa2_0, qa2_1, qa2_2, qa2_3, qa2_4, qa2_5, qa2_6, qa2_7, qa2_8, qa2_9, qa2_10, qa2_11, qa2_12, qa2_f⟩ := id q2; go_simp; try (with_reducible rfl))
      simp only [List.set_cons_zero, List.set_cons_succ]
      refine U_take 17 77 10 0 0 (v := ?vr6_14) rfl (by kernel_rfl) (by kernel_rfl) hWr6 (by kernel_rfl) (by kernel_rfl) (by kernel_rfl) (by kernel_rfl) (by kernel_rfl) (by kernel_rfl) (fun _ _ _ _ h => h) (by kernel_rfl) ?hyr6_14 (by omega) hH ?_
      case hyr6_14 => (intro w' hSw; replace hSw := S3o0 hSw; (try dsimp only at hSw); have q0 := hSw.1; have q1 := hSw.2.1; have q2 := hSw.2.2.1; have q3 := hSw.2.2.2.1; have q4 := hSw.2.2.2.2.1; have q5 := hSw.2.2.2.2.2; obtain ⟨qa0_0, qa0_1, qa0_2, qa0_3, qa0_4, qa0_5, qa0_6⟩ := (q0).j; have d0_0 := (q0).p.1; have d0_1 := (q0).p.2; have e0_0 := (q0).q.1; have e0_1 := (q0).q.2; have f0_0 := (q0).v.1; have f0_1 := (q0).v.2; obtain ⟨b0_0, b0_1, b0_2, b0_3, b0_4, b0_5, b0_6, b0_7, b0_8, b0_9, b0_10, b0_11, b0_12⟩ := cells_b0 (q0).bl.cl hka HXA.out; obtain ⟨c0_0, c0_1, c0_2, c0_3, c0_4, c0_5, c0_6, c0_7, c0_8, c0_9, c0_10, c0_11, c0_12⟩ := cells_b0 (q0).bl.cl hkb HXB.out; obtain ⟨qa1_0, qa1_1, qa1_2, qa1_3, qa1_4, qa1_5, qa1_6, qa1_7, qa1_8, qa1_9, qa1_10, qa1_11, qa1_12, qa1_f⟩ := id q1; obtain ⟨qa2_0, qa2_1, qa2_2, qa2_3, qa2_4, qa2_5, qa2_6, qa2_7, qa2_8, qa2_9, qa2_10, qa2_11, qa2_12, qa2_f⟩ := id q2; go_simp; try (with_reducible rfl))
      simp only [List.set_cons_zero, List.set_cons_succ]
      refine U_take 18 78 9 0 0 (v := ?vr6_15) rfl (by kernel_rfl) (by kernel_rfl) hWr6 (by kernel_rfl) (by kernel_rfl) (by kernel_rfl) (by kernel_rfl) (by kernel_rfl) (by kernel_rfl) (fun _ _ _ _ h => h) (by kernel_rfl) ?hyr6_15 (by omega) hH ?_
      case hyr6_15 => (intro w' hSw; replace hSw := S3o0 hSw; (try dsimp only at hSw); have q0 := hSw.1; have q1 := hSw.2.1; have q2 := hSw.2.2.1; have q3 := hSw.2.2.2.1; have q4 := hSw.2.2.2.2.1; have q5 := hSw.2.2.2.2.2; obtain ⟨qa0_0, qa0_1, qa0_2, qa0_3, qa0_4, qa0_5, qa0_6⟩ := (q0).j; have d0_0 := (q0).p.1; have d0_1 := (q0).p.2; have e0_0 := (q0).q.1; have e0_1 := (q0).q.2; have f0_0 := (q0).v.1; have f0_1 := (q0).v.2; obtain ⟨b0_0, b0_1, b0_2, b0_3, b0_4, b0_5, b0_6, b0_7, b0_8, b0_9, b0_10, b0_11, b0_12⟩ := cells_b0 (q0).bl.cl hka HXA.out; obtain ⟨c0_0, c0_1, c0_2, c0_3, c0_4, c0_5, c0_6, c0_7, c0_8, c0_9, c0_10, c0_11, c0_12⟩ := cells_b0 (q0).bl.cl hkb HXB.out; obtain ⟨qa1_0, qa1_1, qa1_2, qa1_3, qa1_4, qa1_5, qa1_6, qa1_7, qa1_8, qa1_9, qa1_10, qa1_11, qa1_12, qa1_f⟩ := id q1; obtain ⟨qa2_0, qa2_1, qa2_2, qa2_3, qa2_4, qa2_5, qa2_6, qa2_7, qa2_8, qa2_9, qa2_10, qa2_11, qa2_12, qa2_f⟩ := id q2; go_simp; try (with_reducible rfl))
      simp only [List.set_cons_zero, List.set_cons_succ]
      refine U_take 3 63 8 1 0 (v := ?vr6_16) rfl (by kernel_rfl) (by kernel_rfl) hWr6 (by kernel_rfl) (by kernel_rfl) (by kernel_rfl) (by kernel_rfl) (by kernel_rfl) (by kernel_rfl) (fun _ _ _ _ h => h) (by kernel_rfl) ?hyr6_16 (by omega) hH ?_
      case hyr6_16 => (intro w' hSw; clear hSw; go_simp; try (with_reducible rfl))
      simp only [List.set_cons_zero, List.set_cons_succ]
      refine U_take 4 64 7 1 0 (v := ?vr6_17) rfl (by kernel_rfl) (by kernel_rfl) hWr6 (by kernel_rfl) (by kernel_rfl) (by kernel_rfl) (by kernel_rfl) (by kernel_rfl) (by kernel_rfl) (fun _ _ _ _ h => h) (by kernel_rfl) ?hyr6_17 (by omega) hH ?_
      case hyr6_17 => (intro w' hSw; clear hSw; go_simp; try (with_reducible rfl))
      simp only [List.set_cons_zero, List.set_cons_succ]
      refine U_take 5 65 6 1 0 (v := ?vr6_18) rfl (by kernel_rfl) (by kernel_rfl) hWr6 (by kernel_rfl) (by kernel_rfl) (by kernel_rfl) (by kernel_rfl) (by kernel_rfl) (by kernel_rfl) (fun _ _ _ _ h => h) (by kernel_rfl) ?hyr6_18 (by omega) hH ?_
      case hyr6_18 => (intro w' hSw; replace hSw := S3o1 hSw; (try dsimp only at hSw); have q5 := hSw; go_simp; try (with_reducible rfl))
      simp only [List.set_cons_zero, List.set_cons_succ]
      refine wpAnyU_ready (rs := [15]) (by kernel_rfl) (by simp) ?_
      refine AllReadyU.cons 0 (by kernel_rfl) (o := _) rfl (fun K hK => ?_) AllReadyU.nil
      try clear hb
      have hG := hH
      replace hG := S3o0 hG; (try dsimp only at hG); have fq0 := hG.1; have fq1 := hG.2.1; have fq2 := hG.2.2.1; have fq3 := hG.2.2.2.1; have fq4 := hG.2.2.2.2.1; have fq5 := hG.2.2.2.2.2
      have HPQ := hid fq0
      clear hG fq0 fq1 fq2 fq3 fq4 fq5
      go_simp
      (go_at_call 73; refine (HPA.out _ HPQ.out.bel).mono ?_; rintro e wn ⟨AA, nA, cA, rfl, hsA, hfA, hb⟩)
      refine hK.out _ _ ?hsr6_19 (fun hH2 => ?hrr6_19)
      case hsr6_19 => exact S3i0 (by have hG := hH; replace hG := S3o0 hG; (try dsimp only at hG); have q0 := hG.1; have q1 := hG.2.1; have q2 := hG.2.2.1; have q3 := hG.2.2.2.1; have q4 := hG.2.2.2.2.1; have q5 := hG.2.2.2.2.2; exact ⟨keepPj hb q0, keepBd hb q1, keepBd hb q2, keepCell hb q3, keepCell hb q4, keepCell hb q5⟩)
      clear hK K hH
      have hH := hH2
      clear hH2
      try simp only [Act.put, List.setIfInBounds_toArray, List.set_cons_zero, List.set_cons_succ]
      have HFA : Hid (∀ bx off, AA = some ⟨bx, off, none⟩ → g < bx) := fun bx off e => by have h1 := HPQ.out.lt; have h2 := HPQ.out.bel.size; have h3 := hfA bx off e; omega
      clear hfA HPQ
      have HSA9 := hid hsA
      clear hsA
      refine wpAnyU_ready (rs := [19]) (by kernel_rfl) (by simp) ?_
      refine AllReadyU.cons 0 (by kernel_rfl) (o := _) rfl (fun K hK => ?_) AllReadyU.nil
      try clear hb
      have hG := hH
      replace hG := S3o0 hG; (try dsimp only at hG); have fq0 := hG.1; have fq1 := hG.2.1; have fq2 := hG.2.2.1; have fq3 := hG.2.2.2.1; have fq4 := hG.2.2.2.2.1; have fq5 := hG.2.2.2.2.2
      have HPQ := hid fq0
      clear hG fq0 fq1 fq2 fq3 fq4 fq5
      go_simp
      (go_at_call 73; refine (HPB.out _ HPQ.out.bel).mono ?_; rintro e wn ⟨AB, nB, cB, rfl, hsB, hfB, hb⟩)
      refine hK.out _ _ ?hsr6_20 (fun hH2 => ?hrr6_20)
      case hsr6_20 => exact S3i0 (by have hG := hH; replace hG := S3o0 hG; (try dsimp only at hG); have q0 := hG.1; have q1 := hG.2.1; have q2 := hG.2.2.1; have q3 := hG.2.2.2.1; have q4 := hG.2.2.2.2.1; have q5 := hG.2.2.2.2.2; exact ⟨keepPj hb q0, keepBd hb q1, keepBd hb q2, keepCell hb q3, keepCell hb q4, keepCell hb q5⟩)
      clear hK K hH
      have hH := hH2
      clear hH2
      try simp only [Act.put, List.setIfInBounds_toArray, List.set_cons_zero, List.set_cons_succ]
      have HFB : Hid (∀ bx off, AB = some ⟨bx, off, none⟩ → g < bx) := fun bx off e => by have h1 := HPQ.out.lt; have h2 := HPQ.out.bel.size; have h3 := hfB bx off e; omega
      clear hfB HPQ
      have HSA8 := hid (HSA9.out.below hb)
      have HSB8 := hid hsB
      clear hsB HSA9
      refine U_take 20 80 3 0 0 (v := ?vr6_21) rfl (by kernel_rfl) (by kernel_rfl) hWr6 (by kernel_rfl) (by kernel_rfl) (by kernel_rfl) (by kernel_rfl) (by kernel_rfl) (by kernel_rfl) (fun _ _ _ _ h => h) (by kernel_rfl) ?hyr6_21 (by omega) hH ?_
      case hyr6_21 => (intro w' hSw; clear hSw; go_simp; try (with_reducible rfl))
      simp only [List.set_cons_zero, List.set_cons_succ]
      refine wpAnyU_ready (rs := [21]) (by kernel_rfl) (by simp) ?_
      refine AllReadyU.cons 1 (by kernel_rfl) (o := _) rfl (fun K hK => ?_) AllReadyU.nil
      try clear hb
      have hG := hH
      replace hG := S3o0 hG; (try dsimp only at hG); have fq0 := hG.1; have fq1 := hG.2.1; have fq2 := hG.2.2.1; have fq3 := hG.2.2.2.1; have fq4 := hG.2.2.2.2.1; have fq5 := hG.2.2.2.2.2
      have HPQ := hid fq0
      have hbl := fq0.bl
      obtain ⟨c0, c1, c2, c3, c4, c5, c6, c7, c8, c9, c10, c11, c12⟩ := cells_b0 hbl.cl hka HXA.out
      have cf := hbl.free
      have HX5 := hid fq5
      clear hG fq0 fq1 fq2 fq3 fq4 fq5 hbl
      go_simp
      refine hK.out _ _ ?hsr6_22 (fun hH2 => ?hrr6_22)
      case hsr6_22 => exact S3i1 (by have hh := setBo_far (b := ya) (A := AA) (n := nA) (c := cA) (o := ka * 13) (Nat.ne_of_lt HPQ.out.lt) HX5.out; unfold setBo at hh; exact hh)
      clear hK K hH
      have hH := hH2
      clear hH2
      try simp only [Act.put, List.setIfInBounds_toArray, List.set_cons_zero, List.set_cons_succ]
      obtain ⟨w8, hw8⟩ : ∃ w8, w8 = setBo wn g (ka * 13) ya AA nA cA := ⟨_, rfl⟩
      have HBL8 := hid (HPQ.out.bl.set hka ⟨ya, AA, nA, cA, xa.l⟩ HSA8.out (fun bx off e => by have := HFA.out bx off e; omega))
      have HSB9 := hid (HSB8.out.grown (setBo_grown wn g (ka * 13) ya AA nA cA) (fun bx off e => by have := HFB.out bx off e; omega))
      have HG8 := hid (grown_trans (grown_of_below HPQ.out.bel) (setBo_grown wn g (ka * 13) ya AA nA cA))
      dsimp only at HBL8
      rw [← hw8] at HBL8 HSB9 HG8
      unfold setBo at hw8
      rw [← hw8] at hH
      rw [← hw8]
      clear hw8 c0 c1 c2 c3 c4 c5 c6 c7 c8 c9 c10 c11 c12 cf HX5 HPQ HSA8 HSB8
      refine U_take 22 81 1 1 1 (v := ?vr6_23) rfl (by kernel_rfl) (by kernel_rfl) hWr6 (by kernel_rfl) (by kernel_rfl) (by kernel_rfl) (by kernel_rfl) (by kernel_rfl) (by kernel_rfl) (fun _ _ _ _ h => h) (by kernel_rfl) ?hyr6_23 (by omega) hH ?_
      case hyr6_23 => (intro w' hSw; clear hSw; go_simp; try (with_reducible rfl))
      simp only [List.set_cons_zero, List.set_cons_succ]
      refine wpAnyU_ready (rs := [23]) (by kernel_rfl) (by simp) ?_
      refine AllReadyU.cons 2 (by kernel_rfl) (o := _) rfl (fun K hK => ?_) AllReadyU.nil
      try clear hb
      have hbl := HBL8.out
      obtain ⟨c0, c1, c2, c3, c4, c5, c6, c7, c8, c9, c10, c11, c12⟩ := cells_b0 hbl.cl (by rw [List.length_set]; exact hkb) (HXB8.out _)
      have cf := hbl.free
      clear hbl
      go_simp
      refine hK.out _ _ ?hsr6_24 (fun hH2 => ?hrr6_24)
      case hsr6_24 => exact S3i2
      clear hK K hH
      have hH := hH2
      clear hH2
      try simp only [Act.put, List.setIfInBounds_toArray, List.set_cons_zero, List.set_cons_succ]
      refine wpAnyU_done (by kernel_rfl) ?_ _ _
      refine NoPanic.normal ?_
      go_wp2
      refine bodyPost_ret (v := .tuple #[]) (by simp [results, Try.results62, go_sem]) rfl ⟨(L.set ka ⟨ya, AA, nA, cA, xa.l⟩).set kb ⟨yb, AB, nB, cB, xb.l⟩, rfl, ?_, ?_, ?_⟩
      · have hh := HBL8.out.set (by rw [List.length_set]; exact hkb) ⟨yb, AB, nB, cB, xb.l⟩ HSB9.out (fun bx off e => by have := HFB.out bx off e; omega)
        dsimp only at hh
        unfold setBo at hh
        exact hh
      · exact HFIN.out _ _ rfl rfl
      · have hh := grown_trans HG8.out (setBo_grown w8 g (kb * 13) yb AB nB cB)
        unfold setBo at hh
        exact hh
end
end Go.Proofs.Ytbajmekmpgfpeaa
