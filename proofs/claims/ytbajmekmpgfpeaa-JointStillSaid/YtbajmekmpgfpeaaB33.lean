/- Parts of a proof: contracts and laws. -/
import Derived.Test.YtbajmekmpgfpeaaB26
import Derived.Test.YtbajmekmpgfpeaaB29
import Derived.Test.YtbajmekmpgfpeaaB31
import Derived.Test.YtbajmekmpgfpeaaB32
namespace Go.Proofs.Ytbajmekmpgfpeaa
section
set_option linter.unusedVariables false
set_option linter.unusedSimpArgs false
open Go.RowKit

def bdOf (L : List BE) (i : Int) : Bd := match L[i.toNat]? with | some y => y.b | none => bd0
def endsV (L : List BE) (x : Jt) : Value := if jointsE L [x] ≠ 0 then .tuple #[vecV 0 0, vecV 0 0, .int .i64 (jointsE L [x])] else .tuple #[vecV (wX (bdOf L x.a) x.p1 x.p2) (wY (bdOf L x.a) x.p1 x.p2), vecV (wX (bdOf L x.b) x.q1 x.q2) (wY (bdOf L x.b) x.q1 x.q2), .int .i64 0]
theorem addF_comm (a b : Int) : addF a b = addF b a := by unfold addF; rw [Int.add_comm]

structure Ej (w0 : World) (bL oL : Nat) (L : List BE) (x : Jt) (w : World) : Prop where
  j : w.cell? ⟨w0.heap.size, 0, none⟩ = some (.int .i64 x.a) ∧ w.cell? ⟨w0.heap.size, 1, none⟩ = some (.int .i64 x.b) ∧ w.cell? ⟨w0.heap.size, 2, none⟩ = some (.int .i64 x.p1) ∧ w.cell? ⟨w0.heap.size, 3, none⟩ = some (.int .i64 x.p2) ∧ w.cell? ⟨w0.heap.size, 4, none⟩ = some (.int .i64 x.q1) ∧ w.cell? ⟨w0.heap.size, 5, none⟩ = some (.int .i64 x.q2) ∧ w.cell? ⟨w0.heap.size, 6, none⟩ = some (.int .i64 x.len)
  cl : CellsE layB w bL oL L
  z1 : VZ w (w0.heap.size + 1)
  z2 : VZ w (w0.heap.size + 2)
  bel : Below w0.heap.size w0 w
  lt : bL < w0.heap.size
  sz : w0.heap.size + 2 < w.heap.size
theorem keepEj {w0 : World} {bL oL : Nat} {L : List BE} {x : Jt} {w w' : World} (hb : Below w.heap.size w w') (h : Ej w0 bL oL L x w) : Ej w0 bL oL L x w' := by
  obtain ⟨h0, h1, h2, h3, h4, h5, h6⟩ := h.j
  exact ⟨⟨keepCell hb h0, keepCell hb h1, keepCell hb h2, keepCell hb h3, keepCell hb h4, keepCell hb h5, keepCell hb h6⟩, h.cl.below hb, keepVZ hb h.z1, keepVZ hb h.z2, keepBelow hb h.bel, h.lt, Nat.lt_of_lt_of_le h.sz hb.size⟩
theorem Ej.alloc {w0 : World} {bL oL : Nat} {L : List BE} {x : Jt} {w : World} (h : Ej w0 bL oL L x w) (o : Obj) : Ej w0 bL oL L x (w.alloc o) := keepEj ((Below.refl _ _).alloc (Nat.le_refl _) _) h
theorem Ej.drew {w0 : World} {bL oL : Nat} {L : List BE} {x : Jt} {w : World} (h : Ej w0 bL oL L x w) : Ej w0 bL oL L x w.drew := keepEj (Below.refl _ _).drew h
theorem Ej.set {w0 : World} {bL oL : Nat} {L : List BE} {x : Jt} {w : World} {g o : Nat} {v : Value} (h : Ej w0 bL oL L x w) (hg : w0.heap.size + 2 < g) : Ej w0 bL oL L x (w.setCell ⟨g, o, none⟩ v) := by
  obtain ⟨h0, h1, h2, h3, h4, h5, h6⟩ := h.j
  have hlt := h.lt
  have n0 : g ≠ w0.heap.size := by omega
  have n1 : g ≠ w0.heap.size + 1 := by omega
  have n2 : g ≠ w0.heap.size + 2 := by omega
  have vz : ∀ k, g ≠ k → VZ w k → VZ (w.setCell ⟨g, o, none⟩ v) k := fun k hk hz => by
    obtain ⟨⟨a, b, c, d⟩, f⟩ := hz
    exact ⟨⟨a, b, far1 hk c, far1 hk d⟩, fun j => by rw [World.frozen?_setCell]; exact f j⟩
  exact ⟨⟨far1 n0 h0, far1 n0 h1, far1 n0 h2, far1 n0 h3, far1 n0 h4, far1 n0 h5, far1 n0 h6⟩, ⟨by simp; exact h.cl.lt, fun j hj i u hu => far1 (by omega) (h.cl.at_ j hj i u hu)⟩, vz _ n1 h.z1, vz _ n2 h.z2, h.bel.setCell (p := ⟨g, o, none⟩) (by show w0.heap.size ≤ g; omega) _, h.lt, by simp; exact h.sz⟩
theorem Ej.setBd {w0 : World} {bL oL : Nat} {L : List BE} {x : Jt} {w : World} {g : Nat} (h : Ej w0 bL oL L x w) (hg : w0.heap.size + 2 < g) (b : Bd) (A : Option Addr) (n c : Nat) : Ej w0 bL oL L x (Go.Proofs.Ytbajmekmpgfpeaa.setBd w g b A n c) := by
  unfold Go.Proofs.Ytbajmekmpgfpeaa.setBd
  iterate 13 refine Ej.set ?_ hg
  exact h
theorem BdAt.offJ {w : World} {g k o : Nat} {v : Value} {b : Bd} {A : Option Addr} {n c : Nat} (h : BdAt w g b A n c) (hne : k ≠ g) : BdAt (w.setCell ⟨k, o, none⟩ v) g b A n c := by
  obtain ⟨h0, h1, h2, h3, h4, h5, h6, h7, h8, h9, h10, h11, h12, hf⟩ := h
  exact ⟨far1 hne h0, far1 hne h1, far1 hne h2, far1 hne h3, far1 hne h4, far1 hne h5, far1 hne h6, far1 hne h7, far1 hne h8, far1 hne h9, far1 hne h10, far1 hne h11, far1 hne h12, fun j => by rw [World.frozen?_setCell]; exact hf j⟩
theorem BdAt.setBd_offJ {w : World} {g k : Nat} {b : Bd} {A : Option Addr} {n c : Nat} (h : BdAt w g b A n c) (hne : k ≠ g) (b' : Bd) (A' : Option Addr) (n' c' : Nat) : BdAt (Go.Proofs.Ytbajmekmpgfpeaa.setBd w k b' A' n' c') g b A n c := by
  unfold Go.Proofs.Ytbajmekmpgfpeaa.setBd
  iterate 13 refine BdAt.offJ ?_ hne
  exact h
theorem ej_two {w0 : World} {bL oL : Nat} {L : List BE} {x : Jt} {w : World} {gT gU : Nat} (h1 : w0.heap.size + 2 < gT) (h2 : w0.heap.size + 2 < gU) (hne : ¬ gT = gU) (h : Ej w0 bL oL L x w) (hT : BdZ w gT) (hU : BdZ w gU) (b b' : Bd) (A A' : Option Addr) (n n' c c' : Nat) :
    Ej w0 bL oL L x (setBd (setBd w gT b A n c) gU b' A' n' c') ∧ BdAt (setBd (setBd w gT b A n c) gU b' A' n' c') gT b A n c ∧ BdAt (setBd (setBd w gT b A n c) gU b' A' n' c') gU b' A' n' c' :=
  ⟨(h.setBd h1 b A n c).setBd h2 b' A' n' c', BdAt.setBd_offJ (setBd_at hT b A n c) (fun e => hne e.symm) b' A' n' c', setBd_at (hU.setBd b A n c) b' A' n' c'⟩
theorem jt_one {w : World} {g : Nat} {x : Jt} (h : CellsE layJ w g 0 [x]) : SlE layJ w (some ⟨g, 0, none⟩) 1 1 [x] := ⟨rfl, Nat.le_refl _, by omega, fun _ => ⟨g, 0, rfl, h⟩⟩
set_option maxRecDepth 100000 in
set_option maxHeartbeats 8000000 in
theorem jends_calls (A : Option Addr) (n c : Nat) (L : List BE) (x : Jt) (w : World) (hS : SlB w A n c L) : Calls Try.prog 21 #[.slice A n c, jtV x] w (Ret (endsV L x) w) := by
  have hn := hS.sl.len
  have hcap := hS.sl.cap
  have hbig := hS.sl.big
  subst hn
  obtain ⟨W, hW⟩ : ∃ W, W = ((w.alloc (.cells #[.int .i64 x.a, .int .i64 x.b, .int .i64 x.p1, .int .i64 x.p2, .int .i64 x.q1, .int .i64 x.q2, .int .i64 x.len] 49)).alloc (.cells #[.int .i64 0, .int .i64 0] 24)).alloc (.cells #[.int .i64 0, .int .i64 0] 24) := ⟨_, rfl⟩
  obtain ⟨w1, hw1⟩ : ∃ w1, w1 = W.alloc (.cells #[.int .i64 x.a, .int .i64 x.b, .int .i64 x.p1, .int .i64 x.p2, .int .i64 x.q1, .int .i64 x.q2, .int .i64 x.len] 49) := ⟨_, rfl⟩
  have j0 : w1.cell? ⟨w.heap.size, 0, none⟩ = some (.int .i64 x.a) := by rw [hw1, hW]; go_simp
  have j1 : w1.cell? ⟨w.heap.size, 1, none⟩ = some (.int .i64 x.b) := by rw [hw1, hW]; go_simp
  have j2 : w1.cell? ⟨w.heap.size, 2, none⟩ = some (.int .i64 x.p1) := by rw [hw1, hW]; go_simp
  have j3 : w1.cell? ⟨w.heap.size, 3, none⟩ = some (.int .i64 x.p2) := by rw [hw1, hW]; go_simp
  have j4 : w1.cell? ⟨w.heap.size, 4, none⟩ = some (.int .i64 x.q1) := by rw [hw1, hW]; go_simp
  have j5 : w1.cell? ⟨w.heap.size, 5, none⟩ = some (.int .i64 x.q2) := by rw [hw1, hW]; go_simp
  have j6 : w1.cell? ⟨w.heap.size, 6, none⟩ = some (.int .i64 x.len) := by rw [hw1, hW]; go_simp
  have hB1 : Below w.heap.size w w1 := by rw [hw1, hW]; go_grown
  have hz1 : VZ w1 (w.heap.size + 1) := by rw [hw1, hW]; exact ⟨⟨.int .i64 0, .int .i64 0, by go_simp, by go_simp⟩, fun j => by go_simp⟩
  have hz2 : VZ w1 (w.heap.size + 2) := by rw [hw1, hW]; exact ⟨⟨.int .i64 0, .int .i64 0, by go_simp, by go_simp⟩, fun j => by go_simp⟩
  have hsz : w.heap.size + 2 < w1.heap.size := by rw [hw1, hW]; simp
  have hjo : CellsE layJ w1 (w.heap.size + 3) 0 [x] := by rw [hw1, hW]; exact cells_jt_one (by go_simp) (by go_simp) (by go_simp) (by go_simp) (by go_simp) (by go_simp) (by go_simp)
  have HS1 := hid (hS.below hB1)
  have HS0 := hid hS.sl
  have HCK := hid (jcheck_calls A (some ⟨w.heap.size + 3, 0, none⟩) L.length c 1 1 L [x] w1 HS1.out (jt_one hjo))
  clear hS hjo
  go_enter Try.func21, Try.ntmps21
  go_wp2_with fail
  rw [← hW, ← hw1]
  clear hW hw1
  refine HCK.out.mono ?_
  rintro e w3 ⟨rfl, hb⟩
  clear HCK
  by_cases hE : jointsE L [x] = 0
  case neg =>
    have HEN : Hid (endsV L x = .tuple #[vecV 0 0, vecV 0 0, .int .i64 (jointsE L [x])]) := by show _ = _; unfold endsV; rw [if_pos hE]
    have hne : (jointsE L [x] != 0) = true := by simp [hE]
    generalize jointsE L [x] = z at *
    obtain ⟨⟨v0, v1, y0, y1⟩, yf⟩ := keepVZ hb hz1
    obtain ⟨⟨v2, v3, y2, y3⟩, yf2⟩ := keepVZ hb hz2
    have hB := keepBelow hb hB1
    have hl9 := lt_of_cell y0
    have hl8 := lt_of_cell y2
    clear hb hz1 hz2 hB1 HS1 HS0 j0 j1 j2 j3 j4 j5 j6
    go_wp2
    refine bodyPost_ret (v := .tuple #[vecV 0 0, vecV 0 0, .int .i64 z]) (by simp [results, Try.results21, go_sem, y0, y1, y2, y3, hl9, hl8]) rfl ⟨by rw [HEN.out], ?_⟩
    go_grown
  obtain ⟨hbe, -, hjs⟩ := jointsE_zero hE
  obtain ⟨⟨ha0, hab, hbl⟩, -, -, -, -⟩ := jtE_zero (hjs x (by simp))
  obtain ⟨-, hval⟩ := bodiesE_zero hbe
  obtain ⟨ka, hka'⟩ : ∃ ka : Nat, x.a = ka := ⟨x.a.toNat, by omega⟩
  obtain ⟨kb, hkb'⟩ : ∃ kb : Nat, x.b = kb := ⟨x.b.toNat, by omega⟩
  have hka : ka < L.length := by omega
  have hkb : kb < L.length := by omega
  obtain ⟨xa, hxa⟩ : ∃ y, y = L[ka] := ⟨_, rfl⟩
  obtain ⟨xb, hxb⟩ : ∃ y, y = L[kb] := ⟨_, rfl⟩
  have HXA := hid hxa
  have HXB := hid hxb
  have mva := numE_zero (bodyE_zero (hval xa (by rw [hxa]; exact List.getElem_mem hka))).2
  have mvb := numE_zero (bodyE_zero (hval xb (by rw [hxb]; exact List.getElem_mem hkb))).2
  have HAA : Hid (0 ≤ xa.b.ang ∧ xa.b.ang < 4294967296) := by have := mva.2.2.2.1; show _ ∧ _; omega
  have HAB : Hid (0 ≤ xb.b.ang ∧ xb.b.ang < 4294967296) := by have := mvb.2.2.2.1; show _ ∧ _; omega
  have HWA1 : Hid (addF xa.b.px (turnX x.p1 x.p2 xa.b.ang) = wX xa.b x.p1 x.p2) := addF_comm _ _
  have HWA2 : Hid (addF xa.b.py (turnY x.p1 x.p2 xa.b.ang) = wY xa.b x.p1 x.p2) := addF_comm _ _
  have HWB1 : Hid (addF xb.b.px (turnX x.q1 x.q2 xb.b.ang) = wX xb.b x.q1 x.q2) := addF_comm _ _
  have HWB2 : Hid (addF xb.b.py (turnY x.q1 x.q2 xb.b.ang) = wY xb.b x.q1 x.q2) := addF_comm _ _
  have HEN : Hid (endsV L x = .tuple #[vecV (wX xa.b x.p1 x.p2) (wY xa.b x.p1 x.p2), vecV (wX xb.b x.q1 x.q2) (wY xb.b x.q1 x.q2), .int .i64 0]) := by
    show _ = _
    unfold endsV
    rw [if_neg (by simp [hE])]
    have e1 : bdOf L x.a = xa.b := by unfold bdOf; rw [hka', Int.toNat_natCast, List.getElem?_eq_getElem hka, hxa]
    have e2 : bdOf L x.b = xb.b := by unfold bdOf; rw [hkb', Int.toNat_natCast, List.getElem?_eq_getElem hkb, hxb]
    rw [e1, e2]
  obtain ⟨e1, he1⟩ : ∃ e, e = wX xa.b x.p1 x.p2 := ⟨_, rfl⟩
  obtain ⟨e2, he2⟩ : ∃ e, e = wY xa.b x.p1 x.p2 := ⟨_, rfl⟩
  obtain ⟨e3, he3⟩ : ∃ e, e = wX xb.b x.q1 x.q2 := ⟨_, rfl⟩
  obtain ⟨e4, he4⟩ : ∃ e, e = wY xb.b x.q1 x.q2 := ⟨_, rfl⟩
  rw [← he1, ← he2, ← he3, ← he4] at HEN
  rw [← he1] at HWA1
  rw [← he2] at HWA2
  rw [← he3] at HWB1
  rw [← he4] at HWB2
  clear he1 he2 he3 he4
  obtain ⟨bL, oL, hAe, hcl⟩ := HS0.out.at_ (by intro h; subst h; simp at hka)
  subst hAe
  have HEJ4 : Hid (Ej w bL oL L x w3) := keepEj hb ⟨⟨j0, j1, j2, j3, j4, j5, j6⟩, hcl.below hB1, hz1, hz2, hB1, hcl.lt, hsz⟩
  have hac : (ka : Int) < (L.length : Int) := by omega
  have hbc : (kb : Int) < (L.length : Int) := by omega
  rw [hE]
  clear hE hbe hjs hval mva mvb hxa hxb hcl HS1 HS0 hz1 hz2 hB1 j0 j1 j2 j3 j4 j5 j6 hsz hb
  go_upto_region 4 with fail
  refine (fun (hNr5 : Hid (?Tr5 : Prop)) => ?mainr5) (hid ?prfr5)
  case mainr5 =>
    refine wp_region_noPanic ?_
    refine wp_region_U (S := (S3 (fun w' => Ej w bL oL L x w') (fun w' => Ej w bL oL L x w'))) (T := (fun j => [0, 0, 0, 0, 0, 0, 0, 0, 0, 0, 0, 0, 1, 2].getD j 0)) (by kernel_rfl) (S3i0 HEJ4.out.drew) (fun hH => ?_)
    have hWr5 : Weaker (S3 (fun w' => Ej w bL oL L x w') (fun w' => Ej w bL oL L x w')) := weaker3 (fun _ q0 => q0)
    refine U_take 0 19 13 0 0 (v := ?vr5_1) rfl (by kernel_rfl) (by kernel_rfl) hWr5 (by kernel_rfl) (by kernel_rfl) (by kernel_rfl) (by kernel_rfl) (by kernel_rfl) (by kernel_rfl) (fun _ _ _ _ h => h) (by kernel_rfl) ?hyr5_1 (by omega) hH ?_
    case hyr5_1 => (intro w' hSw; clear hSw; go_simp; try (with_reducible rfl))
    simp only [List.set_cons_zero, List.set_cons_succ]
    refine U_take 1 20 12 0 0 (v := ?vr5_2) rfl (by kernel_rfl) (by kernel_rfl) hWr5 (by kernel_rfl) (by kernel_rfl) (by kernel_rfl) (by kernel_rfl) (by kernel_rfl) (by kernel_rfl) (fun _ _ _ _ h => h) (by kernel_rfl) ?hyr5_2 (by omega) hH ?_
    case hyr5_2 => (intro w' hSw; clear hSw; go_simp; try (with_reducible rfl))
    simp only [List.set_cons_zero, List.set_cons_succ]
    refine U_take 2 21 11 0 0 (v := ?vr5_3) rfl (by kernel_rfl) (by kernel_rfl) hWr5 (by kernel_rfl) (by kernel_rfl) (by kernel_rfl) (by kernel_rfl) (by kernel_rfl) (by kernel_rfl) (fun _ _ _ _ h => h) (by kernel_rfl) ?hyr5_3 (by omega) hH ?_
    case hyr5_3 => (intro w' hSw; replace hSw := S3o0 hSw; (try dsimp only at hSw); have q0 := hSw; obtain ⟨qa0_0, qa0_1, qa0_2, qa0_3, qa0_4, qa0_5, qa0_6⟩ := (q0).j; obtain ⟨b0_0, b0_1, b0_2, b0_3, b0_4, b0_5, b0_6, b0_7, b0_8, b0_9, b0_10, b0_11, b0_12⟩ := cells_bd (q0).cl hka HXA.out; obtain ⟨c0_0, c0_1, c0_2, c0_3, c0_4, c0_5, c0_6, c0_7, c0_8, c0_9, c0_10, c0_11, c0_12⟩ := cells_bd (q0).cl hkb HXB.out; go_simp; try (with_reducible rfl))
    simp only [List.set_cons_zero, List.set_cons_succ]
    refine U_take 3 22 10 0 0 (v := ?vr5_4) rfl (by kernel_rfl) (by kernel_rfl) hWr5 (by kernel_rfl) (by kernel_rfl) (by kernel_rfl) (by kernel_rfl) (by kernel_rfl) (by kernel_rfl) (fun _ _ _ _ h => h) (by kernel_rfl) ?hyr5_4 (by omega) hH ?_
    case hyr5_4 => (intro w' hSw; clear hSw; go_simp; try (with_reducible rfl))
    simp only [List.set_cons_zero, List.set_cons_succ]
    refine U_take 4 23 9 0 0 (v := ?vr5_5) rfl (by kernel_rfl) (by kernel_rfl) hWr5 (by kernel_rfl) (by kernel_rfl) (by kernel_rfl) (by kernel_rfl) (by kernel_rfl) (by kernel_rfl) (fun _ _ _ _ h => h) (by kernel_rfl) ?hyr5_5 (by omega) hH ?_
    case hyr5_5 => (intro w' hSw; replace hSw := S3o0 hSw; (try dsimp only at hSw); have q0 := hSw; obtain ⟨qa0_0, qa0_1, qa0_2, qa0_3, qa0_4, qa0_5, qa0_6⟩ := (q0).j; obtain ⟨b0_0, b0_1, b0_2, b0_3, b0_4, b0_5, b0_6, b0_7, b0_8, b0_9, b0_10, b0_11, b0_12⟩ := cells_bd (q0).cl hka HXA.out; obtain ⟨c0_0, c0_1, c0_2, c0_3, c0_4, c0_5, c0_6, c0_7, c0_8, c0_9, c0_10, c0_11, c0_12⟩ := cells_bd (q0).cl hkb HXB.out; go_simp; try (with_reducible rfl))
    simp only [List.set_cons_zero, List.set_cons_succ]
    refine U_take 5 24 8 1 0 (v := ?vr5_6) rfl (by kernel_rfl) (by kernel_rfl) hWr5 (by kernel_rfl) (by kernel_rfl) (by kernel_rfl) (by kernel_rfl) (by kernel_rfl) (by kernel_rfl) (fun _ _ _ _ h => h) (by kernel_rfl) ?hyr5_6 (by omega) hH ?_
    case hyr5_6 => (intro w' hSw; clear hSw; go_simp; try (with_reducible rfl))
    simp only [List.set_cons_zero, List.set_cons_succ]
    refine U_take 6 25 7 1 0 (v := ?vr5_7) rfl (by kernel_rfl) (by kernel_rfl) hWr5 (by kernel_rfl) (by kernel_rfl) (by kernel_rfl) (by kernel_rfl) (by kernel_rfl) (by kernel_rfl) (fun _ _ _ _ h => h) (by kernel_rfl) ?hyr5_7 (by omega) hH ?_
    case hyr5_7 => (intro w' hSw; clear hSw; go_simp; try (with_reducible rfl))
    simp only [List.set_cons_zero, List.set_cons_succ]
    refine U_take 7 26 6 1 0 (v := ?vr5_8) rfl (by kernel_rfl) (by kernel_rfl) hWr5 (by kernel_rfl) (by kernel_rfl) (by kernel_rfl) (by kernel_rfl) (by kernel_rfl) (by kernel_rfl) (fun _ _ _ _ h => h) (by kernel_rfl) ?hyr5_8 (by omega) hH ?_
    case hyr5_8 => (intro w' hSw; replace hSw := S3o1 hSw; (try dsimp only at hSw); have q0 := hSw; obtain ⟨qa0_0, qa0_1, qa0_2, qa0_3, qa0_4, qa0_5, qa0_6⟩ := (q0).j; obtain ⟨b0_0, b0_1, b0_2, b0_3, b0_4, b0_5, b0_6, b0_7, b0_8, b0_9, b0_10, b0_11, b0_12⟩ := cells_bd (q0).cl hka HXA.out; obtain ⟨c0_0, c0_1, c0_2, c0_3, c0_4, c0_5, c0_6, c0_7, c0_8, c0_9, c0_10, c0_11, c0_12⟩ := cells_bd (q0).cl hkb HXB.out; go_simp; try (with_reducible rfl))
    simp only [List.set_cons_zero, List.set_cons_succ]
    refine U_take 8 27 5 1 0 (v := ?vr5_9) rfl (by kernel_rfl) (by kernel_rfl) hWr5 (by kernel_rfl) (by kernel_rfl) (by kernel_rfl) (by kernel_rfl) (by kernel_rfl) (by kernel_rfl) (fun _ _ _ _ h => h) (by kernel_rfl) ?hyr5_9 (by omega) hH ?_
    case hyr5_9 => (intro w' hSw; clear hSw; go_simp; try (with_reducible rfl))
    simp only [List.set_cons_zero, List.set_cons_succ]
    refine U_take 9 28 4 1 0 (v := ?vr5_10) rfl (by kernel_rfl) (by kernel_rfl) hWr5 (by kernel_rfl) (by kernel_rfl) (by kernel_rfl) (by kernel_rfl) (by kernel_rfl) (by kernel_rfl) (fun _ _ _ _ h => h) (by kernel_rfl) ?hyr5_10 (by omega) hH ?_
    case hyr5_10 => (intro w' hSw; replace hSw := S3o1 hSw; (try dsimp only at hSw); have q0 := hSw; obtain ⟨qa0_0, qa0_1, qa0_2, qa0_3, qa0_4, qa0_5, qa0_6⟩ := (q0).j; obtain ⟨b0_0, b0_1, b0_2, b0_3, b0_4, b0_5, b0_6, b0_7, b0_8, b0_9, b0_10, b0_11, b0_12⟩ := cells_bd (q0).cl hka HXA.out; obtain ⟨c0_0, c0_1, c0_2, c0_3, c0_4, c0_5, c0_6, c0_7, c0_8, c0_9, c0_10, c0_11, c0_12⟩ := cells_bd (q0).cl hkb HXB.out; go_simp; try (with_reducible rfl))
    simp only [List.set_cons_zero, List.set_cons_succ]
    refine wpAnyU_ready (rs := [10, 11]) (by kernel_rfl) (by simp) ?_
    refine AllReadyU.cons 0 (by kernel_rfl) (o := _) rfl (fun K hK => ?_) ?_
    · try clear hb
      have hG := hH
      replace hG := S3o0 hG; (try dsimp only at hG); have q0 := hG
      go_simp
      refine hK.out _ _ ?hsr5_11 (fun hH2 => ?hrr5_11)
      case hsr5_11 => exact S3i0 (by have hG := hH; replace hG := S3o0 hG; (try dsimp only at hG); have q0 := hG; exact q0.alloc _)
      clear hK K hH
      have hH := hH2
      clear hH2
      try simp only [Act.put, List.setIfInBounds_toArray, List.set_cons_zero, List.set_cons_succ]
      have hT : BdZ ((w3.alloc (.cells #[.int .i64 0, .int .i64 0, .int .i64 0, .int .i64 0, .int .i64 0, .int .i64 0, .int .i64 0, .int .i64 0, .int .i64 0, .int .i64 0, .slice none 0 0, .bool false, .int .i64 0] 27)).drew) w3.heap.size := BdZ.drew (by have := BdAt.here w3 bd0 none 0 0 27; simp only [bd0] at this; exact BdZ.of this)
      obtain ⟨gT, hgT⟩ : ∃ g, g = w3.heap.size := ⟨_, rfl⟩
      have hlT : w.heap.size + 2 < gT := by rw [hgT]; exact q0.sz
      rw [← hgT] at hT
      try rw [← hgT]
      clear hgT q0
      generalize (w3.alloc (.cells #[.int .i64 0, .int .i64 0, .int .i64 0, .int .i64 0, .int .i64 0, .int .i64 0, .int .i64 0, .int .i64 0, .int .i64 0, .int .i64 0, .slice none 0 0, .bool false, .int .i64 0] 27)).drew = wx10 at *
      refine wpAnyU_ready (rs := [11]) (by kernel_rfl) (by simp) ?_
      refine AllReadyU.cons 0 (by kernel_rfl) (o := _) rfl (fun K hK => ?_) AllReadyU.nil
      try clear hb
      have hG := hH
      replace hG := S3o0 hG; (try dsimp only at hG); have q0 := hG
      have hZT := BdZ.lt hT
      go_simp
      refine hK.out _ _ ?hsr5_12 (fun hH2 => ?hrr5_12)
      case hsr5_12 => exact S3i0 (by have hG := hH; replace hG := S3o0 hG; (try dsimp only at hG); have q0 := hG; exact q0.alloc _)
      clear hK K hH
      have hH := hH2
      clear hH2
      try simp only [Act.put, List.setIfInBounds_toArray, List.set_cons_zero, List.set_cons_succ]
      have hU : BdZ (wx10.alloc (.cells #[.int .i64 0, .int .i64 0, .int .i64 0, .int .i64 0, .int .i64 0, .int .i64 0, .int .i64 0, .int .i64 0, .int .i64 0, .int .i64 0, .slice none 0 0, .bool false, .int .i64 0] 27)) wx10.heap.size := by have := BdAt.here wx10 bd0 none 0 0 27; simp only [bd0] at this; exact BdZ.of this
      replace hT := keepBdZ ((Below.refl _ _).alloc (Nat.le_refl _) (.cells #[.int .i64 0, .int .i64 0, .int .i64 0, .int .i64 0, .int .i64 0, .int .i64 0, .int .i64 0, .int .i64 0, .int .i64 0, .int .i64 0, .slice none 0 0, .bool false, .int .i64 0] 27)) hT
      obtain ⟨gU, hgU⟩ : ∃ g, g = wx10.heap.size := ⟨_, rfl⟩
      have hlU : w.heap.size + 2 < gU ∧ gT < gU := by rw [hgU]; exact ⟨q0.sz, hZT⟩
      rw [← hgU] at hU
      try rw [← hgU]
      clear hgU q0
      generalize wx10.alloc (.cells #[.int .i64 0, .int .i64 0, .int .i64 0, .int .i64 0, .int .i64 0, .int .i64 0, .int .i64 0, .int .i64 0, .int .i64 0, .int .i64 0, .slice none 0 0, .bool false, .int .i64 0] 27) = wx11 at *
      refine wpAnyU_lst (l' := #[true, true, true, true, true, true, true, true, true, true, true, true, false, false]) (by kernel_rfl) ?_
      have hl2 : w.heap.size + 2 < gT ∧ w.heap.size + 2 < gU ∧ gT ≠ gU := by omega
      clear hlT hlU
      try clear hZT
      try clear hZU
      try clear hb
      revert hH
      revert hU; revert hT
      revert hl2
      revert gU; revert gT
      revert wx11
      exact hNr5.out
    refine AllReadyU.cons 0 (by kernel_rfl) (o := _) rfl (fun K hK => ?_) ?_
    · try clear hb
      have hG := hH
      replace hG := S3o0 hG; (try dsimp only at hG); have q0 := hG
      go_simp
      refine hK.out _ _ ?hsr5_15 (fun hH2 => ?hrr5_15)
      case hsr5_15 => exact S3i0 (by have hG := hH; replace hG := S3o0 hG; (try dsimp only at hG); have q0 := hG; exact q0.alloc _)
      clear hK K hH
      have hH := hH2
      clear hH2
      try simp only [Act.put, List.setIfInBounds_toArray, List.set_cons_zero, List.set_cons_succ]
      have hU : BdZ ((w3.alloc (.cells #[.int .i64 0, .int .i64 0, .int .i64 0, .int .i64 0, .int .i64 0, .int .i64 0, .int .i64 0, .int .i64 0, .int .i64 0, .int .i64 0, .slice none 0 0, .bool false, .int .i64 0] 27)).drew) w3.heap.size := BdZ.drew (by have := BdAt.here w3 bd0 none 0 0 27; simp only [bd0] at this; exact BdZ.of this)
      obtain ⟨gU, hgU⟩ : ∃ g, g = w3.heap.size := ⟨_, rfl⟩
      have hlU : w.heap.size + 2 < gU := by rw [hgU]; exact q0.sz
      rw [← hgU] at hU
      try rw [← hgU]
      clear hgU q0
      generalize (w3.alloc (.cells #[.int .i64 0, .int .i64 0, .int .i64 0, .int .i64 0, .int .i64 0, .int .i64 0, .int .i64 0, .int .i64 0, .int .i64 0, .int .i64 0, .slice none 0 0, .bool false, .int .i64 0] 27)).drew = wx11 at *
      refine wpAnyU_ready (rs := [10]) (by kernel_rfl) (by simp) ?_
      refine AllReadyU.cons 0 (by kernel_rfl) (o := _) rfl (fun K hK => ?_) AllReadyU.nil
      try clear hb
      have hG := hH
      replace hG := S3o0 hG; (try dsimp only at hG); have q0 := hG
      have hZU := BdZ.lt hU
      go_simp
      refine hK.out _ _ ?hsr5_16 (fun hH2 => ?hrr5_16)
      case hsr5_16 => exact S3i0 (by have hG := hH; replace hG := S3o0 hG; (try dsimp only at hG); have q0 := hG; exact q0.alloc _)
      clear hK K hH
      have hH := hH2
      clear hH2
      try simp only [Act.put, List.setIfInBounds_toArray, List.set_cons_zero, List.set_cons_succ]
      have hT : BdZ (wx11.alloc (.cells #[.int .i64 0, .int .i64 0, .int .i64 0, .int .i64 0, .int .i64 0, .int .i64 0, .int .i64 0, .int .i64 0, .int .i64 0, .int .i64 0, .slice none 0 0, .bool false, .int .i64 0] 27)) wx11.heap.size := by have := BdAt.here wx11 bd0 none 0 0 27; simp only [bd0] at this; exact BdZ.of this
      replace hU := keepBdZ ((Below.refl _ _).alloc (Nat.le_refl _) (.cells #[.int .i64 0, .int .i64 0, .int .i64 0, .int .i64 0, .int .i64 0, .int .i64 0, .int .i64 0, .int .i64 0, .int .i64 0, .int .i64 0, .slice none 0 0, .bool false, .int .i64 0] 27)) hU
      obtain ⟨gT, hgT⟩ : ∃ g, g = wx11.heap.size := ⟨_, rfl⟩
      have hlT : w.heap.size + 2 < gT ∧ gU < gT := by rw [hgT]; exact ⟨q0.sz, hZU⟩
      rw [← hgT] at hT
      try rw [← hgT]
      clear hgT q0
      generalize wx11.alloc (.cells #[.int .i64 0, .int .i64 0, .int .i64 0, .int .i64 0, .int .i64 0, .int .i64 0, .int .i64 0, .int .i64 0, .int .i64 0, .int .i64 0, .slice none 0 0, .bool false, .int .i64 0] 27) = wx10 at *
      refine wpAnyU_lst (l' := #[true, true, true, true, true, true, true, true, true, true, true, true, false, false]) (by kernel_rfl) ?_
      have hl2 : w.heap.size + 2 < gT ∧ w.heap.size + 2 < gU ∧ gT ≠ gU := by omega
      clear hlT hlU
      try clear hZT
      try clear hZU
      try clear hb
      revert hH
      revert hU; revert hT
      revert hl2
      revert gU; revert gT
      revert wx10
      exact hNr5.out
    exact AllReadyU.nil
  case prfr5 =>
    intro wX gT gU hl2 hT hU hH
    have hWr5 : Weaker (S3 (fun w' => Ej w bL oL L x w') (fun w' => Ej w bL oL L x w')) := weaker3 (fun _ q0 => q0)
    refine wpAnyU_ready (rs := [12]) (by kernel_rfl) (by simp) ?_
    refine AllReadyU.cons 1 (by kernel_rfl) (o := _) rfl (fun K hK => ?_) AllReadyU.nil
    try clear hb
    have hG := hH
    replace hG := S3o0 hG; (try dsimp only at hG); have q0 := hG
    have HEJ := hid q0
    have HT := hid hT
    have HU := hid hU
    obtain ⟨z0, z1, z2, z3, z4, z5, z6, z7, z8, z9, z10, z11, z12, y0, y1, y2, y3, y4, y5, y6, y7, y8, y9, y10, y11, y12⟩ := hT.all
    have yf := hT.free
    obtain ⟨t0, t1, t2, t3, t4, t5, t6, t7, t8, t9, t10, t11, t12, u0, u1, u2, u3, u4, u5, u6, u7, u8, u9, u10, u11, u12⟩ := hU.all
    have uf := hU.free
    have hneTU : ¬ gT = gU := hl2.2.2
    have hneUT : ¬ gU = gT := fun h => hl2.2.2 h.symm
    clear hG q0
    go_simp
    refine hK.out _ _ ?hsr5_13 (fun hH2 => ?hrr5_13)
    case hsr5_13 => exact S3i1 (by have hh := HEJ.out.setBd hl2.1 xa.b xa.A xa.n xa.c; unfold Go.Proofs.Ytbajmekmpgfpeaa.setBd at hh; exact hh)
    clear hK K hH
    have hH := hH2
    clear hH2
    try simp only [Act.put, List.setIfInBounds_toArray, List.set_cons_zero, List.set_cons_succ]
    refine wpAnyU_ready (rs := [13]) (by kernel_rfl) (by simp) ?_
    refine AllReadyU.cons 2 (by kernel_rfl) (o := _) rfl (fun K hK => ?_) AllReadyU.nil
    go_simp
    refine hK.out _ _ ?hsr5_14 (fun hH2 => ?hrr5_14)
    case hsr5_14 => exact S3i2
    clear hK K hH
    have hH := hH2
    clear hH2
    try simp only [Act.put, List.setIfInBounds_toArray, List.set_cons_zero, List.set_cons_succ]
    refine wpAnyU_done (by kernel_rfl) ?_ _ _
    refine NoPanic.normal ?_
    obtain ⟨w5, hw5⟩ : ∃ w5, w5 = setBd (setBd wX gT xa.b xa.A xa.n xa.c) gU xb.b xb.A xb.n xb.c := ⟨_, rfl⟩
    have HE3 := hid (ej_two (by omega) (by omega) hneTU HEJ.out HT.out HU.out xa.b xb.b xa.A xb.A xa.n xb.n xa.c xb.c)
    rw [← hw5] at HE3
    unfold setBd at hw5
    have HEJ5 := hid HE3.out.1
    have HTA := hid HE3.out.2.1
    have HUB := hid HE3.out.2.2
    clear HE3 HEJ HT HU z0 z1 z2 z3 z4 z5 z6 z7 z8 z9 z10 z11 z12 y0 y1 y2 y3 y4 y5 y6 y7 y8 y9 y10 y11 y12 t0 t1 t2 t3 t4 t5 t6 t7 t8 t9 t10 t11 t12 u0 u1 u2 u3 u4 u5 u6 u7 u8 u9 u10 u11 u12 yf uf
    try clear hH
    go_upto_region 5 with fail
    rw [← hw5]
    clear hw5
    refine wp_region_noPanic ?_
    refine wp_region_U (S := (S2 (fun w' => Ej w bL oL L x w' ∧ BdAt w' gT xa.b xa.A xa.n xa.c ∧ BdAt w' gU xb.b xb.A xb.n xb.c))) (T := (fun j => [0, 0, 0, 0, 0, 0, 0, 0, 0, 0, 0, 0, 0, 0, 0, 0, 1, 1].getD j 0)) (by kernel_rfl) (S2i0 ⟨HEJ5.out.drew, HTA.out.drew, HUB.out.drew⟩) (fun hH => ?_)
    have hWr4 : Weaker (S2 (fun w' => Ej w bL oL L x w' ∧ BdAt w' gT xa.b xa.A xa.n xa.c ∧ BdAt w' gU xb.b xb.A xb.n xb.c)) := weaker2 _
    refine U_take 0 29 18 0 0 (v := ?vr4_1) rfl (by kernel_rfl) (by kernel_rfl) hWr4 (by kernel_rfl) (by kernel_rfl) (by kernel_rfl) (by kernel_rfl) (by kernel_rfl) (by kernel_rfl) (fun _ _ _ _ h => h) (by kernel_rfl) ?hyr4_1 (by omega) hH ?_
    case hyr4_1 => (intro w' hSw; clear hSw; go_simp; try (with_reducible rfl))
    simp only [List.set_cons_zero, List.set_cons_succ]
    refine U_take 1 30 17 0 0 (v := ?vr4_2) rfl (by kernel_rfl) (by kernel_rfl) hWr4 (by kernel_rfl) (by kernel_rfl) (by kernel_rfl) (by kernel_rfl) (by kernel_rfl) (by kernel_rfl) (fun _ _ _ _ h => h) (by kernel_rfl) ?hyr4_2 (by omega) hH ?_
    case hyr4_2 => (intro w' hSw; replace hSw := S2o0 hSw; (try dsimp only at hSw); have q0 := hSw.1; have q1 := hSw.2.1; have q2 := hSw.2.2; obtain ⟨qa0_0, qa0_1, qa0_2, qa0_3, qa0_4, qa0_5, qa0_6⟩ := (q0).j; obtain ⟨b0_0, b0_1, b0_2, b0_3, b0_4, b0_5, b0_6, b0_7, b0_8, b0_9, b0_10, b0_11, b0_12⟩ := cells_bd (q0).cl hka HXA.out; obtain ⟨c0_0, c0_1, c0_2, c0_3, c0_4, c0_5, c0_6, c0_7, c0_8, c0_9, c0_10, c0_11, c0_12⟩ := cells_bd (q0).cl hkb HXB.out; obtain ⟨qa1_0, qa1_1, qa1_2, qa1_3, qa1_4, qa1_5, qa1_6, qa1_7, qa1_8, qa1_9, qa1_10, qa1_11, qa1_12, qa1_f⟩ := id q1; obtain ⟨qa2_0, qa2_1, qa2_2, qa2_3, qa2_4, qa2_5, qa2_6, qa2_7, qa2_8, qa2_9, qa2_10, qa2_11, qa2_12, qa2_f⟩ := id q2; go_simp; try (with_reducible rfl))
    simp only [List.set_cons_zero, List.set_cons_succ]
    refine U_take 2 31 16 0 0 (v := ?vr4_3) rfl (by kernel_rfl) (by kernel_rfl) hWr4 (by kernel_rfl) (by kernel_rfl) (by kernel_rfl) (by kernel_rfl) (by kernel_rfl) (by kernel_rfl) (fun _ _ _ _ h => h) (by kernel_rfl) ?hyr4_3 (by omega) hH ?_
    case hyr4_3 => (intro w' hSw; clear hSw; go_simp; try (with_reducible rfl))
    simp only [List.set_cons_zero, List.set_cons_succ]
    refine U_take 3 32 15 0 0 (v := ?vr4_4) rfl (by kernel_rfl) (by kernel_rfl) hWr4 (by kernel_rfl) (by kernel_rfl) (by kernel_rfl) (by kernel_rfl) (by kernel_rfl) (by kernel_rfl) (fun _ _ _ _ h => h) (by kernel_rfl) ?hyr4_4 (by omega) hH ?_
    case hyr4_4 => (intro w' hSw; replace hSw := S2o0 hSw; (try dsimp only at hSw); have q0 := hSw.1; have q1 := hSw.2.1; have q2 := hSw.2.2; obtain ⟨qa0_0, qa0_1, qa0_2, qa0_3, qa0_4, qa0_5, qa0_6⟩ := (q0).j; obtain ⟨b0_0, b0_1, b0_2, b0_3, b0_4, b0_5, b0_6, b0_7, b0_8, b0_9, b0_10, b0_11, b0_12⟩ := cells_bd (q0).cl hka HXA.out; obtain ⟨c0_0, c0_1, c0_2, c0_3, c0_4, c0_5, c0_6, c0_7, c0_8, c0_9, c0_10, c0_11, c0_12⟩ := cells_bd (q0).cl hkb HXB.out; obtain ⟨qa1_0, qa1_1, qa1_2, qa1_3, qa1_4, qa1_5, qa1_6, qa1_7, qa1_8, qa1_9, qa1_10, qa1_11, qa1_12, qa1_f⟩ := id q1; obtain ⟨qa2_0, qa2_1, qa2_2, qa2_3, qa2_4, qa2_5, qa2_6, qa2_7, qa2_8, qa2_9, qa2_10, qa2_11, qa2_12, qa2_f⟩ := id q2; go_simp; try (with_reducible rfl))
    simp only [List.set_cons_zero, List.set_cons_succ]
    refine U_take 4 33 14 0 0 (v := ?vr4_5) rfl (by kernel_rfl) (by kernel_rfl) hWr4 (by kernel_rfl) (by kernel_rfl) (by kernel_rfl) (by kernel_rfl) (by kernel_rfl) (by kernel_rfl) (fun _ _ _ _ h => h) (by kernel_rfl) ?hyr4_5 (by omega) hH ?_
    case hyr4_5 => (intro w' hSw; clear hSw; go_simp; try (with_reducible rfl))
    simp only [List.set_cons_zero, List.set_cons_succ]
    refine U_take 5 34 13 0 0 (v := ?vr4_6) rfl (by kernel_rfl) (by kernel_rfl) hWr4 (by kernel_rfl) (by kernel_rfl) (by kernel_rfl) (by kernel_rfl) (by kernel_rfl) (by kernel_rfl) (fun _ _ _ _ h => h) (by kernel_rfl) ?hyr4_6 (by omega) hH ?_
    case hyr4_6 => (intro w' hSw; replace hSw := S2o0 hSw; (try dsimp only at hSw); have q0 := hSw.1; have q1 := hSw.2.1; have q2 := hSw.2.2; obtain ⟨qa0_0, qa0_1, qa0_2, qa0_3, qa0_4, qa0_5, qa0_6⟩ := (q0).j; obtain ⟨b0_0, b0_1, b0_2, b0_3, b0_4, b0_5, b0_6, b0_7, b0_8, b0_9, b0_10, b0_11, b0_12⟩ := cells_bd (q0).cl hka HXA.out; obtain ⟨c0_0, c0_1, c0_2, c0_3, c0_4, c0_5, c0_6, c0_7, c0_8, c0_9, c0_10, c0_11, c0_12⟩ := cells_bd (q0).cl hkb HXB.out; obtain ⟨qa1_0, qa1_1, qa1_2, qa1_3, qa1_4, qa1_5, qa1_6, qa1_7, qa1_8, qa1_9, qa1_10, qa1_11, qa1_12, qa1_f⟩ := id q1; obtain ⟨qa2_0, qa2_1, qa2_2, qa2_3, qa2_4, qa2_5, qa2_6, qa2_7, qa2_8, qa2_9, qa2_10, qa2_11, qa2_12, qa2_f⟩ := id q2; go_simp; try (with_reducible rfl))
    simp only [List.set_cons_zero, List.set_cons_succ]
    refine U_take 8 37 12 0 0 (v := ?vr4_7) rfl (by kernel_rfl) (by kernel_rfl) hWr4 (by kernel_rfl) (by kernel_rfl) (by kernel_rfl) (by kernel_rfl) (by kernel_rfl) (by kernel_rfl) (fun _ _ _ _ h => h) (by kernel_rfl) ?hyr4_7 (by omega) hH ?_
    case hyr4_7 => (intro w' hSw; clear hSw; go_simp; try (with_reducible rfl))
    simp only [List.set_cons_zero, List.set_cons_succ]
    refine U_take 9 38 11 0 0 (v := ?vr4_8) rfl (by kernel_rfl) (by kernel_rfl) hWr4 (by kernel_rfl) (by kernel_rfl) (by kernel_rfl) (by kernel_rfl) (by kernel_rfl) (by kernel_rfl) (fun _ _ _ _ h => h) (by kernel_rfl) ?hyr4_8 (by omega) hH ?_
    case hyr4_8 => (intro w' hSw; replace hSw := S2o0 hSw; (try dsimp only at hSw); have q0 := hSw.1; have q1 := hSw.2.1; have q2 := hSw.2.2; obtain ⟨qa0_0, qa0_1, qa0_2, qa0_3, qa0_4, qa0_5, qa0_6⟩ := (q0).j; obtain ⟨b0_0, b0_1, b0_2, b0_3, b0_4, b0_5, b0_6, b0_7, b0_8, b0_9, b0_10, b0_11, b0_12⟩ := cells_bd (q0).cl hka HXA.out; obtain ⟨c0_0, c0_1, c0_2, c0_3, c0_4, c0_5, c0_6, c0_7, c0_8, c0_9, c0_10, c0_11, c0_12⟩ := cells_bd (q0).cl hkb HXB.out; obtain ⟨qa1_0, qa1_1, qa1_2, qa1_3, qa1_4, qa1_5, qa1_6, qa1_7, qa1_8, qa1_9, qa1_10, qa1_11, qa1_12, qa1_f⟩ := id q1; obtain ⟨qa2_0, qa2_1, qa2_2, qa2_3, qa2_4, qa2_5, qa2_6, qa2_7, qa2_8, qa2_9, qa2_10, qa2_11, qa2_12, qa2_f⟩ := id q2; go_simp; try (with_reducible rfl))
    simp only [List.set_cons_zero, List.set_cons_succ]
    refine U_take 10 39 10 0 0 (v := ?vr4_9) rfl (by kernel_rfl) (by kernel_rfl) hWr4 (by kernel_rfl) (by kernel_rfl) (by kernel_rfl) (by kernel_rfl) (by kernel_rfl) (by kernel_rfl) (fun _ _ _ _ h => h) (by kernel_rfl) ?hyr4_9 (by omega) hH ?_
    case hyr4_9 => (intro w' hSw; clear hSw; go_simp; try (with_reducible rfl))
    simp only [List.set_cons_zero, List.set_cons_succ]
    refine U_take 11 40 9 0 0 (v := ?vr4_10) rfl (by kernel_rfl) (by kernel_rfl) hWr4 (by kernel_rfl) (by kernel_rfl) (by kernel_rfl) (by kernel_rfl) (by kernel_rfl) (by kernel_rfl) (fun _ _ _ _ h => h) (by kernel_rfl) ?hyr4_10 (by omega) hH ?_
    case hyr4_10 => (intro w' hSw; replace hSw := S2o0 hSw; (try dsimp only at hSw); have q0 := hSw.1; have q1 := hSw.2.1; have q2 := hSw.2.2; obtain ⟨qa0_0, qa0_1, qa0_2, qa0_3, qa0_4, qa0_5, qa0_6⟩ := (q0).j; obtain ⟨b0_0, b0_1, b0_2, b0_3, b0_4, b0_5, b0_6, b0_7, b0_8, b0_9, b0_10, b0_11, b0_12⟩ := cells_bd (q0).cl hka HXA.out; obtain ⟨c0_0, c0_1, c0_2, c0_3, c0_4, c0_5, c0_6, c0_7, c0_8, c0_9, c0_10, c0_11, c0_12⟩ := cells_bd (q0).cl hkb HXB.out; obtain ⟨qa1_0, qa1_1, qa1_2, qa1_3, qa1_4, qa1_5, qa1_6, qa1_7, qa1_8, qa1_9, qa1_10, qa1_11, qa1_12, qa1_f⟩ := id q1; obtain ⟨qa2_0, qa2_1, qa2_2, qa2_3, qa2_4, qa2_5, qa2_6, qa2_7, qa2_8, qa2_9, qa2_10, qa2_11, qa2_12, qa2_f⟩ := id q2; go_simp; try (with_reducible rfl))
    simp only [List.set_cons_zero, List.set_cons_succ]
    refine U_take 12 41 8 0 0 (v := ?vr4_11) rfl (by kernel_rfl) (by kernel_rfl) hWr4 (by kernel_rfl) (by kernel_rfl) (by kernel_rfl) (by kernel_rfl) (by kernel_rfl) (by kernel_rfl) (fun _ _ _ _ h => h) (by kernel_rfl) ?hyr4_11 (by omega) hH ?_
    case hyr4_11 => (intro w' hSw; clear hSw; go_simp; try (with_reducible rfl))
    simp only [List.set_cons_zero, List.set_cons_succ]
    refine U_take 13 42 7 0 0 (v := ?vr4_12) rfl (by kernel_rfl) (by kernel_rfl) hWr4 (by kernel_rfl) (by kernel_rfl) (by kernel_rfl) (by kernel_rfl) (by kernel_rfl) (by kernel_rfl) (fun _ _ _ _ h => h) (by kernel_rfl) ?hyr4_12 (by omega) hH ?_
    case hyr4_12 => (intro w' hSw; replace hSw := S2o0 hSw; (try dsimp only at hSw); have q0 := hSw.1; have q1 := hSw.2.1; have q2 := hSw.2.2; obtain ⟨qa0_0, qa0_1, qa0_2, qa0_3, qa0_4, qa0_5, qa0_6⟩ := (q0).j; obtain ⟨b0_0, b0_1, b0_2, b0_3, b0_4, b0_5, b0_6, b0_7, b0_8, b0_9, b0_10, b0_11, b0_12⟩ := cells_bd (q0).cl hka HXA.out; obtain ⟨c0_0, c0_1, c0_2, c0_3, c0_4, c0_5, c0_6, c0_7, c0_8, c0_9, c0_10, c0_11, c0_12⟩ := cells_bd (q0).cl hkb HXB.out; obtain ⟨qa1_0, qa1_1, qa1_2, qa1_3, qa1_4, qa1_5, qa1_6, qa1_7, qa1_8, qa1_9, qa1_10, qa1_11, qa1_12, qa1_f⟩ := id q1; obtain ⟨qa2_0, qa2_1, qa2_2, qa2_3, qa2_4, qa2_5, qa2_6, qa2_7, qa2_8, qa2_9, qa2_10, qa2_11, qa2_12, qa2_f⟩ := id q2; go_simp; try (with_reducible rfl))
    simp only [List.set_cons_zero, List.set_cons_succ]
    refine wpAnyU_ready (rs := [6]) (by kernel_rfl) (by simp) ?_
    refine AllReadyU.cons 0 (by kernel_rfl) (o := _) rfl (fun K hK => ?_) AllReadyU.nil
    try clear hb
    go_simp
    (go_at_call 59; refine (turn_calls _ _ _ HAA.out.1 HAA.out.2 _).mono ?_; rintro e wn ⟨rfl, hb⟩)
    refine hK.out _ _ ?hsr4_13 (fun hH2 => ?hrr4_13)
    case hsr4_13 => exact S2i0 (by have hG := hH; replace hG := S2o0 hG; (try dsimp only at hG); have q0 := hG.1; have q1 := hG.2.1; have q2 := hG.2.2; exact ⟨keepEj hb q0, keepBd hb q1, keepBd hb q2⟩)
    clear hK K hH
    have hH := hH2
    clear hH2
    try simp only [Act.put, List.setIfInBounds_toArray, List.set_cons_zero, List.set_cons_succ]
    refine wpAnyU_ready (rs := [7]) (by kernel_rfl) (by simp) ?_
    refine AllReadyU.cons 0 (by kernel_rfl) (o := _) rfl (fun K hK => ?_) AllReadyU.nil
    try clear hb
    go_simp
    (go_at_call 39; refine (vadd_calls _ _ _ _ _).mono ?_; rw [HWA1.out, HWA2.out]; rintro e wn ⟨rfl, hb⟩)
    refine hK.out _ _ ?hsr4_14 (fun hH2 => ?hrr4_14)
    case hsr4_14 => exact S2i0 (by have hG := hH; replace hG := S2o0 hG; (try dsimp only at hG); have q0 := hG.1; have q1 := hG.2.1; have q2 := hG.2.2; exact ⟨keepEj hb q0, keepBd hb q1, keepBd hb q2⟩)
    clear hK K hH
    have hH := hH2
    clear hH2
    try simp only [Act.put, List.setIfInBounds_toArray, List.set_cons_zero, List.set_cons_succ]
    refine wpAnyU_ready (rs := [14]) (by kernel_rfl) (by simp) ?_
    refine AllReadyU.cons 0 (by kernel_rfl) (o := _) rfl (fun K hK => ?_) AllReadyU.nil
    try clear hb
    go_simp
    (go_at_call 59; refine (turn_calls _ _ _ HAB.out.1 HAB.out.2 _).mono ?_; rintro e wn ⟨rfl, hb⟩)
    refine hK.out _ _ ?hsr4_15 (fun hH2 => ?hrr4_15)
    case hsr4_15 => exact S2i0 (by have hG := hH; replace hG := S2o0 hG; (try dsimp only at hG); have q0 := hG.1; have q1 := hG.2.1; have q2 := hG.2.2; exact ⟨keepEj hb q0, keepBd hb q1, keepBd hb q2⟩)
    clear hK K hH
    have hH := hH2
    clear hH2
    try simp only [Act.put, List.setIfInBounds_toArray, List.set_cons_zero, List.set_cons_succ]
    refine wpAnyU_ready (rs := [15]) (by kernel_rfl) (by simp) ?_
    refine AllReadyU.cons 0 (by kernel_rfl) (o := _) rfl (fun K hK => ?_) AllReadyU.nil
    try clear hb
    go_simp
    (go_at_call 39; refine (vadd_calls _ _ _ _ _).mono ?_; rw [HWB1.out, HWB2.out]; rintro e wn ⟨rfl, hb⟩)
    refine hK.out _ _ ?hsr4_16 (fun hH2 => ?hrr4_16)
    case hsr4_16 => exact S2i0 (by have hG := hH; replace hG := S2o0 hG; (try dsimp only at hG); have q0 := hG.1; have q1 := hG.2.1; have q2 := hG.2.2; exact ⟨keepEj hb q0, keepBd hb q1, keepBd hb q2⟩)
    clear hK K hH
    have hH := hH2
    clear hH2
    try simp only [Act.put, List.setIfInBounds_toArray, List.set_cons_zero, List.set_cons_succ]
    refine wpAnyU_ready (rs := [16]) (by kernel_rfl) (by simp) ?_
    refine AllReadyU.cons 1 (by kernel_rfl) (o := _) rfl (fun K hK => ?_) AllReadyU.nil
    try clear hb
    have hG := hH
    replace hG := S2o0 hG; (try dsimp only at hG); have q0 := hG.1; have q1 := hG.2.1; have q2 := hG.2.2
    have HB9 := hid q0.bel
    obtain ⟨⟨v0, v1, y0, y1⟩, yf⟩ := q0.z1
    obtain ⟨⟨v2, v3, y2, y3⟩, yf2⟩ := q0.z2
    have hl9 := lt_of_cell y0
    have hl8 := lt_of_cell y2
    clear hG q0 q1 q2
    go_simp
    refine hK.out _ _ ?hsr4_17 (fun hH2 => ?hrr4_17)
    case hsr4_17 => exact S2i1
    clear hK K hH
    have hH := hH2
    clear hH2
    try simp only [Act.put, List.setIfInBounds_toArray, List.set_cons_zero, List.set_cons_succ]
    refine wpAnyU_ready (rs := [17]) (by kernel_rfl) (by simp) ?_
    refine AllReadyU.cons 1 (by kernel_rfl) (o := _) rfl (fun K hK => ?_) AllReadyU.nil
    go_simp
    refine hK.out _ _ ?hsr4_18 (fun hH2 => ?hrr4_18)
    case hsr4_18 => exact S2i1
    clear hK K hH
    have hH := hH2
    clear hH2
    try simp only [Act.put, List.setIfInBounds_toArray, List.set_cons_zero, List.set_cons_succ]
    refine U_take 18 6 0 1 1 (v := ?vr4_19) rfl (by kernel_rfl) (by kernel_rfl) hWr4 (by kernel_rfl) (by kernel_rfl) (by kernel_rfl) (by kernel_rfl) (by kernel_rfl) (by kernel_rfl) (fun _ _ _ _ h => h) (by kernel_rfl) ?hyr4_19 (by omega) hH ?_
    case hyr4_19 => (intro w' hSw; clear hSw; go_simp; try (with_reducible rfl))
    simp only [List.set_cons_zero, List.set_cons_succ]
    refine wpAnyU_done (by kernel_rfl) ?_ _ _
    refine NoPanic.normal ?_
    go_wp2
    refine bodyPost_ret (v := .tuple #[vecV e1 e2, vecV e3 e4, .int .i64 0]) (by simp [results, Try.results21, go_sem, y0, y1, y2, y3, hl9, hl8]) rfl ⟨by rw [HEN.out], ?_⟩
    have hb9 := HB9.out
    go_grown

def lenV (x y : Int) : Int := clampF (lenZ (clampF x) (clampF y))
def gapZ (L : List BE) (x : Jt) : Int := absZ (lenV (subF (wX (bdOf L x.b) x.q1 x.q2) (wX (bdOf L x.a) x.p1 x.p2)) (subF (wY (bdOf L x.b) x.q1 x.q2) (wY (bdOf L x.a) x.p1 x.p2)) - x.len)
def gapV (L : List BE) (x : Jt) : Value := if jointsE L [x] ≠ 0 then .tuple #[.int .i64 0, .int .i64 (jointsE L [x])] else .tuple #[.int .i64 (gapZ L x), .int .i64 0]
set_option maxRecDepth 100000 in
set_option maxHeartbeats 4000000 in
theorem jgap_calls (A : Option Addr) (n c : Nat) (L : List BE) (x : Jt) (w : World) (hS : SlB w A n c L) : Calls Try.prog 22 #[.slice A n c, jtV x] w (Ret (gapV L x) w) := by
  obtain ⟨W, hW⟩ : ∃ W, W = w.alloc (.cells #[.int .i64 x.a, .int .i64 x.b, .int .i64 x.p1, .int .i64 x.p2, .int .i64 x.q1, .int .i64 x.q2, .int .i64 x.len] 49) := ⟨_, rfl⟩
  have x6 : W.cell? ⟨w.heap.size, 6, none⟩ = some (.int .i64 x.len) := by rw [hW]; go_simp
  have hB : Below w.heap.size w W := by rw [hW]; go_grown
  have HEN := hid (jends_calls A n c L x W (hS.below hB))
  clear hS
  by_cases hE : jointsE L [x] = 0
  case neg =>
    have HG : Hid (gapV L x = .tuple #[.int .i64 0, .int .i64 (jointsE L [x])]) := by show _ = _; unfold gapV; rw [if_pos hE]
    have HV : Hid (endsV L x = .tuple #[vecV 0 0, vecV 0 0, .int .i64 (jointsE L [x])]) := by show _ = _; unfold endsV; rw [if_pos hE]
    rw [HV.out] at HEN
    have hne : (jointsE L [x] != 0) = true := by simp [hE]
    clear HV
    generalize jointsE L [x] = z at *
    go_enter Try.func22, Try.ntmps22
    go_wp2_with fail
    rw [← hW]
    clear hW
    refine HEN.out.mono ?_
    rintro e w1 ⟨rfl, hb⟩
    have hB1 := keepBelow hb hB
    go_wp2
    refine bodyPost_ret (v := .tuple #[.int .i64 0, .int .i64 z]) (by simp [results, Try.results22, go_sem]) rfl ⟨by rw [HG.out], ?_⟩
    exact (hB1.alloc hB1.size _).alloc (by have := hB1.size; simp; omega) _
  obtain ⟨-, -, hjs⟩ := jointsE_zero hE
  obtain ⟨-, -, -, hln, -⟩ := jtE_zero (hjs x (by simp))
  have HV : Hid (endsV L x = .tuple #[vecV (wX (bdOf L x.a) x.p1 x.p2) (wY (bdOf L x.a) x.p1 x.p2), vecV (wX (bdOf L x.b) x.q1 x.q2) (wY (bdOf L x.b) x.q1 x.q2), .int .i64 0]) := by show _ = _; unfold endsV; rw [if_neg (by simp [hE])]
  rw [HV.out] at HEN
  have HG : Hid (gapV L x = .tuple #[.int .i64 (gapZ L x), .int .i64 0]) := by show _ = _; unfold gapV; rw [if_neg (by simp [hE])]
  have HGZ : Hid (gapZ L x = absZ (lenV (subF (wX (bdOf L x.b) x.q1 x.q2) (wX (bdOf L x.a) x.p1 x.p2)) (subF (wY (bdOf L x.b) x.q1 x.q2) (wY (bdOf L x.a) x.p1 x.p2)) - x.len)) := rfl
  generalize gapZ L x = gz at *
  generalize wX (bdOf L x.a) x.p1 x.p2 = e1 at *
  generalize wY (bdOf L x.a) x.p1 x.p2 = e2 at *
  generalize wX (bdOf L x.b) x.q1 x.q2 = e3 at *
  generalize wY (bdOf L x.b) x.q1 x.q2 = e4 at *
  clear hE hjs HV
  go_enter Try.func22, Try.ntmps22
  go_wp2_with fail
  rw [← hW]
  clear hW
  refine HEN.out.mono ?_
  rintro e w1 ⟨rfl, hb⟩
  have hB1 := keepBelow hb hB
  replace x6 := keepCell hb x6
  have hl6 := lt_of_cell x6
  clear hb HEN hB
  obtain ⟨w2, hw2⟩ : ∃ w2, w2 = (w1.alloc (.cells #[.int .i64 e1, .int .i64 e2] 24)).alloc (.cells #[.int .i64 e3, .int .i64 e4] 24) := ⟨_, rfl⟩
  obtain ⟨gp, hgp⟩ : ∃ g, g = w1.heap.size := ⟨_, rfl⟩
  obtain ⟨gq, hgq⟩ : ∃ g, g = gp + 1 := ⟨_, rfl⟩
  have p0 : w2.cell? ⟨gp, 0, none⟩ = some (.int .i64 e1) := by rw [hw2, hgp]; go_simp
  have p1 : w2.cell? ⟨gp, 1, none⟩ = some (.int .i64 e2) := by rw [hw2, hgp]; go_simp
  have k0 : w2.cell? ⟨gq, 0, none⟩ = some (.int .i64 e3) := by rw [hw2, hgq, hgp]; go_simp
  have k1 : w2.cell? ⟨gq, 1, none⟩ = some (.int .i64 e4) := by rw [hw2, hgq, hgp]; go_simp
  have hB2 : Below w.heap.size w w2 := by rw [hw2]; exact (hB1.alloc hB1.size _).alloc (by have := hB1.size; simp; omega) _
  have x6' : w2.cell? ⟨w.heap.size, 6, none⟩ = some (.int .i64 x.len) := by rw [hw2]; exact keepCell ((Below.refl _ _).alloc (Nat.le_refl _) _) (keepCell ((Below.refl _ _).alloc (Nat.le_refl _) _) x6)
  go_upto_region 4 with fail
  rw [← hw2, ← hgp, ← hgq]
  clear hw2 hgp hgq x6 hB1 hl6
  have x6 := x6'
  clear x6'
  obtain ⟨z, hz⟩ : ∃ z, z = lenV (subF e3 e1) (subF e4 e2) := ⟨_, rfl⟩
  have HLZ : Hid (z = clampF (lenZ (clampF (subF e3 e1)) (clampF (subF e4 e2)))) := hz
  have hzb : -1099511627776 ≤ z ∧ z ≤ 1099511627776 := by rw [hz]; unfold lenV; exact clampF_bd _
  rw [← hz] at HGZ
  clear hz
  have hsw : IntKind.i64.wrap (z - x.len) = z - x.len := IntWalk.i64_in _ (by omega)
  have hnw : IntKind.i64.wrap (-(z - x.len)) = -(z - x.len) := IntWalk.i64_in _ (by omega)
  refine wp_region_noPanic ?_
  refine wp_region_U (S := (S2 (fun w' => w'.cell? ⟨gq, 0, none⟩ = some (.int .i64 e3) ∧ w'.cell? ⟨gq, 1, none⟩ = some (.int .i64 e4) ∧ w'.cell? ⟨gp, 0, none⟩ = some (.int .i64 e1) ∧ w'.cell? ⟨gp, 1, none⟩ = some (.int .i64 e2) ∧ w'.cell? ⟨w.heap.size, 6, none⟩ = some (.int .i64 x.len) ∧ Below w.heap.size w w'))) (T := (fun _ => 0)) (by kernel_rfl) (S2i0 ⟨k0, k1, p0, p1, x6, hB2.drew⟩) (fun hH => ?_)
  have hWr6 : Weaker (S2 (fun w' => w'.cell? ⟨gq, 0, none⟩ = some (.int .i64 e3) ∧ w'.cell? ⟨gq, 1, none⟩ = some (.int .i64 e4) ∧ w'.cell? ⟨gp, 0, none⟩ = some (.int .i64 e1) ∧ w'.cell? ⟨gp, 1, none⟩ = some (.int .i64 e2) ∧ w'.cell? ⟨w.heap.size, 6, none⟩ = some (.int .i64 x.len) ∧ Below w.heap.size w w')) := weaker2 _
  refine U_take 0 20 7 0 0 (v := ?vr6_1) rfl (by kernel_rfl) (by kernel_rfl) hWr6 (by kernel_rfl) (by kernel_rfl) (by kernel_rfl) (by kernel_rfl) (by kernel_rfl) (by kernel_rfl) (fun _ _ _ _ h => h) (by kernel_rfl) ?hyr6_1 (by omega) hH ?_
  case hyr6_1 => (intro w' hSw; replace hSw := S2o0 hSw; (try dsimp only at hSw); have q0 := hSw.1; have q1 := hSw.2.1; have q2 := hSw.2.2.1; have q3 := hSw.2.2.2.1; have q4 := hSw.2.2.2.2.1; have q5 := hSw.2.2.2.2.2; go_simp; try (with_reducible rfl))
  simp only [List.set_cons_zero, List.set_cons_succ]
  refine U_take 1 21 6 0 0 (v := ?vr6_2) rfl (by kernel_rfl) (by kernel_rfl) hWr6 (by kernel_rfl) (by kernel_rfl) (by kernel_rfl) (by kernel_rfl) (by kernel_rfl) (by kernel_rfl) (fun _ _ _ _ h => h) (by kernel_rfl) ?hyr6_2 (by omega) hH ?_
  case hyr6_2 => (intro w' hSw; replace hSw := S2o0 hSw; (try dsimp only at hSw); have q0 := hSw.1; have q1 := hSw.2.1; have q2 := hSw.2.2.1; have q3 := hSw.2.2.2.1; have q4 := hSw.2.2.2.2.1; have q5 := hSw.2.2.2.2.2; go_simp; try (with_reducible rfl))
  simp only [List.set_cons_zero, List.set_cons_succ]
  refine U_take 4 24 5 0 0 (v := ?vr6_3) rfl (by kernel_rfl) (by kernel_rfl) hWr6 (by kernel_rfl) (by kernel_rfl) (by kernel_rfl) (by kernel_rfl) (by kernel_rfl) (by kernel_rfl) (fun _ _ _ _ h => h) (by kernel_rfl) ?hyr6_3 (by omega) hH ?_
  case hyr6_3 => (intro w' hSw; clear hSw; go_simp; try (with_reducible rfl))
  simp only [List.set_cons_zero, List.set_cons_succ]
  refine U_take 5 25 4 0 0 (v := ?vr6_4) rfl (by kernel_rfl) (by kernel_rfl) hWr6 (by kernel_rfl) (by kernel_rfl) (by kernel_rfl) (by kernel_rfl) (by kernel_rfl) (by kernel_rfl) (fun _ _ _ _ h => h) (by kernel_rfl) ?hyr6_4 (by omega) hH ?_
  case hyr6_4 => (intro w' hSw; replace hSw := S2o0 hSw; (try dsimp only at hSw); have q0 := hSw.1; have q1 := hSw.2.1; have q2 := hSw.2.2.1; have q3 := hSw.2.2.2.1; have q4 := hSw.2.2.2.2.1; have q5 := hSw.2.2.2.2.2; go_simp; try (with_reducible rfl))
  simp only [List.set_cons_zero, List.set_cons_succ]
  refine wpAnyU_ready (rs := [2]) (by kernel_rfl) (by simp) ?_
  refine AllReadyU.cons 0 (by kernel_rfl) (o := _) rfl (fun K hK => ?_) AllReadyU.nil
  try clear hb
  go_simp
  (go_at_call 25; refine (vsub_calls _ _ _ _ _).mono ?_; rintro e wn ⟨rfl, hb⟩)
  refine hK.out _ _ ?hsr6_5 (fun hH2 => ?hrr6_5)
  case hsr6_5 => exact S2i0 (by have hG := hH; replace hG := S2o0 hG; (try dsimp only at hG); have q0 := hG.1; have q1 := hG.2.1; have q2 := hG.2.2.1; have q3 := hG.2.2.2.1; have q4 := hG.2.2.2.2.1; have q5 := hG.2.2.2.2.2; exact ⟨keepCell hb q0, keepCell hb q1, keepCell hb q2, keepCell hb q3, keepCell hb q4, keepBelow hb q5⟩)
  clear hK K hH
  have hH := hH2
  clear hH2
  try simp only [Act.put, List.setIfInBounds_toArray, List.set_cons_zero, List.set_cons_succ]
  refine wpAnyU_ready (rs := [3]) (by kernel_rfl) (by simp) ?_
  refine AllReadyU.cons 0 (by kernel_rfl) (o := _) rfl (fun K hK => ?_) AllReadyU.nil
  try clear hb
  go_simp
  (go_at_call 24; refine (vlen_calls _ _ _).mono ?_; rw [← HLZ.out]; rintro e wn ⟨rfl, hb⟩)
  refine hK.out _ _ ?hsr6_6 (fun hH2 => ?hrr6_6)
  case hsr6_6 => exact S2i0 (by have hG := hH; replace hG := S2o0 hG; (try dsimp only at hG); have q0 := hG.1; have q1 := hG.2.1; have q2 := hG.2.2.1; have q3 := hG.2.2.2.1; have q4 := hG.2.2.2.2.1; have q5 := hG.2.2.2.2.2; exact ⟨keepCell hb q0, keepCell hb q1, keepCell hb q2, keepCell hb q3, keepCell hb q4, keepBelow hb q5⟩)
  clear hK K hH
  have hH := hH2
  clear hH2
  try simp only [Act.put, List.setIfInBounds_toArray, List.set_cons_zero, List.set_cons_succ]
  refine U_take 6 26 1 0 0 (v := ?vr6_7) rfl (by kernel_rfl) (by kernel_rfl) hWr6 (by kernel_rfl) (by kernel_rfl) (by kernel_rfl) (by kernel_rfl) (by kernel_rfl) (by kernel_rfl) (fun _ _ _ _ h => h) (by kernel_rfl) ?hyr6_7 (by omega) hH ?_
  case hyr6_7 => (intro w' hSw; clear hSw; go_simp; try (with_reducible rfl))
  simp only [List.set_cons_zero, List.set_cons_succ]
  refine U_take 7 9 0 0 0 (v := ?vr6_8) rfl (by kernel_rfl) (by kernel_rfl) hWr6 (by kernel_rfl) (by kernel_rfl) (by kernel_rfl) (by kernel_rfl) (by kernel_rfl) (by kernel_rfl) (fun _ _ _ _ h => h) (by kernel_rfl) ?hyr6_8 (by omega) hH ?_
  case hyr6_8 => (intro w' hSw; clear hSw; go_simp; try (with_reducible rfl))
  simp only [List.set_cons_zero, List.set_cons_succ]
  refine wpAnyU_done (by kernel_rfl) ?_ _ _
  refine NoPanic.normal ?_
  clear hWr6
  replace hH := S2o0 hH
  (try dsimp only at hH)
  have t0 := hH.1
  have t1 := hH.2.1
  have t2 := hH.2.2.1
  have t3 := hH.2.2.2.1
  have t4 := hH.2.2.2.2.1
  have t5 := hH.2.2.2.2.2
  have HMX : max (z - x.len) (-(z - x.len)) = gz := by rw [HGZ.out]; unfold absZ; split <;> omega
  go_wp2
  refine bodyPost_ret (v := .tuple #[.int .i64 gz, .int .i64 0]) (by simp [results, Try.results22, go_sem, HMX]) rfl ⟨by rw [HG.out], t5⟩
end
end Go.Proofs.Ytbajmekmpgfpeaa
