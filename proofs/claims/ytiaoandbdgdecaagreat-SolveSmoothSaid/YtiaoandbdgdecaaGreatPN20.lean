/- Parts of a proof: contracts and laws. -/
import Derived.Test.YtiaoandbdgdecaaGreatPN03
import Derived.Test.YtiaoandbdgdecaaGreatPN14
import Derived.Test.YtiaoandbdgdecaaGreatPN17
import Derived.Test.YtiaoandbdgdecaaGreatPN19
import Derived.Test.YtiaoandbdgdecaaGreatPN10
import Derived.Test.YtiaoandbdgdecaaGreatPN12
import Derived.Test.YtiaoandbdgdecaaGreatPN04
import Derived.Test.YtiaoandbdgdecaaGreatPN02
namespace Go.Proofs.YtiaoandbdgdecaaGreat
section
set_option linter.unusedVariables false
open Go.RowKit
theorem wpAnyU_lst {P : Program} {md : Region.Mode} {ops : Array Oper} {Q : Exit → Act → World → Prop} {S : Nat → World → Prop} {T : Nat → Nat} {fuel lev : Nat} {l l' : Array Bool} {a : Act} {w : World} (h : l = l') (hw : wpAnyU P md ops Q S T fuel lev l' a w) : wpAnyU P md ops Q S T fuel lev l a w := h ▸ hw
end
end Go.Proofs.YtiaoandbdgdecaaGreat
namespace Go.Proofs.YtiaoandbdgdecaaGreat
section
set_option linter.unusedVariables false
set_option linter.unusedSimpArgs false
open Go.RowKit


structure Ej (w0 : World) (bL oL : Nat) (L : List BE) (x : Jt) (w : World) : Prop where
 j : w.cell? ⟨w0.heap.size, 0, none⟩ = some (.int .i64 x.a) ∧ w.cell? ⟨w0.heap.size, 1, none⟩ = some (.int .i64 x.b) ∧ w.cell? ⟨w0.heap.size, 2, none⟩ = some (.int .i64 x.p1) ∧ w.cell? ⟨w0.heap.size, 3, none⟩ = some (.int .i64 x.p2) ∧ w.cell? ⟨w0.heap.size, 4, none⟩ = some (.int .i64 x.q1) ∧ w.cell? ⟨w0.heap.size, 5, none⟩ = some (.int .i64 x.q2) ∧ w.cell? ⟨w0.heap.size, 6, none⟩ = some (.int .i64 x.len)
 cl : CellsE layB w bL oL L
 z1 : VZ w (w0.heap.size + 1)
 z2 : VZ w (w0.heap.size + 2)
 bel : Below w0.heap.size w0 w
 lt : bL < w0.heap.size
 sz : w0.heap.size + 2 < w.heap.size
theorem keepEj {w0 : World} {bL oL : Nat} {L : List BE} {x : Jt} {w w' : World} (hb : Below w.heap.size w w') (h : Ej w0 bL oL L x w) : Ej w0 bL oL L x w' := by
 obtain ⟨h0, h1, h2, h3, h4, h5, h6⟩ := h.j
 exact ⟨⟨keepCell hb h0, keepCell hb h1, keepCell hb h2, keepCell hb h3, keepCell hb h4, keepCell hb h5, keepCell hb h6⟩, h.cl.below hb, keepVZ hb h.z1, keepVZ hb h.z2, keepBelow hb h.bel, h.lt, Nat.lt_of_lt_of_le h.sz hb.size⟩
theorem Ej.alloc {w0 : World} {bL oL : Nat} {L : List BE} {x : Jt} {w : World} (h : Ej w0 bL oL L x w) (o : Obj) : Ej w0 bL oL L x (w.alloc o) := keepEj ((Below.refl _ _).alloc (Nat.le_refl _) _) h
theorem Ej.drew {w0 : World} {bL oL : Nat} {L : List BE} {x : Jt} {w : World} (h : Ej w0 bL oL L x w) : Ej w0 bL oL L x w.drew := keepEj (Below.refl _ _).drew h
theorem Ej.set {w0 : World} {bL oL : Nat} {L : List BE} {x : Jt} {w : World} {g o : Nat} {v : Value} (h : Ej w0 bL oL L x w) (hg : w0.heap.size + 2 < g) : Ej w0 bL oL L x (w.setCell ⟨g, o, none⟩ v) := by
 obtain ⟨h0, h1, h2, h3, h4, h5, h6⟩ := h.j
 have hlt := h.lt
 have n0 : g ≠ w0.heap.size := by omega
 have n1 : g ≠ w0.heap.size + 1 := by omega
 have n2 : g ≠ w0.heap.size + 2 := by omega
 have vz : ∀ k, g ≠ k → VZ w k → VZ (w.setCell ⟨g, o, none⟩ v) k := fun k hk hz => by
  obtain ⟨⟨a, b, c, d⟩, f⟩ := hz
  exact ⟨⟨a, b, far1 hk c, far1 hk d⟩, fun j => by rw [World.frozen?_setCell]; exact f j⟩
 exact ⟨⟨far1 n0 h0, far1 n0 h1, far1 n0 h2, far1 n0 h3, far1 n0 h4, far1 n0 h5, far1 n0 h6⟩, ⟨by simp; exact h.cl.lt, fun j hj i u hu => far1 (by omega) (h.cl.at_ j hj i u hu)⟩, vz _ n1 h.z1, vz _ n2 h.z2, h.bel.setCell (p := ⟨g, o, none⟩) (by show w0.heap.size ≤ g; omega) _, h.lt, by simp; exact h.sz⟩
theorem Ej.setBd {w0 : World} {bL oL : Nat} {L : List BE} {x : Jt} {w : World} {g : Nat} (h : Ej w0 bL oL L x w) (hg : w0.heap.size + 2 < g) (b : Bd) (A : Option Addr) (n c : Nat) : Ej w0 bL oL L x (Go.Proofs.YtiaoandbdgdecaaGreat.setBd w g b A n c) := by
 unfold Go.Proofs.YtiaoandbdgdecaaGreat.setBd
 iterate 13 refine Ej.set ?_ hg
 exact h
theorem BdAt.offJ {w : World} {g k o : Nat} {v : Value} {b : Bd} {A : Option Addr} {n c : Nat} (h : BdAt w g b A n c) (hne : k ≠ g) : BdAt (w.setCell ⟨k, o, none⟩ v) g b A n c := by
 obtain ⟨h0, h1, h2, h3, h4, h5, h6, h7, h8, h9, h10, h11, h12, hf⟩ := h
 exact ⟨far1 hne h0, far1 hne h1, far1 hne h2, far1 hne h3, far1 hne h4, far1 hne h5, far1 hne h6, far1 hne h7, far1 hne h8, far1 hne h9, far1 hne h10, far1 hne h11, far1 hne h12, fun j => by rw [World.frozen?_setCell]; exact hf j⟩
theorem BdAt.setBd_offJ {w : World} {g k : Nat} {b : Bd} {A : Option Addr} {n c : Nat} (h : BdAt w g b A n c) (hne : k ≠ g) (b' : Bd) (A' : Option Addr) (n' c' : Nat) : BdAt (Go.Proofs.YtiaoandbdgdecaaGreat.setBd w k b' A' n' c') g b A n c := by
 unfold Go.Proofs.YtiaoandbdgdecaaGreat.setBd
 iterate 13 refine BdAt.offJ ?_ hne
 exact h

end
end Go.Proofs.YtiaoandbdgdecaaGreat
namespace Go.Proofs.YtiaoandbdgdecaaGreat
section
set_option linter.unusedVariables false
set_option linter.unusedSimpArgs false
open Go.RowKit
set_option maxRecDepth 100000 in
set_option maxHeartbeats 1000000 in
theorem vscale_calls (a b n : Int) (w : World) : Calls Tryz.prog 56 #[vecV a b, .int .i64 n] w (Ret (vecV (mulF a n) (mulF b n)) w) := by
 obtain ⟨W, hW⟩ : ∃ W, W = (w.alloc (.cells #[.int .i64 a, .int .i64 b] 27)).alloc (.cells #[.int .i64 0, .int .i64 0] 27) := ⟨_, rfl⟩
 have k0 : W.cell? ⟨w.heap.size, 0, none⟩ = some (.int .i64 a) := by rw [hW]; go_simp
 have k1 : W.cell? ⟨w.heap.size, 1, none⟩ = some (.int .i64 b) := by rw [hW]; go_simp
 have HT : Hid (There W.drew (w.heap.size + 1) 2) := by
  rw [hW]
  exact fun j hj => by
   match j, hj with
   | 0, _ | 1, _ => exact ⟨⟨_, by go_simp; rfl⟩, by go_simp⟩
 have hB : Below w.heap.size w W := by rw [hW]; go_grown
 go_enter Tryz.func56, Tryz.ntmps56
 go_wp2_with fail
 rw [← hW]
 clear hW
 refine wp_region_noPanic ?_
 refine wp_region_U (S := (S2 (fun w' => w'.cell? ⟨w.heap.size, 0, none⟩ = some (.int .i64 (a)) ∧ w'.cell? ⟨w.heap.size, 1, none⟩ = some (.int .i64 (b)) ∧ There w' (w.heap.size + 1) 2 ∧ Below w.heap.size w w'))) (T := (fun j => [0, 0, 0, 0, 0, 0, 0, 0, 0, 1].getD j 0)) (by kernel_rfl) (S2i0 ⟨k0, k1, HT.out, hB.drew⟩) (fun hH => ?_)
 have hWr1 : Weaker (S2 (fun w' => w'.cell? ⟨w.heap.size, 0, none⟩ = some (.int .i64 (a)) ∧ w'.cell? ⟨w.heap.size, 1, none⟩ = some (.int .i64 (b)) ∧ There w' (w.heap.size + 1) 2 ∧ Below w.heap.size w w')) := weaker2 _
 refine Utn [(0, 5), (1, 6), (2, 7), (4, 9), (5, 10), (6, 11)] 4 0 0 (L' := ?Lr1_1) hWr1 hH ?hyr1_1 ?_
 case hyr1_1 => ((iterate 6 apply tkC; rfl; kernel_rfl; intro w' hSw; replace hSw := S2o0 hSw; (try dsimp only at hSw); have q0 := hSw.1; have q1 := hSw.2.1; have q2 := hSw.2.2.1; have q3 := hSw.2.2.2; (try simp only [sB, sC]); go_simp; (try with_reducible rfl)); exact tkN)
 simp only [sB, sC]
 refine U1 3 0 rfl (fun K hK => ?_)
 try clear hb
 go_simp
 (go_at_call 108; refine (fmul_calls a n _).mono ?_; rintro e wn ⟨rfl, hb⟩)
 refine hK.out _ _ ?hsr1_7 (fun hH2 => ?hrr1_7)
 case hsr1_7 => exact S2i0 (by have hG := hH; replace hG := S2o0 hG; (try dsimp only at hG); have q0 := hG.1; have q1 := hG.2.1; have q2 := hG.2.2.1; have q3 := hG.2.2.2; exact ⟨keepCell hb q0, keepCell hb q1, There.below hb q2, keepBelow hb q3⟩)
 clear hK K hH
 have hH := hH2
 clear hH2
 try simp only [Act.put, sA, sB, sC]
 refine U1 7 0 rfl (fun K hK => ?_)
 try clear hb
 go_simp
 (go_at_call 108; refine (fmul_calls b n _).mono ?_; rintro e wn ⟨rfl, hb⟩)
 refine hK.out _ _ ?hsr1_8 (fun hH2 => ?hrr1_8)
 case hsr1_8 => exact S2i0 (by have hG := hH; replace hG := S2o0 hG; (try dsimp only at hG); have q0 := hG.1; have q1 := hG.2.1; have q2 := hG.2.2.1; have q3 := hG.2.2.2; exact ⟨keepCell hb q0, keepCell hb q1, There.below hb q2, keepBelow hb q3⟩)
 clear hK K hH
 have hH := hH2
 clear hH2
 try simp only [Act.put, sA, sB, sC]
 refine Ut 8 13 1 0 0 (v := ?vr1_9) rfl hWr1 hH ?hyr1_9 ?_
 case hyr1_9 => (intro w' hSw; clear hSw; go_simp; try (with_reducible rfl))
 simp only [sB, sC]
 refine U1 9 1 rfl (fun K hK => ?_)
 have hG := hH
 replace hG := S2o0 hG; (try dsimp only at hG); have q0 := hG.1; have q1 := hG.2.1; have q2 := hG.2.2.1; have q3 := hG.2.2.2
 obtain ⟨z0, z1, y0, y1, f0, f1⟩ := q2.get2
 go_simp
 refine hK.out _ _ ?hsr1_10 (fun hH2 => ?hrr1_10)
 case hsr1_10 => exact S2i1
 clear hK K hH
 have hH := hH2
 clear hH2
 try simp only [Act.put, sA, sB, sC]
 refine wpAnyU_done (by kernel_rfl) ?_ _ _
 refine NoPanic.normal ?_
 have hl9 := lt_of_cell y0
 have hB9 := q3
 clear q0 q1 q2 q3 hH hG k0 k1 HT
 go_wp2
 refine bodyPost_ret (v := vecV (mulF a n) (mulF b n)) (by simp [results, Tryz.results56, go_sem, y0, y1, hl9]) rfl ⟨rfl, ?_⟩
 have := hB9.size
 go_grown
def dotF (a b c d : Int) : Int := addF (mulF a c) (mulF b d)
set_option maxRecDepth 100000 in
set_option maxHeartbeats 1000000 in
theorem vdot_calls (a b c d : Int) (w : World) : Calls Tryz.prog 109 #[vecV a b, vecV c d] w (Ret (.int .i64 (dotF a b c d)) w) := by
 obtain ⟨W, hW⟩ : ∃ W, W = (w.alloc (.cells #[.int .i64 a, .int .i64 b] 27)).alloc (.cells #[.int .i64 c, .int .i64 d] 27) := ⟨_, rfl⟩
 have k0 : W.cell? ⟨w.heap.size, 0, none⟩ = some (.int .i64 a) := by rw [hW]; go_simp
 have k1 : W.cell? ⟨w.heap.size, 1, none⟩ = some (.int .i64 b) := by rw [hW]; go_simp
 have k2 : W.cell? ⟨w.heap.size + 1, 0, none⟩ = some (.int .i64 c) := by rw [hW]; go_simp
 have k3 : W.cell? ⟨w.heap.size + 1, 1, none⟩ = some (.int .i64 d) := by rw [hW]; go_simp
 have hB : Below w.heap.size w W := by rw [hW]; go_grown
 go_enter Tryz.func109, Tryz.ntmps109
 go_wp2_with fail
 rw [← hW]
 clear hW
 refine wp_region_noPanic ?_
 refine wp_region_U (S := (S2 (fun w' => w'.cell? ⟨w.heap.size, 0, none⟩ = some (.int .i64 (a)) ∧ w'.cell? ⟨w.heap.size, 1, none⟩ = some (.int .i64 (b)) ∧ w'.cell? ⟨w.heap.size + 1, 0, none⟩ = some (.int .i64 (c)) ∧ w'.cell? ⟨w.heap.size + 1, 1, none⟩ = some (.int .i64 (d)) ∧ Below w.heap.size w w'))) (T := (fun _ => 0)) (by kernel_rfl) (S2i0 ⟨k0, k1, k2, k3, hB.drew⟩) (fun hH => ?_)
 have hWr2 : Weaker (S2 (fun w' => w'.cell? ⟨w.heap.size, 0, none⟩ = some (.int .i64 (a)) ∧ w'.cell? ⟨w.heap.size, 1, none⟩ = some (.int .i64 (b)) ∧ w'.cell? ⟨w.heap.size + 1, 0, none⟩ = some (.int .i64 (c)) ∧ w'.cell? ⟨w.heap.size + 1, 1, none⟩ = some (.int .i64 (d)) ∧ Below w.heap.size w w')) := weaker2 _
 refine Utn [(0, 5), (1, 6), (2, 7), (3, 8), (5, 10), (6, 11), (7, 12), (8, 13)] 4 0 0 (L' := ?Lr2_1) hWr2 hH ?hyr2_1 ?_
 case hyr2_1 => ((iterate 8 apply tkC; rfl; kernel_rfl; intro w' hSw; replace hSw := S2o0 hSw; (try dsimp only at hSw); have q0 := hSw.1; have q1 := hSw.2.1; have q2 := hSw.2.2.1; have q3 := hSw.2.2.2.1; have q4 := hSw.2.2.2.2; (try simp only [sB, sC]); go_simp; (try with_reducible rfl)); exact tkN)
 simp only [sB, sC]
 refine U1 4 0 rfl (fun K hK => ?_)
 try clear hb
 go_simp
 (go_at_call 108; refine (fmul_calls a c _).mono ?_; rintro e wn ⟨rfl, hb⟩)
 refine hK.out _ _ ?hsr2_9 (fun hH2 => ?hrr2_9)
 case hsr2_9 => exact S2i0 (by have hG := hH; replace hG := S2o0 hG; (try dsimp only at hG); have q0 := hG.1; have q1 := hG.2.1; have q2 := hG.2.2.1; have q3 := hG.2.2.2.1; have q4 := hG.2.2.2.2; exact ⟨keepCell hb q0, keepCell hb q1, keepCell hb q2, keepCell hb q3, keepBelow hb q4⟩)
 clear hK K hH
 have hH := hH2
 clear hH2
 try simp only [Act.put, sA, sB, sC]
 refine U1 9 0 rfl (fun K hK => ?_)
 try clear hb
 go_simp
 (go_at_call 108; refine (fmul_calls b d _).mono ?_; rintro e wn ⟨rfl, hb⟩)
 refine hK.out _ _ ?hsr2_10 (fun hH2 => ?hrr2_10)
 case hsr2_10 => exact S2i0 (by have hG := hH; replace hG := S2o0 hG; (try dsimp only at hG); have q0 := hG.1; have q1 := hG.2.1; have q2 := hG.2.2.1; have q3 := hG.2.2.2.1; have q4 := hG.2.2.2.2; exact ⟨keepCell hb q0, keepCell hb q1, keepCell hb q2, keepCell hb q3, keepBelow hb q4⟩)
 clear hK K hH
 have hH := hH2
 clear hH2
 try simp only [Act.put, sA, sB, sC]
 refine U1 10 0 rfl (fun K hK => ?_)
 try clear hb
 go_simp
 (go_at_call 105; refine (fadd_calls (mulF a c) (mulF b d) _).mono ?_; rintro e wn ⟨rfl, hb⟩)
 refine hK.out _ _ ?hsr2_11 (fun hH2 => ?hrr2_11)
 case hsr2_11 => exact S2i0 (by have hG := hH; replace hG := S2o0 hG; (try dsimp only at hG); have q0 := hG.1; have q1 := hG.2.1; have q2 := hG.2.2.1; have q3 := hG.2.2.2.1; have q4 := hG.2.2.2.2; exact ⟨keepCell hb q0, keepCell hb q1, keepCell hb q2, keepCell hb q3, keepBelow hb q4⟩)
 clear hK K hH
 have hH := hH2
 clear hH2
 try simp only [Act.put, sA, sB, sC]
 refine Ut 11 4 0 0 0 (v := ?vr2_12) rfl hWr2 hH ?hyr2_12 ?_
 case hyr2_12 => (intro w' hSw; clear hSw; go_simp; try (with_reducible rfl))
 simp only [sB, sC]
 refine wpAnyU_done (by kernel_rfl) ?_ _ _
 refine NoPanic.normal ?_
 clear hWr2
 replace hH := S2o0 hH
 (try dsimp only at hH)
 have q0 := hH.1
 have q1 := hH.2.1
 have q2 := hH.2.2.1
 have q3 := hH.2.2.2.1
 have q4 := hH.2.2.2.2
 go_wp2
 go_returns
 exact ret_int rfl q4
end
end Go.Proofs.YtiaoandbdgdecaaGreat
namespace Go.Proofs.YtiaoandbdgdecaaGreat
section
set_option linter.unusedVariables false
set_option linter.unusedSimpArgs false
open Go.RowKit

def pulE (a b : Bd) (p1 p2 q1 q2 v1 v2 : Int) : Int := addF (easeR a p1 p2 v1 v2) (easeR b q1 q2 v1 v2)
def pulV (a b : Bd) (p1 p2 q1 q2 v1 v2 : Int) : Int := dotF (subF (speedX b q1 q2) (speedX a p1 p2)) (subF (speedY b q1 q2) (speedY a p1 p2)) v1 v2

abbrev QB := Bd × List V
def qB (Q : List QB) (i : Int) : Bd := match Q[i.toNat]? with | some y => y.1 | none => bd0
def putQ (Q : List QB) (k : Nat) (b : Bd) : List QB := match Q[k]? with | some y => Q.set k (b, y.2) | none => Q
theorem putQ_eq {Q : List QB} {k : Nat} {y : QB} (h : Q[k]? = some y) (b : Bd) : putQ Q k b = Q.set k (b, y.2) := by unfold putQ; rw [h]
theorem qB_at {Q : List QB} {i : Int} {k : Nat} {y : QB} (hi : i = k) (h : Q[k]? = some y) : qB Q i = y.1 := by unfold qB; rw [hi, Int.toNat_natCast, h]

def bothQ (Q : List QB) (ka kb : Nat) (p1 p2 q1 q2 j1 j2 : Int) : List QB := putQ (putQ Q ka (pushR (qB Q ka) (-j1) (-j2) p1 p2)) kb (pushR (qB Q kb) j1 j2 q1 q2)

structure Like (y y' : QB) : Prop where
 l : y'.2 = y.2
 px : y'.1.px = y.1.px
 py : y'.1.py = y.1.py
 ang : y'.1.ang = y.1.ang
 mass : y'.1.mass = y.1.mass
 rest : y.1.mass = 0 → y' = y
 ok : bodyE y.1 y.2 = 0 → bodyE y'.1 y'.2 = 0
theorem Like.refl (y : QB) : Like y y := ⟨rfl, rfl, rfl, rfl, rfl, fun _ => rfl, fun h => h⟩
theorem Like.trans {y y' z : QB} (h : Like y y') (h' : Like y' z) : Like y z :=
 ⟨h'.l.trans h.l, h'.px.trans h.px, h'.py.trans h.py, h'.ang.trans h.ang, h'.mass.trans h.mass, fun e => by rw [h'.rest (by rw [h.mass]; exact e), h.rest e], fun e => h'.ok (h.ok e)⟩
theorem Like.push (y : QB) (j1 j2 u v : Int) : Like y (pushR y.1 j1 j2 u v, y.2) := by
 refine ⟨rfl, ?_, ?_, ?_, ?_, fun e => ?_, fun e => pushR_ok e _ _ _ _⟩ <;> unfold pushR
 iterate 4 (split <;> rfl)
 rw [if_pos (.inl e)]
structure LikeL (Q Q' : List QB) : Prop where
 len : Q'.length = Q.length
 at_ : ∀ (k : Nat) (y : QB), Q[k]? = some y → ∃ y', Q'[k]? = some y' ∧ Like y y'
theorem LikeL.refl (Q : List QB) : LikeL Q Q := ⟨rfl, fun k y h => ⟨y, h, .refl y⟩⟩
theorem LikeL.trans {Q Q' R : List QB} (h : LikeL Q Q') (h' : LikeL Q' R) : LikeL Q R :=
 ⟨h'.len.trans h.len, fun k y hy => by
  obtain ⟨y', e, l⟩ := h.at_ k y hy
  obtain ⟨z, e', l'⟩ := h'.at_ k y' e
  exact ⟨z, e', l.trans l'⟩⟩
theorem LikeL.put {Q : List QB} {k : Nat} {y : QB} (h : Q[k]? = some y) {b : Bd} (hb : Like y (b, y.2)) : LikeL Q (putQ Q k b) := by
 rw [putQ_eq h]
 refine ⟨by simp, fun j z hz => ?_⟩
 by_cases e : k = j
 ·subst e
  rw [h] at hz; cases hz
  have hk : k < Q.length := (List.getElem?_eq_some_iff.1 h).1
  exact ⟨_, by rw [List.getElem?_set_self hk], hb⟩
 ·exact ⟨z, by rw [List.getElem?_set_ne e]; exact hz, .refl z⟩
theorem LikeL.qB {Q Q' : List QB} (h : LikeL Q Q') (i : Int) : (Go.Proofs.YtiaoandbdgdecaaGreat.qB Q' i).px = (Go.Proofs.YtiaoandbdgdecaaGreat.qB Q i).px ∧ (Go.Proofs.YtiaoandbdgdecaaGreat.qB Q' i).py = (Go.Proofs.YtiaoandbdgdecaaGreat.qB Q i).py ∧ (Go.Proofs.YtiaoandbdgdecaaGreat.qB Q' i).ang = (Go.Proofs.YtiaoandbdgdecaaGreat.qB Q i).ang ∧ (Go.Proofs.YtiaoandbdgdecaaGreat.qB Q' i).mass = (Go.Proofs.YtiaoandbdgdecaaGreat.qB Q i).mass := by
 unfold Go.Proofs.YtiaoandbdgdecaaGreat.qB
 rcases hq : Q[i.toNat]? with _ | y
 ·have : Q'[i.toNat]? = none := by rw [List.getElem?_eq_none_iff] at hq ⊢; rw [h.len]; exact hq
  rw [this]; exact ⟨rfl, rfl, rfl, rfl⟩
 ·obtain ⟨y', e, l⟩ := h.at_ _ y hq
  rw [e]; exact ⟨l.px, l.py, l.ang, l.mass⟩
theorem LikeL.wX {Q Q' : List QB} (h : LikeL Q Q') (i : Int) (p q : Int) : Go.Proofs.YtiaoandbdgdecaaGreat.wX (Go.Proofs.YtiaoandbdgdecaaGreat.qB Q' i) p q = Go.Proofs.YtiaoandbdgdecaaGreat.wX (Go.Proofs.YtiaoandbdgdecaaGreat.qB Q i) p q := by
 obtain ⟨h1, h2, h3, h4⟩ := h.qB i
 unfold Go.Proofs.YtiaoandbdgdecaaGreat.wX; rw [h1, h3]
theorem LikeL.wY {Q Q' : List QB} (h : LikeL Q Q') (i : Int) (p q : Int) : Go.Proofs.YtiaoandbdgdecaaGreat.wY (Go.Proofs.YtiaoandbdgdecaaGreat.qB Q' i) p q = Go.Proofs.YtiaoandbdgdecaaGreat.wY (Go.Proofs.YtiaoandbdgdecaaGreat.qB Q i) p q := by
 obtain ⟨h1, h2, h3, h4⟩ := h.qB i
 unfold Go.Proofs.YtiaoandbdgdecaaGreat.wY; rw [h2, h3]
theorem bothQ_like {Q : List QB} {ka kb : Nat} (ha : ka < Q.length) (hb : kb < Q.length) (hab : ka ≠ kb) (p1 p2 q1 q2 j1 j2 : Int) : LikeL Q (bothQ Q ka kb p1 p2 q1 q2 j1 j2) := by
 have e1 : Q[ka]? = some Q[ka] := List.getElem?_eq_getElem ha
 have e2 : Q[kb]? = some Q[kb] := List.getElem?_eq_getElem hb
 unfold bothQ
 rw [qB_at rfl e1, qB_at rfl e2]
 refine (LikeL.put e1 (Like.push _ _ _ _ _)).trans (LikeL.put (y := Q[kb]) ?_ (Like.push _ _ _ _ _))
 rw [putQ_eq e1, List.getElem?_set_ne hab]; exact e2




theorem like_valid {L L' : List BE} (h : LikeL (L.map valB) (L'.map valB)) (hv : ∀ x ∈ L, bodyE x.b x.l = 0) : ∀ x ∈ L', bodyE x.b x.l = 0 := fun x hx => by
 obtain ⟨k, hk, rfl⟩ := List.getElem_of_mem hx
 have hk' : k < L.length := by have := h.len; simp at this; omega
 obtain ⟨y', e, l⟩ := h.at_ k (valB L[k]) (by rw [List.getElem?_map, List.getElem?_eq_getElem hk']; rfl)
 rw [List.getElem?_map, List.getElem?_eq_getElem hk] at e
 have e : some (valB L'[k]) = some y' := e
 cases e
 exact l.ok (hv _ (List.getElem_mem _))
theorem dotF_bd (a b c d : Int) : -1099511627776 ≤ dotF a b c d ∧ dotF a b c d ≤ 1099511627776 := clampF_bd _
end
end Go.Proofs.YtiaoandbdgdecaaGreat
