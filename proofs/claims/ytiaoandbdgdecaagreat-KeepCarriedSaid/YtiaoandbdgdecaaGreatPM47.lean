/- Parts of a proof: contracts and laws. -/
import Derived.Test.YtiaoandbdgdecaaGreatPM44
import Derived.Test.YtiaoandbdgdecaaGreatPM12
import Derived.Test.YtiaoandbdgdecaaGreatPM45
import Derived.Test.YtiaoandbdgdecaaGreatPM14
import Derived.Test.YtiaoandbdgdecaaGreatPM11
import Derived.Test.YtiaoandbdgdecaaGreatPM32
import Derived.Test.YtiaoandbdgdecaaGreatPM09
import Derived.Test.YtiaoandbdgdecaaGreatPMLB
import Derived.Test.YtiaoandbdgdecaaGreatPM38
import Derived.Test.YtiaoandbdgdecaaGreatPM36
import Derived.Test.YtiaoandbdgdecaaGreatPM41
import Derived.Test.YtiaoandbdgdecaaGreatPM18
import Derived.Test.YtiaoandbdgdecaaGreatPM40
import Derived.Laws.StructEq
namespace Go.Proofs.YtiaoandbdgdecaaGreat
section
set_option linter.unusedVariables false
set_option linter.unusedSimpArgs false
open Go.RowKit
theorem bodiesE_ok {L : List BE} (h : L.length ≤ 64) (hv : ∀ x ∈ L, bodyE x.b x.l = 0) : bodiesE L = 0 := by
 unfold bodiesE
 rw [if_neg (by omega)]
 have : ∀ k, k ≤ L.length → bodiesTo L k = 0 := fun k => by
  induction k with
  | zero => intro _; rfl
  | succ k ih =>
   intro hk
   rw [bodiesTo_succ (by omega), if_neg (by rw [ih (by omega)]; simp)]
   exact hv _ (List.getElem_mem _)
 exact this _ (Nat.le_refl _)






end
end Go.Proofs.YtiaoandbdgdecaaGreat
namespace Go.Proofs.YtiaoandbdgdecaaGreat
section
set_option linter.unusedVariables false
set_option linter.unusedSimpArgs false
open Go.RowKit


theorem ptsG_ids (ref : List V) (e : Nat) (way : V) (id : Int) (g : (V × V) × Bool) : (ptsG ref e way id g 2).Pairwise fun p q => p.2.2 < q.2.2 := by
 have e2 : ptsG ref e way id g 2 = (if g.2 = true ∧ 0 ≤ dptZ ref e g.1.1.1 g.1.1.2 then [ptA ref e way g.1.1 id] else []) ++ (if g.2 = true ∧ 0 ≤ dptZ ref e g.1.2.1 g.1.2.2 ∧ g.1.2 ≠ g.1.1 then [ptA ref e way g.1.2 (id + 1)] else []) := rfl
 rw [e2]
 split <;> split
 ·show List.Pairwise _ [_, _]
  rw [List.pairwise_cons]
  refine ⟨fun q hq => ?_, List.pairwise_singleton _ _⟩
  rw [List.mem_singleton] at hq
  subst hq
  show id < id + 1
  omega
 ·exact List.pairwise_singleton _ _
 ·exact List.pairwise_singleton _ _
 ·exact List.Pairwise.nil
theorem ptsZ_ids (l m : List V) : (ptsZ l m).Pairwise fun p q => p.2.2 < q.2.2 := by
 have hR : ∀ (ref inc : List V) (e : Nat) (way : V) (id0 : Int), (ptsR ref inc e way id0).Pairwise fun p q => p.2.2 < q.2.2 := fun ref inc e way id0 => by
  unfold ptsR
  split
  ·exact List.pairwise_singleton _ _
  ·exact ptsG_ids _ _ _ _ _
 unfold ptsZ
 split
 ·exact List.Pairwise.nil
 ·split <;> exact hR _ _ _ _ _
theorem mem_fnd {L : List BE} {c : Ct} : c ∈ fndL L ↔ ∃ p, p ∈ nearL L ∧ ∃ t, t ∈ ptsZ (plAt L p.1) (plAt L p.2) ∧ c = ptC p t := by
 unfold fndL fndP
 simp only [List.mem_flatMap, List.mem_map]
 constructor
 ·rintro ⟨p, hp, t, ht, rfl⟩; exact ⟨p, hp, t, ht, rfl⟩
 ·rintro ⟨p, hp, t, ht, rfl⟩; exact ⟨p, hp, t, ht, rfl⟩
theorem fnd_sorted (L : List BE) : (fndL L).Pairwise fun x y => ordC x y = -1 := by
 unfold fndL
 rw [List.pairwise_flatMap]
 refine ⟨fun p _ => ?_, (near_sorted L).imp fun {p q} h => fun x hx y hy => ?_⟩
 ·unfold fndP
  rw [List.pairwise_map]
  refine (ptsZ_ids _ _).imp fun {s t} h => ?_
  unfold ordC sgK ptC
  dsimp only
  rw [if_neg (by simp), if_neg (by simp), if_pos h]
 ·unfold fndP at hx hy
  rw [List.mem_map] at hx hy
  obtain ⟨s, -, rfl⟩ := hx
  obtain ⟨t, -, rfl⟩ := hy
  unfold ordC sgK ptC
  dsimp only
  rcases h with h | ⟨h1, h2⟩
  ·rw [if_pos (by rw [if_pos (by omega)]; decide), if_pos (by omega)]
  ·rw [if_neg (by rw [if_neg (by omega), if_neg (by omega)]; decide), if_pos (by rw [if_pos (by omega)]; decide), if_pos (by omega)]

def keyC (c : Ct) : Int × Int × Int := (c.a, c.b, c.id)
theorem ordC_key {x y x' y' : Ct} (h1 : keyC x = keyC x') (h2 : keyC y = keyC y') : ordC x y = ordC x' y' := by
 unfold keyC at h1 h2
 simp only [Prod.mk.injEq] at h1 h2
 unfold ordC
 rw [h1.1, h1.2.1, h1.2.2, h2.1, h2.2.1, h2.2.2]
theorem sameK_key {x o : Ct} : sameK x o = true ↔ keyC o = keyC x := by
 unfold sameK keyC
 rw [decide_eq_true_iff]
 simp only [Prod.mk.injEq]
theorem sorted_ne {C : List Ct} (h : C.Pairwise fun x y => ordC x y = -1) {i j : Nat} (hi : i < C.length) (hj : j < C.length) (hij : i < j) : keyC C[i] ≠ keyC C[j] := fun e => by
 have h1 := List.pairwise_iff_getElem.1 h i j hi hj hij
 have h2 := ordC_zero.2 (sameK_key.2 e)
 omega

theorem carL_self {C old : List Ct} (h : C.Pairwise fun x y => ordC x y = -1) (hl : old.length = C.length) (ho : ∀ i (hi : i < C.length), ∃ p s, old[i]'(by omega) = { C[i] with push := p, sli := s }) : carL old C = old := by
 have hk : ∀ i (hi : i < C.length), keyC (old[i]'(by omega)) = keyC C[i] := fun i hi => by
  obtain ⟨p, s, e⟩ := ho i hi
  rw [e]
  rfl
 refine List.ext_getElem (by unfold carL; rw [List.length_map]; omega) fun i h1 h2 => ?_
 have hi : i < C.length := by omega
 have e0 : (carL old C)[i] = carC old C[i] := by simp [carL]
 rw [e0, carC_at h2 (sameK_key.2 (hk i hi)) fun j hj hji => ?_]
 ·obtain ⟨p, s, e⟩ := ho i hi
  rw [e]
 ·rw [Bool.eq_false_iff]
  intro e
  have := sameK_key.1 e
  rw [hk j (by omega)] at this
  exact sorted_ne h (by omega) hi hji this
theorem carL_nil (C : List Ct) (h : ∀ c ∈ C, c.push = 0 ∧ c.sli = 0) : carL [] C = C := by
 unfold carL
 have e : ∀ c ∈ C, carC [] c = c := fun c hc => by
  obtain ⟨h1, h2⟩ := h c hc
  unfold carC
  rw [List.find?_nil]
  obtain ⟨⟩ := c
  simp only at h1 h2
  subst h1 h2
  rfl
 induction C with
 | nil => rfl
 | cons a C ih => rw [List.map_cons, e a (List.mem_cons_self ..), ih (fun c hc => h c (List.mem_cons_of_mem _ hc)) (fun c hc => e c (List.mem_cons_of_mem _ hc))]
theorem fnd_zero (L : List BE) : ∀ c ∈ fndL L, c.push = 0 ∧ c.sli = 0 := fun c hc => by
 obtain ⟨p, -, t, -, rfl⟩ := mem_fnd.1 hc
 exact ⟨rfl, rfl⟩

theorem made_all {L : List BE} (h : ∀ x ∈ L, MadeB x.b ∧ Made x.l) : ∀ x ∈ L, bodyE x.b x.l = 0 := fun x hx => madeB_ok (h x hx).1 (h x hx).2
end
end Go.Proofs.YtiaoandbdgdecaaGreat
namespace Go.Proofs.YtiaoandbdgdecaaGreat
section
set_option linter.unusedVariables false
set_option linter.unusedSimpArgs false
open Go.RowKit
def bdK (x y m : Int) : Bd := ⟨x * 65536, y * 65536, 0, 0, 0, 0, m, m, 0, 0, false, 0⟩
def RetBlk (b : Bd) (l : List V) (w : World) (e : Ending) (w' : World) : Prop := ∃ A n c, e = .returned (bodyV b A n c) ∧ Sl w' A n c l ∧ (∀ bx off, A = some ⟨bx, off, none⟩ → w.heap.size ≤ bx) ∧ Below w.heap.size w w'
theorem squareKV_calls (x y s : Int) (hx : -1048576 ≤ x ∧ x ≤ 1048576) (hy : -1048576 ≤ y ∧ y ≤ 1048576) (hs : -1048576 ≤ s ∧ s ≤ 1048576) (w : World) : Calls Tryz.prog 81 #[.int .i64 x, .int .i64 y, .int .i64 s] w (RetVecs (sqK x y s) w) := by
 go_enter Tryz.func81, Tryz.ntmps81
 go_wp2
 go_returns
 exact ⟨_, _, _, rfl, Sl.of4 _ _ _ _ _ _ _ _ (by go_simp) (by go_simp) (by go_simp) (by go_simp) (by go_simp) (by go_simp) (by go_simp) (by go_simp) (by omega) (by omega), fun b off e => by cases e; simp, by go_grown⟩
theorem Sl.setBdN {w : World} {A : Option Addr} {n c g : Nat} {l : List V} (h : Sl w A n c l) (b : Bd) (A' : Option Addr) (n' c' : Nat) (hne : l ≠ [] → ∀ bx off, A = some ⟨bx, off, none⟩ → bx ≠ g) : Sl (Go.Proofs.YtiaoandbdgdecaaGreat.setBd w g b A' n' c') A n c l := by
 by_cases hl : l = []
 ·exact ⟨h.len, h.cap, h.big, fun hne => absurd hl hne⟩
 ·unfold Go.Proofs.YtiaoandbdgdecaaGreat.setBd
  iterate 13 refine Sl.setAt ?_ (hne hl)
  exact h
theorem Sl.setAt2 {w : World} {A : Option Addr} {n c g o : Nat} {l : List V} {v : Value} (h : Sl w A n c l) (hne : l ≠ [] → ∀ b off, A = some ⟨b, off, none⟩ → b ≠ g) : Sl (w.setCell ⟨g, o, none⟩ v) A n c l := by
 by_cases hl : l = []
 ·exact ⟨h.len, h.cap, h.big, fun k => absurd hl k⟩
 ·exact h.setAt (hne hl)
set_option maxRecDepth 100000 in
set_option maxHeartbeats 2000000 in
theorem kblock_calls_fix (x y h : Int) (hx : -1048576 ≤ x ∧ x ≤ 1048576) (hy : -1048576 ≤ y ∧ y ≤ 1048576) (hh : -1048576 ≤ h ∧ h ≤ 1048576) (w : World) : Calls Tryz.prog 37 #[.int .i64 x, .int .i64 y, .int .i64 h, .bool false] w (RetBlk (bdK x y 0) (sqK 0 0 h) w) := by
 have HSQ := hid (squareKV_calls 0 0 h (by omega) (by omega) hh)
 generalize sqK 0 0 h = q at *
 obtain ⟨W, hW⟩ : ∃ W, W = w.alloc (.cells #[.int .i64 0, .int .i64 0, .int .i64 0, .int .i64 0, .int .i64 0, .int .i64 0, .int .i64 0, .int .i64 0, .int .i64 0, .int .i64 0, .slice none 0 0, .bool false, .int .i64 0] 58) := ⟨_, rfl⟩
 have HZ := hid (show BdZ W w.heap.size by rw [hW]; exact BdZ.of (BdAt.here w (bdK 0 0 0) none 0 0 _))
 have hB0 : Below w.heap.size w W := by rw [hW]; go_grown
 go_enter Tryz.func37, Tryz.ntmps37
 go_wp2_with fail
 rw [← hW]
 clear hW
 refine (HSQ.out _).mono ?_
 rintro e w1 ⟨A, n, c, rfl, hs, hf, hb⟩
 have HF := hid hf
 have hB := keepBelow hb hB0
 have hlt : w.heap.size < W.heap.size := HZ.out.lt
 have HLT := hid hlt
 replace HZ := hid (keepBdZ hb HZ.out)
 obtain ⟨w2, hw2⟩ : ∃ w2, w2 = w1.alloc (.cells #[.int .i64 (x * 65536), .int .i64 (y * 65536), .int .i64 0, .int .i64 0, .int .i64 0, .int .i64 0, .int .i64 0, .int .i64 0, .int .i64 0, .int .i64 0, .slice A n c, .bool false, .int .i64 0] 58) := ⟨_, rfl⟩
 obtain ⟨g, hg⟩ : ∃ g, g = w1.heap.size := ⟨_, rfl⟩
 have HK := hid (show BdAt w2 g (bdK x y 0) A n c by rw [hw2, hg]; exact BdAt.here w1 (bdK x y 0) A n c _)
 have HS := hid (show Sl w2 A n c q by rw [hw2]; exact hs.below ((Below.refl _ _).alloc (Nat.le_refl _) _))
 have HZ2 := hid (show BdZ w2 w.heap.size by rw [hw2]; exact HZ.out.alloc _)
 have hB2 : Below w.heap.size w w2 := by rw [hw2]; exact hB.alloc hB.size _
 have HGF : Hid (q ≠ [] → ∀ bx off, A = some ⟨bx, off, none⟩ → bx ≠ g) := fun hne bx off e => by
  obtain ⟨b', off', e', hc⟩ := hs.at_ hne
  have := hc.lt
  rw [e] at e'; cases e'; rw [hg]; omega
 have HNF : Hid (∀ bx off, A = some ⟨bx, off, none⟩ → w.heap.size ≤ bx) := fun bx off e => by have := hf bx off e; omega
 have hgw : w.heap.size < g := by have := hb.size; rw [hg]; omega
 obtain ⟨z0, z1, z2, z3, z4, z5, z6, z7, z8, z9, z10, z11, z12, y0, y1, y2, y3, y4, y5, y6, y7, y8, y9, y10, y11, y12⟩ := HZ2.out.all
 have yf := HZ2.out.free
 obtain ⟨k0, k1, k2, k3, k4, k5, k6, k7, k8, k9, k10, k11, k12, kf⟩ := HK.out
 have hl1 : w.heap.size < w2.heap.size := HZ2.out.lt
 have hl2 : g < w2.heap.size := HK.out.lt
 clear hs hf hb hB hB0 hlt HZ HSQ HK
 simp only [bdK] at k0 k1 k2 k3 k4 k5 k6 k7 k8 k9 k11 k12
 go_upto_if 18 with fail
 rw [← hw2, ← hg]
 clear hw2 hg
 go_wp2
 refine bodyPost_ret (v := bodyV (bdK x y 0) A n c) (by simp [results, Tryz.results37, go_sem, y0, y1, y2, y3, y4, y5, y6, y7, y8, y9, y10, y11, y12, hl1, bodyV, bdK]) rfl ⟨A, n, c, rfl, ?_, HNF.out, ?_⟩
 ·exact HS.out.setBd (bdK x y 0) (fun bx off e h => by have := HF.out bx off e; have := HLT.out; omega)
 ·go_grown
set_option maxRecDepth 100000 in
set_option maxHeartbeats 2000000 in
theorem kblock_calls_mov (x y h : Int) (hx : -1048576 ≤ x ∧ x ≤ 1048576) (hy : -1048576 ≤ y ∧ y ≤ 1048576) (hh : -1048576 ≤ h ∧ h ≤ 1048576) (w : World) : Calls Tryz.prog 37 #[.int .i64 x, .int .i64 y, .int .i64 h, .bool true] w (RetBlk (bdK x y 65536) (sqK 0 0 h) w) := by
 have HSQ := hid (squareKV_calls 0 0 h (by omega) (by omega) hh)
 generalize sqK 0 0 h = q at *
 obtain ⟨W, hW⟩ : ∃ W, W = w.alloc (.cells #[.int .i64 0, .int .i64 0, .int .i64 0, .int .i64 0, .int .i64 0, .int .i64 0, .int .i64 0, .int .i64 0, .int .i64 0, .int .i64 0, .slice none 0 0, .bool false, .int .i64 0] 58) := ⟨_, rfl⟩
 have HZ := hid (show BdZ W w.heap.size by rw [hW]; exact BdZ.of (BdAt.here w (bdK 0 0 0) none 0 0 _))
 have hB0 : Below w.heap.size w W := by rw [hW]; go_grown
 go_enter Tryz.func37, Tryz.ntmps37
 go_wp2_with fail
 rw [← hW]
 clear hW
 refine (HSQ.out _).mono ?_
 rintro e w1 ⟨A, n, c, rfl, hs, hf, hb⟩
 have HF := hid hf
 have hB := keepBelow hb hB0
 have hlt : w.heap.size < W.heap.size := HZ.out.lt
 have HLT := hid hlt
 replace HZ := hid (keepBdZ hb HZ.out)
 obtain ⟨w2, hw2⟩ : ∃ w2, w2 = w1.alloc (.cells #[.int .i64 (x * 65536), .int .i64 (y * 65536), .int .i64 0, .int .i64 0, .int .i64 0, .int .i64 0, .int .i64 0, .int .i64 0, .int .i64 0, .int .i64 0, .slice A n c, .bool false, .int .i64 0] 58) := ⟨_, rfl⟩
 obtain ⟨g, hg⟩ : ∃ g, g = w1.heap.size := ⟨_, rfl⟩
 have HK := hid (show BdAt w2 g (bdK x y 0) A n c by rw [hw2, hg]; exact BdAt.here w1 (bdK x y 0) A n c _)
 have HS := hid (show Sl w2 A n c q by rw [hw2]; exact hs.below ((Below.refl _ _).alloc (Nat.le_refl _) _))
 have HZ2 := hid (show BdZ w2 w.heap.size by rw [hw2]; exact HZ.out.alloc _)
 have hB2 : Below w.heap.size w w2 := by rw [hw2]; exact hB.alloc hB.size _
 have HGF : Hid (q ≠ [] → ∀ bx off, A = some ⟨bx, off, none⟩ → bx ≠ g) := fun hne bx off e => by
  obtain ⟨b', off', e', hc⟩ := hs.at_ hne
  have := hc.lt
  rw [e] at e'; cases e'; rw [hg]; omega
 have HNF : Hid (∀ bx off, A = some ⟨bx, off, none⟩ → w.heap.size ≤ bx) := fun bx off e => by have := hf bx off e; omega
 have hgw : w.heap.size < g := by have := hb.size; rw [hg]; omega
 obtain ⟨z0, z1, z2, z3, z4, z5, z6, z7, z8, z9, z10, z11, z12, y0, y1, y2, y3, y4, y5, y6, y7, y8, y9, y10, y11, y12⟩ := HZ2.out.all
 have yf := HZ2.out.free
 obtain ⟨k0, k1, k2, k3, k4, k5, k6, k7, k8, k9, k10, k11, k12, kf⟩ := HK.out
 have hl1 : w.heap.size < w2.heap.size := HZ2.out.lt
 have hl2 : g < w2.heap.size := HK.out.lt
 clear hs hf hb hB hB0 hlt HZ HSQ HK
 simp only [bdK] at k0 k1 k2 k3 k4 k5 k6 k7 k8 k9 k11 k12
 go_upto_if 18 with fail
 rw [← hw2, ← hg]
 clear hw2 hg
 go_wp2
 refine bodyPost_ret (v := bodyV (bdK x y 65536) A n c) (by simp [results, Tryz.results37, go_sem, y0, y1, y2, y3, y4, y5, y6, y7, y8, y9, y10, y11, y12, hl1, bodyV, bdK]) rfl ⟨A, n, c, rfl, ?_, HNF.out, ?_⟩
 ·exact Sl.setBdN (Sl.setAt2 (Sl.setAt2 HS.out HGF.out) HGF.out) (bdK x y 65536) A n c (fun hne bx off e => by have := HF.out bx off e; have := HLT.out; omega)
 ·go_grown
end
end Go.Proofs.YtiaoandbdgdecaaGreat
namespace Go.Proofs.YtiaoandbdgdecaaGreat
section
set_option linter.unusedVariables false
set_option linter.unusedSimpArgs false
open Go.RowKit

set_option maxRecDepth 100000 in
theorem run_eqP (x1 x2 y1 y2 : Int) (w : World) : (Op.equalIn 10000 44 (.agg #[.int .i64 x1, .int .i64 x2]) (.agg #[.int .i64 y1, .int .i64 y2])).run Tryz.prog w = .ok (x1 == y1 && x2 == y2) w := by
 have u3 := Tryz.underlying3
 have a3 := Tryz.isAgg3
 have z3 := Tryz.sizeOf3
 rw [show (10000 : Nat) = 9999 + 1 from rfl, Op.equalIn]
 simp only [Sem.run_bind, run_underlying Tryz.underlying44, Result.andThen_ok]
 simp only [Std.Legacy.Range.forIn_eq_forIn_range', Std.Legacy.Range.size, Nat.sub_zero, Nat.add_sub_cancel, Nat.div_one, List.range'_succ, List.range'_zero, List.forIn_cons, List.forIn_nil]
 go_simp
 by_cases h1 : x1 = y1 <;> by_cases h2 : x2 = y2 <;> simp [h1, h2]
theorem CellsE.pair {w : World} {b off : Nat} {l : List (Nat × Nat)} (h : CellsE layPair w b off l) {i : Nat} (hi : i < l.length) :
  w.cell? ⟨b, off + i * 2, none⟩ = some (.int .i64 (l[i].1 : Nat)) ∧ w.cell? ⟨b, off + i * 2 + 1, none⟩ = some (.int .i64 (l[i].2 : Nat)) := ⟨h.at_ i hi 0 _ rfl, h.at_ i hi 1 _ rfl⟩
set_option maxRecDepth 100000 in
set_option maxHeartbeats 2000000 in
end
end Go.Proofs.YtiaoandbdgdecaaGreat
