/- Parts of a proof: contracts and laws. -/
import Derived.Test.YtbajmekmpgfpeaaB21
import Derived.Test.YtbajmekmpgfpeaaB25
import Derived.Test.YtbajmekmpgfpeaaB15
import Derived.Test.YtbajmekmpgfpeaaB28
import Derived.Test.YtbajmekmpgfpeaaB11
import Derived.Test.YtbajmekmpgfpeaaB37
namespace Go.Proofs.Ytbajmekmpgfpeaa
section
set_option linter.unusedVariables false
set_option linter.unusedSimpArgs false
open Go.RowKit
set_option maxRecDepth 100000 in
set_option maxHeartbeats 4000000 in
theorem equalFuncB_calls (F : Nat) (hcf : ∀ (args : Array Value) (w : World), (callFunc F args).run Try.prog w = .ok (.enter F args) w) (hF : ∀ (b : Bd) (A A' : Option Addr) (n c n' c' : Nat) (l : List V) (w : World), Sl w A n c l → Sl w A' n' c' l → Calls Try.prog F #[bodyV b A n c, bodyV b A' n' c'] w (Ret (.bool true) w))
    (A B : Option Addr) (n c n' c' : Nat) (L M : List BE) (w : World) (hS : SlB w A n c L) (hM : SlB w B n' c' M) (he : L.map valB = M.map valB) : Calls Try.prog 31 #[.slice A n c, .slice B n' c', .func (.func F) #[] #[]] w (Ret (.bool true) w) := by
  have hn := hS.sl.len
  have hcap := hS.sl.cap
  have hbig := hS.sl.big
  have hlen : L.length = M.length := by have := congrArg List.length he; simpa using this
  have hn' : n' = L.length := by rw [hM.sl.len, hlen]
  have hcap' : L.length ≤ c' := by have := hM.sl.cap; omega
  have hbig' := hM.sl.big
  subst hn hn'
  have HS := hid hS
  have HM := hid hM
  have HE := hid he
  have HL := hid hlen
  clear hS hM he hlen
  go_enter Try.func31, Try.ntmps31
  go_wp2
  go_loopw [17] (fun i wr => ∃ k : Nat, k ≤ L.length ∧ i = .int .i64 k ∧ Below w.heap.size w wr) (fun i _ => L.length - (intOf i).toNat)
  case atStart => exact ⟨0, Nat.zero_le _, rfl, Below.refl _ _⟩
  case round =>
    obtain ⟨k, hk, rfl, hB⟩ := hrel
    obtain ⟨wo, rfl⟩ : ∃ wo : World, wo = wr := ⟨_, rfl⟩
    by_cases hlt : k < L.length
    · have hltM : k < M.length := by rw [← HL.out]; exact hlt
      obtain ⟨ba, off, hA, hC⟩ := (HS.out.below hB).sl.at_ (by intro h; subst h; simp at hlt)
      obtain ⟨bb, off2, hA2, hC2⟩ := (HM.out.below hB).sl.at_ (by intro h; subst h; simp at hltM)
      subst hA hA2
      obtain ⟨x, hx⟩ : ∃ x, x = L[k] := ⟨_, rfl⟩
      obtain ⟨y, hy⟩ : ∃ y, y = M[k] := ⟨_, rfl⟩
      have hxy : valB x = valB y := by
        have h1 : (L.map valB)[k]? = (M.map valB)[k]? := by rw [HE.out]
        rw [List.getElem?_map, List.getElem?_map, List.getElem?_eq_getElem hlt, List.getElem?_eq_getElem hltM, ← hx, ← hy] at h1
        simpa using h1
      have hxs : Sl wo x.A x.n x.c x.l := (HS.out.below hB).co x (by rw [hx]; exact List.getElem_mem hlt)
      have hys : Sl wo y.A y.n y.c y.l := (HM.out.below hB).co y (by rw [hy]; exact List.getElem_mem hltM)
      obtain ⟨d0, d1, d2, d3, d4, d5, d6, d7, d8, d9, d10, d11, d12⟩ := cells_bd hC hlt hx
      obtain ⟨e0, e1, e2, e3, e4, e5, e6, e7, e8, e9, e10, e11, e12⟩ := cells_bd hC2 hltM hy
      have hbo := hC.lt
      have hbo2 := hC2.lt
      have hlt' : (k : Int) < (L.length : Int) := by omega
      have hkw : IntKind.i64.wrap ((k : Int) + 1) = (k : Int) + 1 := IntWalk.i64_in _ (by omega)
      clear hC hC2 hx hy
      obtain ⟨b, A1, n1, c1, l⟩ := x
      obtain ⟨b', A2, n2, c2, l'⟩ := y
      have h1 : b = b' := congrArg Prod.fst hxy
      have h2 : l = l' := congrArg Prod.snd hxy
      subst h1 h2
      clear hxy
      dsimp only at d0 d1 d2 d3 d4 d5 d6 d7 d8 d9 d10 d11 d12 e0 e1 e2 e3 e4 e5 e6 e7 e8 e9 e10 e11 e12 hxs hys
      obtain ⟨w2, hw2⟩ : ∃ w2, w2 = (wo.alloc (.cells #[.int .i64 b.px, .int .i64 b.py, .int .i64 b.vx, .int .i64 b.vy, .int .i64 b.ang, .int .i64 b.spin, .int .i64 b.mass, .int .i64 b.iner, .int .i64 b.bounce, .int .i64 b.rub, .slice A1 n1 c1, .bool b.asleep, .int .i64 b.calm] 27)).alloc (.cells #[.int .i64 b.px, .int .i64 b.py, .int .i64 b.vx, .int .i64 b.vy, .int .i64 b.ang, .int .i64 b.spin, .int .i64 b.mass, .int .i64 b.iner, .int .i64 b.bounce, .int .i64 b.rub, .slice A2 n2 c2, .bool b.asleep, .int .i64 b.calm] 27) := ⟨_, rfl⟩
      have hb2 : Below wo.heap.size wo w2 := by rw [hw2]; go_grown
      have HK := hid (show BdAt w2 wo.heap.size b A1 n1 c1 by rw [hw2]; exact (BdAt.here wo b A1 n1 c1 _).alloc _)
      have HK2 := hid (show BdAt w2 (wo.heap.size + 1) b A2 n2 c2 by rw [hw2]; have := BdAt.here (wo.alloc (.cells #[.int .i64 b.px, .int .i64 b.py, .int .i64 b.vx, .int .i64 b.vy, .int .i64 b.ang, .int .i64 b.spin, .int .i64 b.mass, .int .i64 b.iner, .int .i64 b.bounce, .int .i64 b.rub, .slice A1 n1 c1, .bool b.asleep, .int .i64 b.calm] 27)) b A2 n2 c2 27; simpa using this)
      have HF := hid (hF b A1 A2 n1 c1 n2 c2 l w2 (hxs.below hb2) (hys.below hb2))
      have hB2 := keepBelow hb2 hB
      clear hxs hys hb2 hB
      go_upto_region 7 with fail
      rw [← hw2]
      clear hw2 d0 d1 d2 d3 d4 d5 d6 d7 d8 d9 d10 d11 d12 e0 e1 e2 e3 e4 e5 e6 e7 e8 e9 e10 e11 e12 hbo hbo2
      obtain ⟨k0, k1, k2, k3, k4, k5, k6, k7, k8, k9, k10, k11, k12, kf⟩ := HK.out
      obtain ⟨m0, m1, m2, m3, m4, m5, m6, m7, m8, m9, m10, m11, m12, mf⟩ := HK2.out
      clear HK HK2
      go_wp2_with fail
      refine HF.out.mono ?_
      rintro e w3 ⟨rfl, hb3⟩
      have hB3 := keepBelow hb3 hB2
      clear hb3 hB2 HF k0 k1 k2 k3 k4 k5 k6 k7 k8 k9 k10 k11 k12 m0 m1 m2 m3 m4 m5 m6 m7 m8 m9 m10 m11 m12 kf mf
      go_wp2
      go_roundw
      case rel => exact ⟨k + 1, by omega, by go_num, hB3⟩
      case measure => simp [intOf] <;> omega
    · have hkn : k = L.length := by omega
      subst hkn
      go_wp2
      go_returns
      exact ret_bool (by simp) hB
theorem cf_rsame (args : Array Value) (w : World) : (callFunc 58 args).run Try.prog w = .ok (.enter 58 args) w := by kernel_rfl
set_option maxRecDepth 100000 in
set_option maxHeartbeats 4000000 in
theorem rsameBodies_calls (A B : Option Addr) (n c n' c' : Nat) (L M : List BE) (w : World) (hS : SlB w A n c L) (hM : SlB w B n' c' M) (he : L.map valB = M.map valB) : Calls Try.prog 17 #[.slice A n c, .slice B n' c'] w (Ret (.bool true) w) := by
  have HE := hid (equalFuncB_calls 58 cf_rsame rsame_calls A B n c n' c' L M w hS hM he)
  clear hS hM he
  go_enter Try.func17, Try.ntmps17
  go_wp2_with fail
  refine HE.out.mono ?_
  rintro e w1 ⟨rfl, hb⟩
  clear HE
  go_wp2
  go_returns
  exact ret_bool (by simp) hb
end
end Go.Proofs.Ytbajmekmpgfpeaa
namespace Go.Proofs.Ytbajmekmpgfpeaa
section
set_option linter.unusedVariables false
set_option linter.unusedSimpArgs false
open Go.RowKit
def bdK (x y m : Int) : Bd := ⟨x * 65536, y * 65536, 0, 0, 0, 0, m, m, 0, 0, false, 0⟩
def RetBlk (b : Bd) (l : List V) (w : World) (e : Ending) (w' : World) : Prop := ∃ A n c, e = .returned (bodyV b A n c) ∧ Sl w' A n c l ∧ (∀ bx off, A = some ⟨bx, off, none⟩ → w.heap.size ≤ bx) ∧ Below w.heap.size w w'
theorem squareKV_calls (x y s : Int) (hx : -1048576 ≤ x ∧ x ≤ 1048576) (hy : -1048576 ≤ y ∧ y ≤ 1048576) (hs : -1048576 ≤ s ∧ s ≤ 1048576) (w : World) : Calls Try.prog 34 #[.int .i64 x, .int .i64 y, .int .i64 s] w (RetVecs (sqK x y s) w) := by
  go_enter Try.func34, Try.ntmps34
  go_wp2
  go_returns
  exact ⟨_, _, _, rfl, Sl.of4 _ _ _ _ _ _ _ _ (by go_simp) (by go_simp) (by go_simp) (by go_simp) (by go_simp) (by go_simp) (by go_simp) (by go_simp) (by omega) (by omega), fun b off e => by cases e; simp, by go_grown⟩
theorem Sl.setBdN {w : World} {A : Option Addr} {n c g : Nat} {l : List V} (h : Sl w A n c l) (b : Bd) (A' : Option Addr) (n' c' : Nat) (hne : l ≠ [] → ∀ bx off, A = some ⟨bx, off, none⟩ → bx ≠ g) : Sl (Go.Proofs.Ytbajmekmpgfpeaa.setBd w g b A' n' c') A n c l := by
  by_cases hl : l = []
  · exact ⟨h.len, h.cap, h.big, fun hne => absurd hl hne⟩
  · unfold Go.Proofs.Ytbajmekmpgfpeaa.setBd
    iterate 13 refine Sl.setAt ?_ (hne hl)
    exact h
theorem Sl.setAt2 {w : World} {A : Option Addr} {n c g o : Nat} {l : List V} {v : Value} (h : Sl w A n c l) (hne : l ≠ [] → ∀ b off, A = some ⟨b, off, none⟩ → b ≠ g) : Sl (w.setCell ⟨g, o, none⟩ v) A n c l := by
  by_cases hl : l = []
  · exact ⟨h.len, h.cap, h.big, fun k => absurd hl k⟩
  · exact h.setAt (hne hl)
set_option maxRecDepth 100000 in
set_option maxHeartbeats 2000000 in
set_option maxRecDepth 100000 in
set_option maxHeartbeats 2000000 in
theorem kblock_calls_mov (x y h : Int) (hx : -1048576 ≤ x ∧ x ≤ 1048576) (hy : -1048576 ≤ y ∧ y ≤ 1048576) (hh : -1048576 ≤ h ∧ h ≤ 1048576) (w : World) : Calls Try.prog 8 #[.int .i64 x, .int .i64 y, .int .i64 h, .bool true] w (RetBlk (bdK x y 65536) (sqK 0 0 h) w) := by
  have HSQ := hid (squareKV_calls 0 0 h (by omega) (by omega) hh)
  generalize sqK 0 0 h = q at *
  obtain ⟨W, hW⟩ : ∃ W, W = w.alloc (.cells #[.int .i64 0, .int .i64 0, .int .i64 0, .int .i64 0, .int .i64 0, .int .i64 0, .int .i64 0, .int .i64 0, .int .i64 0, .int .i64 0, .slice none 0 0, .bool false, .int .i64 0] 27) := ⟨_, rfl⟩
  have HZ := hid (show BdZ W w.heap.size by rw [hW]; exact BdZ.of (BdAt.here w (bdK 0 0 0) none 0 0 _))
  have hB0 : Below w.heap.size w W := by rw [hW]; go_grown
  go_enter Try.func8, Try.ntmps8
  go_wp2_with fail
  rw [← hW]
  clear hW
  refine (HSQ.out _).mono ?_
  rintro e w1 ⟨A, n, c, rfl, hs, hf, hb⟩
  have HF := hid hf
  have hB := keepBelow hb hB0
  have hlt : w.heap.size < W.heap.size := HZ.out.lt
  have HLT := hid hlt
  replace HZ := hid (keepBdZ hb HZ.out)
  obtain ⟨w2, hw2⟩ : ∃ w2, w2 = w1.alloc (.cells #[.int .i64 (x * 65536), .int .i64 (y * 65536), .int .i64 0, .int .i64 0, .int .i64 0, .int .i64 0, .int .i64 0, .int .i64 0, .int .i64 0, .int .i64 0, .slice A n c, .bool false, .int .i64 0] 27) := ⟨_, rfl⟩
  obtain ⟨g, hg⟩ : ∃ g, g = w1.heap.size := ⟨_, rfl⟩
  have HK := hid (show BdAt w2 g (bdK x y 0) A n c by rw [hw2, hg]; exact BdAt.here w1 (bdK x y 0) A n c _)
  have HS := hid (show Sl w2 A n c q by rw [hw2]; exact hs.below ((Below.refl _ _).alloc (Nat.le_refl _) _))
  have HZ2 := hid (show BdZ w2 w.heap.size by rw [hw2]; exact HZ.out.alloc _)
  have hB2 : Below w.heap.size w w2 := by rw [hw2]; exact hB.alloc hB.size _
  have HGF : Hid (q ≠ [] → ∀ bx off, A = some ⟨bx, off, none⟩ → bx ≠ g) := fun hne bx off e => by
    obtain ⟨b', off', e', hc⟩ := hs.at_ hne
    have := hc.lt
    rw [e] at e'; cases e'; rw [hg]; omega
  have HNF : Hid (∀ bx off, A = some ⟨bx, off, none⟩ → w.heap.size ≤ bx) := fun bx off e => by have := hf bx off e; omega
  have hgw : w.heap.size < g := by have := hb.size; rw [hg]; omega
  obtain ⟨z0, z1, z2, z3, z4, z5, z6, z7, z8, z9, z10, z11, z12, y0, y1, y2, y3, y4, y5, y6, y7, y8, y9, y10, y11, y12⟩ := HZ2.out.all
  have yf := HZ2.out.free
  obtain ⟨k0, k1, k2, k3, k4, k5, k6, k7, k8, k9, k10, k11, k12, kf⟩ := HK.out
  have hl1 : w.heap.size < w2.heap.size := HZ2.out.lt
  have hl2 : g < w2.heap.size := HK.out.lt
  clear hs hf hb hB hB0 hlt HZ HSQ HK
  simp only [bdK] at k0 k1 k2 k3 k4 k5 k6 k7 k8 k9 k11 k12
  go_upto_if 18 with fail
  rw [← hw2, ← hg]
  clear hw2 hg
  go_wp2
  refine bodyPost_ret (v := bodyV (bdK x y 65536) A n c) (by simp [results, Try.results8, go_sem, y0, y1, y2, y3, y4, y5, y6, y7, y8, y9, y10, y11, y12, hl1, bodyV, bdK]) rfl ⟨A, n, c, rfl, ?_, HNF.out, ?_⟩
  · exact Sl.setBdN (Sl.setAt2 (Sl.setAt2 HS.out HGF.out) HGF.out) (bdK x y 65536) A n c (fun hne bx off e => by have := HF.out bx off e; have := HLT.out; omega)
  · go_grown
end
end Go.Proofs.Ytbajmekmpgfpeaa
namespace Go.Proofs.Ytbajmekmpgfpeaa
section
set_option linter.unusedVariables false
set_option linter.unusedSimpArgs false
open Go.RowKit

theorem cells_setvx {w : World} {g : Nat} {L : List BE} (h : CellsE layB w g 0 L) {k : Nat} (hk : k < L.length) (v : Int) : CellsE layB (w.setCell ⟨g, k * 13 + 2, none⟩ (.int .i64 v)) g 0 (L.set k { L[k] with b := { L[k].b with vx := v } }) := by
  refine ⟨by simp; exact h.lt, fun j hj i u hu => ?_⟩
  have hj' : j < L.length := by simpa using hj
  have hlen : ∀ x : BE, (encB x).length = 13 := fun _ => rfl
  by_cases e : j = k
  · subst e
    have hu : (encB { L[j] with b := { L[j].b with vx := v } })[i]? = some u := by have hu2 : (encB (L.set j { L[j] with b := { L[j].b with vx := v } })[j])[i]? = some u := hu; rwa [List.getElem_set_self] at hu2
    show (w.setCell ⟨g, j * 13 + 2, none⟩ (.int .i64 v)).cell? ⟨g, 0 + j * 13 + i, none⟩ = some u
    rw [Nat.zero_add]
    by_cases e2 : i = 2
    · subst e2
      have hu : some (Value.int .i64 v) = some u := hu
      cases hu
      have h2 := h.at_ j hj' 2 _ (show (encB L[j])[2]? = some (.int .i64 L[j].b.vx) from rfl)
      rw [Nat.zero_add] at h2
      exact cell_set_eq h2
    · have hu2 : (encB L[j])[i]? = some u := by
        have hi : i < 13 := by
          rcases Nat.lt_or_ge i 13 with q | q
          · exact q
          · rw [List.getElem?_eq_none (by rw [hlen]; exact q)] at hu; cases hu
        rw [← hu]
        match i, hi, e2 with
        | 0, _, _ | 1, _, _ | 3, _, _ | 4, _, _ | 5, _, _ | 6, _, _ | 7, _, _ | 8, _, _ | 9, _, _ | 10, _, _ | 11, _, _ | 12, _, _ => rfl
        | 2, _, e2 => exact (e2 rfl).elim
      have h2 := h.at_ j hj' i u hu2
      have h2 : w.cell? ⟨g, 0 + j * 13 + i, none⟩ = some u := h2
      rw [Nat.zero_add] at h2
      exact cell_set_ne h2 (by omega)
  · have hu : (encB L[j])[i]? = some u := by have hu2 : (encB (L.set k { L[k] with b := { L[k].b with vx := v } })[j])[i]? = some u := hu; rwa [List.getElem_set_ne (by omega)] at hu2
    have hi : i < 13 := by
      rcases Nat.lt_or_ge i 13 with q | q
      · exact q
      · rw [List.getElem?_eq_none (by rw [hlen]; exact q)] at hu; cases hu
    have h2 := h.at_ j hj' i u hu
    have h2 : w.cell? ⟨g, 0 + j * 13 + i, none⟩ = some u := h2
    show (w.setCell ⟨g, k * 13 + 2, none⟩ (.int .i64 v)).cell? ⟨g, 0 + j * 13 + i, none⟩ = some u
    exact cell_set_ne h2 (by omega)
def jbX : Jt := ⟨0, 1, 0, 0, 0, 0, 262144⟩
theorem two_vx {L : List BE} {Q : List QB} (h : L.map valB = Q) {a b : Int} (hq : Q.map (fun y => y.1.vx) = [a, b]) : ∃ x y, L = [x, y] ∧ x.b.vx = a ∧ y.b.vx = b := by
  subst h
  rw [List.map_map] at hq
  rcases L with _ | ⟨x, _ | ⟨y, _ | ⟨z, l⟩⟩⟩
  · simp at hq
  · simp at hq
  · simp [valB] at hq
    exact ⟨x, y, rfl, hq.1, hq.2⟩
  · simp at hq
end
end Go.Proofs.Ytbajmekmpgfpeaa
