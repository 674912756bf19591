/- Parts of a proof: contracts and laws. -/
import Derived.Test.YtiaoandbdgdecaaGreatPN12
import Derived.Test.YtiaoandbdgdecaaGreatPN14
import Derived.Test.YtiaoandbdgdecaaGreatPN10
import Derived.Test.YtiaoandbdgdecaaGreatPN09
namespace Go.Proofs.YtiaoandbdgdecaaGreat
section
set_option linter.unusedVariables false
set_option linter.unusedSimpArgs false
open Go.RowKit
set_option maxRecDepth 100000 in
set_option maxHeartbeats 4000000 in
theorem equalFuncB_calls (F : Nat) (hcf : ∀ (args : Array Value) (w : World), (callFunc F args).run Tryz.prog w = .ok (.enter F args) w) (hF : ∀ (b : Bd) (A A' : Option Addr) (n c n' c' : Nat) (l : List V) (w : World), Sl w A n c l → Sl w A' n' c' l → Calls Tryz.prog F #[bodyV b A n c, bodyV b A' n' c'] w (Ret (.bool true) w))
  (A B : Option Addr) (n c n' c' : Nat) (L M : List BE) (w : World) (hS : SlB w A n c L) (hM : SlB w B n' c' M) (he : L.map valB = M.map valB) : Calls Tryz.prog 27 #[.slice A n c, .slice B n' c', .func (.func F) #[] #[]] w (Ret (.bool true) w) := by
 have hn := hS.sl.len
 have hcap := hS.sl.cap
 have hbig := hS.sl.big
 have hlen : L.length = M.length := by have := congrArg List.length he; simpa using this
 have hn' : n' = L.length := by rw [hM.sl.len, hlen]
 have hcap' : L.length ≤ c' := by have := hM.sl.cap; omega
 have hbig' := hM.sl.big
 subst hn hn'
 have HS := hid hS
 have HM := hid hM
 have HE := hid he
 have HL := hid hlen
 clear hS hM he hlen
 go_enter Tryz.func27, Tryz.ntmps27
 go_wp2
 go_loopw [17] (fun i wr => ∃ k : Nat, k ≤ L.length ∧ i = .int .i64 k ∧ Below w.heap.size w wr) (fun i _ => L.length - (intOf i).toNat)
 case atStart => exact ⟨0, Nat.zero_le _, rfl, Below.refl _ _⟩
 case round =>
  obtain ⟨k, hk, rfl, hB⟩ := hrel
  obtain ⟨wo, rfl⟩ : ∃ wo : World, wo = wr := ⟨_, rfl⟩
  by_cases hlt : k < L.length
  ·have hltM : k < M.length := by rw [← HL.out]; exact hlt
   obtain ⟨ba, off, hA, hC⟩ := (HS.out.below hB).sl.at_ (by intro h; subst h; simp at hlt)
   obtain ⟨bb, off2, hA2, hC2⟩ := (HM.out.below hB).sl.at_ (by intro h; subst h; simp at hltM)
   subst hA hA2
   obtain ⟨x, hx⟩ : ∃ x, x = L[k] := ⟨_, rfl⟩
   obtain ⟨y, hy⟩ : ∃ y, y = M[k] := ⟨_, rfl⟩
   have hxy : valB x = valB y := by
    have h1 : (L.map valB)[k]? = (M.map valB)[k]? := by rw [HE.out]
    rw [List.getElem?_map, List.getElem?_map, List.getElem?_eq_getElem hlt, List.getElem?_eq_getElem hltM, ← hx, ← hy] at h1
    simpa using h1
   have hxs : Sl wo x.A x.n x.c x.l := (HS.out.below hB).co x (by rw [hx]; exact List.getElem_mem hlt)
   have hys : Sl wo y.A y.n y.c y.l := (HM.out.below hB).co y (by rw [hy]; exact List.getElem_mem hltM)
   obtain ⟨d0, d1, d2, d3, d4, d5, d6, d7, d8, d9, d10, d11, d12⟩ := cells_bd hC hlt hx
   obtain ⟨e0, e1, e2, e3, e4, e5, e6, e7, e8, e9, e10, e11, e12⟩ := cells_bd hC2 hltM hy
   have hbo := hC.lt
   have hbo2 := hC2.lt
   have hlt' : (k : Int) < (L.length : Int) := by omega
   have hkw : IntKind.i64.wrap ((k : Int) + 1) = (k : Int) + 1 := IntWalk.i64_in _ (by omega)
   clear hC hC2 hx hy
   obtain ⟨b, A1, n1, c1, l⟩ := x
   obtain ⟨b', A2, n2, c2, l'⟩ := y
   have h1 : b = b' := congrArg Prod.fst hxy
   have h2 : l = l' := congrArg Prod.snd hxy
   subst h1 h2
   clear hxy
   dsimp only at d0 d1 d2 d3 d4 d5 d6 d7 d8 d9 d10 d11 d12 e0 e1 e2 e3 e4 e5 e6 e7 e8 e9 e10 e11 e12 hxs hys
   obtain ⟨w2, hw2⟩ : ∃ w2, w2 = (wo.alloc (.cells #[.int .i64 b.px, .int .i64 b.py, .int .i64 b.vx, .int .i64 b.vy, .int .i64 b.ang, .int .i64 b.spin, .int .i64 b.mass, .int .i64 b.iner, .int .i64 b.bounce, .int .i64 b.rub, .slice A1 n1 c1, .bool b.asleep, .int .i64 b.calm] 58)).alloc (.cells #[.int .i64 b.px, .int .i64 b.py, .int .i64 b.vx, .int .i64 b.vy, .int .i64 b.ang, .int .i64 b.spin, .int .i64 b.mass, .int .i64 b.iner, .int .i64 b.bounce, .int .i64 b.rub, .slice A2 n2 c2, .bool b.asleep, .int .i64 b.calm] 58) := ⟨_, rfl⟩
   have hb2 : Below wo.heap.size wo w2 := by rw [hw2]; go_grown
   have HK := hid (show BdAt w2 wo.heap.size b A1 n1 c1 by rw [hw2]; exact (BdAt.here wo b A1 n1 c1 _).alloc _)
   have HK2 := hid (show BdAt w2 (wo.heap.size + 1) b A2 n2 c2 by rw [hw2]; have := BdAt.here (wo.alloc (.cells #[.int .i64 b.px, .int .i64 b.py, .int .i64 b.vx, .int .i64 b.vy, .int .i64 b.ang, .int .i64 b.spin, .int .i64 b.mass, .int .i64 b.iner, .int .i64 b.bounce, .int .i64 b.rub, .slice A1 n1 c1, .bool b.asleep, .int .i64 b.calm] 58)) b A2 n2 c2 58; simpa using this)
   have HF := hid (hF b A1 A2 n1 c1 n2 c2 l w2 (hxs.below hb2) (hys.below hb2))
   have hB2 := keepBelow hb2 hB
   clear hxs hys hb2 hB
   go_upto_region 7 with fail
   rw [← hw2]
   clear hw2 d0 d1 d2 d3 d4 d5 d6 d7 d8 d9 d10 d11 d12 e0 e1 e2 e3 e4 e5 e6 e7 e8 e9 e10 e11 e12 hbo hbo2
   obtain ⟨k0, k1, k2, k3, k4, k5, k6, k7, k8, k9, k10, k11, k12, kf⟩ := HK.out
   obtain ⟨m0, m1, m2, m3, m4, m5, m6, m7, m8, m9, m10, m11, m12, mf⟩ := HK2.out
   clear HK HK2
   go_wp2_with fail
   refine HF.out.mono ?_
   rintro e w3 ⟨rfl, hb3⟩
   have hB3 := keepBelow hb3 hB2
   clear hb3 hB2 HF k0 k1 k2 k3 k4 k5 k6 k7 k8 k9 k10 k11 k12 m0 m1 m2 m3 m4 m5 m6 m7 m8 m9 m10 m11 m12 kf mf
   go_wp2
   go_roundw
   case rel => exact ⟨k + 1, by omega, by go_num, hB3⟩
   case measure => simp [intOf] <;> omega
  ·have hkn : k = L.length := by omega
   subst hkn
   go_wp2
   go_returns
   exact ret_bool (by simp) hB
end
end Go.Proofs.YtiaoandbdgdecaaGreat
