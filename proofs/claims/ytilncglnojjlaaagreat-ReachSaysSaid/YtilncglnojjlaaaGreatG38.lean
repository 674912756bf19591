/- Parts of a proof: contracts and laws. -/
import Derived.Test.YtilncglnojjlaaaGreatG17
import Derived.Test.YtilncglnojjlaaaGreatG30
import Derived.Test.YtilncglnojjlaaaGreatG11
import Derived.Test.YtilncglnojjlaaaGreatG13
import Derived.Test.YtilncglnojjlaaaGreatG37
import Derived.Test.YtilncglnojjlaaaGreatG04
namespace Go.Proofs.YtilncglnojjlaaaGreat
section
set_option linter.unusedVariables false
set_option linter.unusedSimpArgs false
open Go.RowKit
def lensL (l : List V) : List Int := l.map fun p => lenQ p.1 p.2
theorem lensL_get {l : List V} {k : Nat} (hk : k < l.length) : (lensL l).getD k 0 = lenQ (px l k) (py l k) := by simp [lensL, px, py, hk]
theorem maxTo_lens (l : List V) : ∀ k, k < l.length → reachT l (k + 1) = maxTo (lensL l) k + 2
 | 0, hk => by
  show max 0 (lenQ (px l 0) (py l 0) + 2) = (lensL l).getD 0 0 + 2
  rw [lensL_get hk]
  have := (lenQ_bd (px l 0) (py l 0)).1
  omega
 | k + 1, hk => by
  have ih := maxTo_lens l k (by omega)
  show max (reachT l (k + 1)) (lenQ (px l (k + 1)) (py l (k + 1)) + 2) = mxI (maxTo (lensL l) k) ((lensL l).getD (k + 1) 0) + 2
  rw [lensL_get hk, ih]
  unfold mxI
  split <;> omega
theorem maxL_lens {l : List V} (h : 0 < l.length) : maxL (lensL l) + 2 = reachT l l.length := by
 obtain ⟨k, hk⟩ : ∃ k, l.length = k + 1 := ⟨l.length - 1, by omega⟩
 have := maxTo_lens l k (by omega)
 rw [hk, this]
 unfold maxL
 rw [show (lensL l).length - 1 = k by simp [lensL, hk]]
set_option maxRecDepth 100000 in
set_option maxHeartbeats 4000000 in
theorem rreachOf_calls (b : Bd) (A : Option Addr) (n c : Nat) (l : List V) (w : World) (hS : Sl w A n c l) (h0 : 0 < l.length) (h8 : l.length ≤ 8) : Calls Tryz.prog 27 #[bodyV b A n c] w (Ret (.int .i64 (reachT l l.length)) w) := by
 have hn := hS.len
 have hcap := hS.cap
 have hbig := hS.big
 subst hn
 obtain ⟨W, hW⟩ : ∃ W, W = w.alloc (.cells #[.int .i64 b.px, .int .i64 b.py, .int .i64 b.vx, .int .i64 b.vy, .int .i64 b.ang, .int .i64 b.spin, .int .i64 b.mass, .int .i64 b.iner, .int .i64 b.bounce, .int .i64 b.rub, .slice A l.length c, .bool b.asleep, .int .i64 b.calm] 26) := ⟨_, rfl⟩
 have HK : Hid (BdAt W w.heap.size b A l.length c) := by show BdAt _ _ _ _ _ _; rw [hW]; exact BdAt.here w b A l.length c _
 have hB : Below w.heap.size w W := by rw [hW]; go_grown
 have HS := hid (hS.below hB)
 have HML := hid (maxL_lens h0)
 have HRB := hid (reachT_bd l l.length)
 clear hS
 obtain ⟨k0, k1, k2, k3, k4, k5, k6, k7, k8, k9, k10, k11, k12, kf⟩ := HK.out
 go_enter Tryz.func27, Tryz.ntmps27
 go_upto_region 1 with fail
 rw [← hW]
 clear hW HK
 go_wp2
 clear k0 k1 k2 k3 k4 k5 k6 k7 k8 k9 k10 k11 k12 kf
 go_loopw [3, 9] (fun o i wr => ∃ k : Nat, k ≤ l.length ∧ i = .int .i64 k ∧ OwnI wr W.heap.size o ((lensL l).take k) ∧ Below W.heap.size W wr) (fun _ i _ => l.length - (intOf i).toNat)
 case atStart => exact ⟨0, Nat.zero_le _, rfl, OwnI.nil _ _, Below.refl _ _⟩
 case round =>
  obtain ⟨k, hk, rfl, ho, hBk⟩ := hrel
  obtain ⟨wo, rfl⟩ : ∃ wo : World, wo = wr := ⟨_, rfl⟩
  obtain ⟨sv, rfl⟩ : ∃ sv : Value, sv = u3 := ⟨_, rfl⟩
  have HO := hid ho
  clear ho
  by_cases hlt : k < l.length
  ·obtain ⟨ba, off, hA, hC⟩ := (HS.out.below hBk).at_ (by intro h; subst h; simp at hlt)
   subst hA
   have c0 := hC.x k hlt
   have c1 := hC.y k hlt
   have hbo := hC.lt
   have hlt' : (k : Int) < (l.length : Int) := by omega
   have hkw : IntKind.i64.wrap ((k : Int) + 1) = (k : Int) + 1 := IntWalk.i64_in _ (by omega)
   have HST : Hid ((lensL l).take k ++ [lenQ (px l k) (py l k)] = (lensL l).take (k + 1)) := by
    show _ = _
    rw [List.take_add_one]
    congr 1
    simp [lensL, px, py, hlt]
   have HLE : Hid (((lensL l).take k).length + 1 ≤ 8796093022208) := by show _ ≤ _; simp [lensL]; omega
   have HQ : Hid (clampF (lenZ (clampF (px l k)) (clampF (py l k))) = lenQ (px l k) (py l k)) := rfl
   generalize lenQ (px l k) (py l k) = q at *
   generalize (lensL l).take k = rk at *
   generalize px l k = x at *
   generalize py l k = y at *
   have hB1 := hBk.alloc hBk.size (.cells #[.int .i64 x, .int .i64 y] 23)
   clear hC
   go_wp2_with fail
   refine (vlen_calls _ _ _).mono ?_
   rw [HQ.out]
   rintro e wn ⟨rfl, hb⟩
   have HBw := hid (keepBelow hb hB1)
   have HO1 := hid ((HO.out.alloc (.cells #[.int .i64 x, .int .i64 y] 23)).below hb)
   clear hb hB1 HO hBk c0 c1 hbo
   go_wp2_with (at_builtin; refine Hid.out ?_)
   refine hid ?_
   refine wpList_append_int rfl _ _ rfl W.heap.size _ _ rfl (HO1.out.alloc _) wn.heap.size 1 1 q ?c3 ?c4 ?c5 ?c6 ?c7
   case c3 => rfl
   case c4 => go_simp
   case c5 => exact HLE.out
   case c6 => have := HBw.out.size; simp; omega
   case c7 =>
    intro v' w7 ho1 hg1 hat
    have HO7 := hid ho1
    have hB7 : Below W.heap.size W w7 := (HBw.out.alloc HBw.out.size (.cells #[.int .i64 q] 3)).grown hg1 (by have := HBw.out.size; simp; omega) (fun k2 hk2 => (World.ownsRow.lt (OwnI.alloc HO1.out (.cells #[.int .i64 q] 3)) k2 hk2).1)
    have HB7 := hid hB7
    clear ho1 hg1 hat hB7
    go_wp2
    go_roundw
    case rel => exact ⟨k + 1, by omega, by go_num, by rw [← HST.out]; exact HO7.out, HB7.out⟩
    case measure => simp [intOf] <;> omega
  ·have hkn : k = l.length := by omega
   subst hkn
   have ho2 := HO.out
   rw [List.take_of_length_le (by simp [lensL])] at ho2
   obtain ⟨A1, n1, c1, rfl, hsl⟩ := ho2.sl
   have HSL := hid hsl
   have hB2 := keepBelow hBk hB
   have hrb := HRB.out
   have hml := HML.out
   have HMX := hid (fun w (h : SlI w A1 n1 c1 (lensL l)) => smax_calls A1 n1 c1 (lensL l) (by simp [lensL]; omega) w h)
   generalize reachT l l.length = R at *
   have HMM := hid hml
   generalize maxL (lensL l) = M at *
   have hMw : IntKind.i64.wrap (M + 2) = M + 2 := IntWalk.i64_in _ (by omega)
   clear HS HO hsl ho2 hml hrb HRB HML hlt
   go_wp2_with fail
   refine (HMX.out _ HSL.out).mono ?_
   rintro e wn ⟨rfl, hb⟩
   have hB3 := keepBelow hb hB2
   clear hb HMX HSL
   go_wp2
   go_returns
   exact ret_int HMM.out hB3

theorem SlB.two {w : World} {a b : Bd} {A B : Option Addr} {n c m d : Nat} {l l2 : List V} (t : TypeId) (hS : Sl w A n c l) (hM : Sl w B m d l2) : SlB (w.alloc (.cells #[.int .i64 a.px, .int .i64 a.py, .int .i64 a.vx, .int .i64 a.vy, .int .i64 a.ang, .int .i64 a.spin, .int .i64 a.mass, .int .i64 a.iner, .int .i64 a.bounce, .int .i64 a.rub, .slice A n c, .bool a.asleep, .int .i64 a.calm, .int .i64 b.px, .int .i64 b.py, .int .i64 b.vx, .int .i64 b.vy, .int .i64 b.ang, .int .i64 b.spin, .int .i64 b.mass, .int .i64 b.iner, .int .i64 b.bounce, .int .i64 b.rub, .slice B m d, .bool b.asleep, .int .i64 b.calm] t)) (some ⟨w.heap.size, 0, none⟩) 2 2 [⟨a, A, n, c, l⟩, ⟨b, B, m, d, l2⟩] := by
 refine ⟨⟨rfl, Nat.le_refl _, by omega, fun _ => ⟨w.heap.size, 0, rfl, cells_bd_two (fun i v hv => ?_) (fun i v hv => ?_) (by simp)⟩⟩, fun x hx => ?_⟩
 ·have hv : (encB ⟨a, A, n, c, l⟩)[i]? = some v := hv
  unfold encB at hv
  match i, hv with
  | 0, hv => have e : some _ = some v := hv; cases e; go_simp
  | 1, hv => have e : some _ = some v := hv; cases e; go_simp
  | 2, hv => have e : some _ = some v := hv; cases e; go_simp
  | 3, hv => have e : some _ = some v := hv; cases e; go_simp
  | 4, hv => have e : some _ = some v := hv; cases e; go_simp
  | 5, hv => have e : some _ = some v := hv; cases e; go_simp
  | 6, hv => have e : some _ = some v := hv; cases e; go_simp
  | 7, hv => have e : some _ = some v := hv; cases e; go_simp
  | 8, hv => have e : some _ = some v := hv; cases e; go_simp
  | 9, hv => have e : some _ = some v := hv; cases e; go_simp
  | 10, hv => have e : some _ = some v := hv; cases e; go_simp
  | 11, hv => have e : some _ = some v := hv; cases e; go_simp
  | 12, hv => have e : some _ = some v := hv; cases e; go_simp
  | i + 13, hv => simp at hv
 ·have hv : (encB ⟨b, B, m, d, l2⟩)[i]? = some v := hv
  unfold encB at hv
  match i, hv with
  | 0, hv => have e : some _ = some v := hv; cases e; go_simp
  | 1, hv => have e : some _ = some v := hv; cases e; go_simp
  | 2, hv => have e : some _ = some v := hv; cases e; go_simp
  | 3, hv => have e : some _ = some v := hv; cases e; go_simp
  | 4, hv => have e : some _ = some v := hv; cases e; go_simp
  | 5, hv => have e : some _ = some v := hv; cases e; go_simp
  | 6, hv => have e : some _ = some v := hv; cases e; go_simp
  | 7, hv => have e : some _ = some v := hv; cases e; go_simp
  | 8, hv => have e : some _ = some v := hv; cases e; go_simp
  | 9, hv => have e : some _ = some v := hv; cases e; go_simp
  | 10, hv => have e : some _ = some v := hv; cases e; go_simp
  | 11, hv => have e : some _ = some v := hv; cases e; go_simp
  | 12, hv => have e : some _ = some v := hv; cases e; go_simp
  | i + 13, hv => simp at hv
 ·simp at hx
  rcases hx with rfl | rfl
  ·exact hS.alloc _
  ·exact hM.alloc _
def tS (L : List BE) (s : Int) : Nat → Int
 | 0 => 0
 | k + 1 => tS L s k + (match L[k]? with | some x => turnB x.b x.l s | none => 0)
set_option maxRecDepth 100000 in
set_option maxHeartbeats 8000000 in
theorem rbound_calls (a b : Bd) (A B : Option Addr) (n c m d : Nat) (l l2 : List V) (s : Int) (w : World) (hS : Sl w A n c l) (hM : Sl w B m d l2) (hea : bodyE a l = 0) (heb : bodyE b l2 = 0) (hs0 : 0 ≤ s) : Calls Tryz.prog 10 #[bodyV a A n c, bodyV b B m d, .int .i64 s] w (Ret (.int .i64 (rbdZ a l b l2 s)) w) := by
 obtain ⟨W, hW⟩ : ∃ W, W = (w.alloc (.cells #[.int .i64 a.px, .int .i64 a.py, .int .i64 a.vx, .int .i64 a.vy, .int .i64 a.ang, .int .i64 a.spin, .int .i64 a.mass, .int .i64 a.iner, .int .i64 a.bounce, .int .i64 a.rub, .slice A n c, .bool a.asleep, .int .i64 a.calm] 26)).alloc (.cells #[.int .i64 b.px, .int .i64 b.py, .int .i64 b.vx, .int .i64 b.vy, .int .i64 b.ang, .int .i64 b.spin, .int .i64 b.mass, .int .i64 b.iner, .int .i64 b.bounce, .int .i64 b.rub, .slice B m d, .bool b.asleep, .int .i64 b.calm] 26) := ⟨_, rfl⟩
 have HKA : Hid (BdAt W w.heap.size a A n c) := by show BdAt _ _ _ _ _ _; rw [hW]; exact (BdAt.here w a A n c _).alloc _
 have HKB : Hid (BdAt W (w.heap.size + 1) b B m d) := by show BdAt _ _ _ _ _ _; rw [hW]; have := BdAt.here (w.alloc (.cells #[.int .i64 a.px, .int .i64 a.py, .int .i64 a.vx, .int .i64 a.vy, .int .i64 a.ang, .int .i64 a.spin, .int .i64 a.mass, .int .i64 a.iner, .int .i64 a.bounce, .int .i64 a.rub, .slice A n c, .bool a.asleep, .int .i64 a.calm] 26)) b B m d 26; simpa using this
 have hB : Below w.heap.size w W := by rw [hW]; go_grown
 have HSL0 := hid (fun (w' : World) (hb : Below w.heap.size w w') => SlB.two (a := a) (b := b) 26 (hS.below hb) (hM.below hb))
 obtain ⟨va, hva⟩ : ∃ z, z = lenQ a.vx a.vy := ⟨_, rfl⟩
 obtain ⟨vb, hvb⟩ : ∃ z, z = lenQ b.vx b.vy := ⟨_, rfl⟩
 have bva := lenQ_bd a.vx a.vy
 have bvb := lenQ_bd b.vx b.vy
 rw [← hva] at bva
 rw [← hvb] at bvb
 have HVA : Hid (clampF (lenZ (clampF a.vx) (clampF a.vy)) = va) := hva.symm
 have HVB : Hid (clampF (lenZ (clampF b.vx) (clampF b.vy)) = vb) := hvb.symm
 obtain ⟨mv, hmv⟩ : ∃ z, z = mulF (va + vb + 4) s := ⟨_, rfl⟩
 have HMV : Hid (mulF (va + vb + 4) s = mv) := hmv.symm
 have bmv := mulF_bd (va + vb + 4) s
 rw [← hmv] at bmv
 have v1 : IntKind.i64.wrap (va + vb) = va + vb := IntWalk.i64_in _ (by omega)
 have v2 : IntKind.i64.wrap (va + vb + 4) = va + vb + 4 := IntWalk.i64_in _ (by omega)
 have v3 : IntKind.i64.wrap (mv + 8) = mv + 8 := IntWalk.i64_in _ (by omega)
 generalize hL : ([⟨a, A, n, c, l⟩, ⟨b, B, m, d, l2⟩] : List BE) = L at *
 have hLl : L.length = 2 := by rw [← hL]; rfl
 have HR : Hid (rbdZ a l b l2 s = mv + 8 + tS L s 2) := by
  show _ = _
  rw [← hL]
  show mulF (lenQ a.vx a.vy + lenQ b.vx b.vy + 4) s + 8 + turnB a l s + turnB b l2 s = mv + 8 + (0 + turnB a l s + turnB b l2 s)
  rw [← hva, ← hvb, ← hmv]
  omega
 have HOK : Hid (∀ x ∈ L, bodyE x.b x.l = 0) := fun x hx => by
  rw [← hL] at hx
  simp at hx
  rcases hx with rfl | rfl
  ·exact hea
  ·exact heb
 have HTB : Hid (∀ k, -4400000000000 ≤ tS L s k ∧ tS L s k ≤ 4400000000000 ∨ 3 < k) := fun k => by
  have q1 := turnB_bd a l s
  have q2 := turnB_bd b l2 s
  match k with
  | 0 => exact .inl (by show _ ≤ (0 : Int) ∧ (0 : Int) ≤ _; omega)
  | 1 => rw [← hL]; exact .inl (by show _ ≤ 0 + turnB a l s ∧ 0 + turnB a l s ≤ _; omega)
  | 2 => rw [← hL]; exact .inl (by show _ ≤ 0 + turnB a l s + turnB b l2 s ∧ 0 + turnB a l s + turnB b l2 s ≤ _; omega)
  | 3 => rw [← hL]; exact .inl (by show _ ≤ 0 + turnB a l s + turnB b l2 s + 0 ∧ 0 + turnB a l s + turnB b l2 s + 0 ≤ _; omega)
  | k + 4 => exact .inr (by omega)
 clear hS hM hea heb hva hvb hmv hL
 obtain ⟨k0, k1, k2, k3, k4, k5, k6, k7, k8, k9, k10, k11, k12, -⟩ := HKA.out
 obtain ⟨m0, m1, m2, m3, m4, m5, m6, m7, m8, m9, m10, m11, m12, -⟩ := HKB.out
 have hlw : w.heap.size + 1 < W.heap.size := HKB.out.lt
 go_enter Tryz.func10, Tryz.ntmps10
 go_upto_region 1 with fail
 rw [← hW]
 clear hW k0 k1 k2 k3 k4 k5 k6 k7 k8 k9 k10 k11 k12 m0 m1 m2 m3 m4 m5 m6 m7 m8 m9 m10 m11 m12
 refine wp_region_noPanic ?_
 refine wp_region_U (S := (S2 (fun w' => BdAt w' w.heap.size a A n c ∧ BdAt w' (w.heap.size + 1) b B m d ∧ Below w.heap.size w w'))) (T := (fun _ => 0)) (by kernel_rfl) (S2i0 ⟨HKA.out.drew, HKB.out.drew, hB.drew⟩) (fun hH => ?_)
 have hWr3 : Weaker (S2 (fun w' => BdAt w' w.heap.size a A n c ∧ BdAt w' (w.heap.size + 1) b B m d ∧ Below w.heap.size w w')) := weaker2 _
 refine Ut 0 11 11 0 0 (v := ?vr3_1) rfl hWr3 hH ?hyr3_1 ?_
 case hyr3_1 => (intro w' hSw; clear hSw; go_simp; try (with_reducible rfl))
 simp only [sB, sC]
 refine Ut 1 12 10 0 0 (v := ?vr3_2) rfl hWr3 hH ?hyr3_2 ?_
 case hyr3_2 => (intro w' hSw; replace hSw := S2o0 hSw; (try dsimp only at hSw); have q0 := hSw.1; have q1 := hSw.2.1; have q2 := hSw.2.2; obtain ⟨qa0_0, qa0_1, qa0_2, qa0_3, qa0_4, qa0_5, qa0_6, qa0_7, qa0_8, qa0_9, qa0_10, qa0_11, qa0_12, qa0_f⟩ := id q0; obtain ⟨qa1_0, qa1_1, qa1_2, qa1_3, qa1_4, qa1_5, qa1_6, qa1_7, qa1_8, qa1_9, qa1_10, qa1_11, qa1_12, qa1_f⟩ := id q1; go_simp; try (with_reducible rfl))
 simp only [sB, sC]
 refine Ut 3 14 9 0 0 (v := ?vr3_3) rfl hWr3 hH ?hyr3_3 ?_
 case hyr3_3 => (intro w' hSw; clear hSw; go_simp; try (with_reducible rfl))
 simp only [sB, sC]
 refine Ut 4 15 8 0 0 (v := ?vr3_4) rfl hWr3 hH ?hyr3_4 ?_
 case hyr3_4 => (intro w' hSw; replace hSw := S2o0 hSw; (try dsimp only at hSw); have q0 := hSw.1; have q1 := hSw.2.1; have q2 := hSw.2.2; obtain ⟨qa0_0, qa0_1, qa0_2, qa0_3, qa0_4, qa0_5, qa0_6, qa0_7, qa0_8, qa0_9, qa0_10, qa0_11, qa0_12, qa0_f⟩ := id q0; obtain ⟨qa1_0, qa1_1, qa1_2, qa1_3, qa1_4, qa1_5, qa1_6, qa1_7, qa1_8, qa1_9, qa1_10, qa1_11, qa1_12, qa1_f⟩ := id q1; go_simp; try (with_reducible rfl))
 simp only [sB, sC]
 refine Ut 8 19 7 0 0 (v := ?vr3_5) rfl hWr3 hH ?hyr3_5 ?_
 case hyr3_5 => (intro w' hSw; clear hSw; go_simp; try (with_reducible rfl))
 simp only [sB, sC]
 refine U1 2 0 rfl (fun K hK => ?_)
 try clear hb
 go_simp
 (go_at_call 15; refine (vlen_calls _ _ _).mono ?_; rintro e wn ⟨rfl, hb⟩)
 refine hK.out _ _ ?hsr3_6 (fun hH2 => ?hrr3_6)
 case hsr3_6 => exact S2i0 (by have hG := hH; replace hG := S2o0 hG; (try dsimp only at hG); have q0 := hG.1; have q1 := hG.2.1; have q2 := hG.2.2; exact ⟨keepBd hb q0, keepBd hb q1, keepBelow hb q2⟩)
 clear hK K hH
 have hH := hH2
 clear hH2
 try simp only [Act.put, sA, sB, sC]
 rw [show clampF (lenZ (clampF a.vx) (clampF a.vy)) = va from HVA.out]
 refine U1 5 0 rfl (fun K hK => ?_)
 try clear hb
 go_simp
 (go_at_call 15; refine (vlen_calls _ _ _).mono ?_; rintro e wn ⟨rfl, hb⟩)
 refine hK.out _ _ ?hsr3_7 (fun hH2 => ?hrr3_7)
 case hsr3_7 => exact S2i0 (by have hG := hH; replace hG := S2o0 hG; (try dsimp only at hG); have q0 := hG.1; have q1 := hG.2.1; have q2 := hG.2.2; exact ⟨keepBd hb q0, keepBd hb q1, keepBelow hb q2⟩)
 clear hK K hH
 have hH := hH2
 clear hH2
 try simp only [Act.put, sA, sB, sC]
 rw [show clampF (lenZ (clampF b.vx) (clampF b.vy)) = vb from HVB.out]
 refine Ut 6 17 4 0 0 (v := ?vr3_8) rfl hWr3 hH ?hyr3_8 ?_
 case hyr3_8 => (intro w' hSw; clear hSw; go_simp; try (with_reducible rfl))
 simp only [sB, sC]
 refine Ut 7 18 3 0 0 (v := ?vr3_9) rfl hWr3 hH ?hyr3_9 ?_
 case hyr3_9 => (intro w' hSw; clear hSw; go_simp; try (with_reducible rfl))
 simp only [sB, sC]
 refine U1 9 0 rfl (fun K hK => ?_)
 try clear hb
 go_simp
 (go_at_call 14; refine (fmul_calls _ _ _).mono ?_; rintro e wn ⟨rfl, hb⟩)
 refine hK.out _ _ ?hsr3_10 (fun hH2 => ?hrr3_10)
 case hsr3_10 => exact S2i0 (by have hG := hH; replace hG := S2o0 hG; (try dsimp only at hG); have q0 := hG.1; have q1 := hG.2.1; have q2 := hG.2.2; exact ⟨keepBd hb q0, keepBd hb q1, keepBelow hb q2⟩)
 clear hK K hH
 have hH := hH2
 clear hH2
 try simp only [Act.put, sA, sB, sC]
 rw [show mulF (va + vb + 4) s = mv from HMV.out]
 refine Ut 10 21 1 0 0 (v := ?vr3_11) rfl hWr3 hH ?hyr3_11 ?_
 case hyr3_11 => (intro w' hSw; clear hSw; go_simp; try (with_reducible rfl))
 simp only [sB, sC]
 refine Ut 11 7 0 0 0 (v := ?vr3_12) rfl hWr3 hH ?hyr3_12 ?_
 case hyr3_12 => (intro w' hSw; clear hSw; go_simp; try (with_reducible rfl))
 simp only [sB, sC]
 refine wpAnyU_done (by kernel_rfl) ?_ _ _
 refine NoPanic.normal ?_
 clear hWr3
 replace hH := S2o0 hH
 (try dsimp only at hH)
 have t0 := hH.1
 have t1 := hH.2.1
 have t2 := hH.2.2
 clear HVA HVB HMV v1 v2 hB HKA HKB hb
 obtain ⟨w1, hw1⟩ : ∃ w1 : World, w1 = wn := ⟨_, rfl⟩
 rw [← hw1] at t0 t1 t2 ⊢
 clear hw1
 obtain ⟨k0, k1, k2, k3, k4, k5, k6, k7, k8, k9, k10, k11, k12, -⟩ := t0
 obtain ⟨m0, m1, m2, m3, m4, m5, m6, m7, m8, m9, m10, m11, m12, -⟩ := t1
 have hlw1 := t2.size
 have hlw2 : w.heap.size + 1 < w1.heap.size := lt_of_cell m0
 obtain ⟨w2, hw2⟩ : ∃ w2, w2 = w1.alloc (.cells #[.int .i64 a.px, .int .i64 a.py, .int .i64 a.vx, .int .i64 a.vy, .int .i64 a.ang, .int .i64 a.spin, .int .i64 a.mass, .int .i64 a.iner, .int .i64 a.bounce, .int .i64 a.rub, .slice A n c, .bool a.asleep, .int .i64 a.calm, .int .i64 b.px, .int .i64 b.py, .int .i64 b.vx, .int .i64 b.vy, .int .i64 b.ang, .int .i64 b.spin, .int .i64 b.mass, .int .i64 b.iner, .int .i64 b.bounce, .int .i64 b.rub, .slice B m d, .bool b.asleep, .int .i64 b.calm] 26) := ⟨_, rfl⟩
 have HSL : Hid (SlB w2 (some ⟨w1.heap.size, 0, none⟩) 2 2 L) := by rw [hw2]; exact HSL0.out _ t2
 have hB2 : Below w.heap.size w w2 := by rw [hw2]; exact t2.alloc t2.size _
 obtain ⟨g1, hg1⟩ : ∃ g1, g1 = w1.heap.size := ⟨_, rfl⟩
 clear t2 HSL0
 go_upto_region 3 with fail
 rw [← hw2, ← hg1]
 rw [← hg1] at HSL
 clear hw2 hg1 k0 k1 k2 k3 k4 k5 k6 k7 k8 k9 k10 k11 k12 m0 m1 m2 m3 m4 m5 m6 m7 m8 m9 m10 m11 m12 hlw1 hlw2 hlw
 go_loopw [7, 26] (fun o i wr => ∃ k : Nat, k ≤ 2 ∧ i = .int .i64 k ∧ o = .int .i64 (mv + 8 + tS L s k) ∧ Below w2.heap.size w2 wr) (fun _ i _ => 2 - (intOf i).toNat)
 case atStart => exact ⟨0, Nat.zero_le _, rfl, by simp [tS], Below.refl _ _⟩
 case round =>
  obtain ⟨k, hk, rfl, rfl, hB8⟩ := hrel
  obtain ⟨wo, rfl⟩ : ∃ wo : World, wo = wr := ⟨_, rfl⟩
  by_cases hlt : k < 2
  ·have hltL : k < L.length := by omega
   have HSw := hid (HSL.out.below hB8)
   obtain ⟨ba, off, hA, hC⟩ := HSw.out.sl.at_ (by intro h; rw [h] at hLl; simp at hLl)
   obtain ⟨rfl, rfl⟩ : ba = g1 ∧ off = 0 := by cases hA; exact ⟨rfl, rfl⟩
   clear hA
   obtain ⟨x, hx⟩ : ∃ x, x = L[k] := ⟨_, rfl⟩
   have hxm : x ∈ L := by rw [hx]; exact List.getElem_mem hltL
   have HX := hid (show Sl wo x.A x.n x.c x.l from HSw.out.co x hxm)
   have hxo := HOK.out x hxm
   have hx8 := (checkE_zero (shapeE_zero (bodyE_zero hxo).1)).1
   have hx3 := (checkE_zero (shapeE_zero (bodyE_zero hxo).1)).2.1
   have hsp := (numE_zero (bodyE_zero hxo).2).2.2.1
   have HST : Hid (tS L s (k + 1) = tS L s k + turnB x.b x.l s) := by show tS L s k + _ = _; rw [List.getElem?_eq_getElem hltL, ← hx]
   obtain ⟨d0, d1, d2, d3, d4, d5, d6, d7, d8, d9, d10, d11, d12⟩ := cells_bd hC hltL hx
   rw [Nat.zero_add] at d0 d1 d2 d3 d4 d5 d6 d7 d8 d9 d10 d11 d12
   have hbo := hC.lt
   have hlt' : (k : Int) < 2 := by omega
   have hkw : IntKind.i64.wrap ((k : Int) + 1) = (k : Int) + 1 := IntWalk.i64_in _ (by omega)
   have htb := HTB.out k
   have htb1 := HTB.out (k + 1)
   rw [HST.out] at htb1
   obtain ⟨tk, htk⟩ : ∃ z, z = tS L s k := ⟨_, rfl⟩
   rw [← htk] at htb htb1 HST ⊢
   obtain ⟨gx, hgx⟩ : ∃ g, g = wo.heap.size := ⟨_, rfl⟩
   obtain ⟨wz, hwz⟩ : ∃ z, z = wo.alloc (.cells #[.int .i64 x.b.px, .int .i64 x.b.py, .int .i64 x.b.vx, .int .i64 x.b.vy, .int .i64 x.b.ang, .int .i64 x.b.spin, .int .i64 x.b.mass, .int .i64 x.b.iner, .int .i64 x.b.bounce, .int .i64 x.b.rub, .slice x.A x.n x.c, .bool x.b.asleep, .int .i64 x.b.calm] 26) := ⟨_, rfl⟩
   have HKX := hid (show BdAt wz gx x.b x.A x.n x.c by rw [hwz, hgx]; exact BdAt.here wo x.b x.A x.n x.c _)
   have hB3 : Below w2.heap.size w2 wz := by rw [hwz]; exact hB8.alloc hB8.size _
   have HXZ : Hid (Sl wz x.A x.n x.c x.l) := by show Sl _ _ _ _ _; rw [hwz]; exact HX.out.alloc _
   have HXM := hid hxm
   clear hC hx hxm HSw HX htk
   go_upto_region 5 with fail
   rw [← hwz, ← hgx]
   clear hwz hgx d0 d1 d2 d3 d4 d5 d6 d7 d8 d9 d10 d11 d12 hbo
   obtain ⟨k0, k1, k2, k3, k4, k5, k6, k7, k8, k9, k10, k11, k12, kf⟩ := HKX.out
   go_wp2_with fail
   refine (rfree_calls x.b x.A x.n x.c _).mono ?_
   rintro e w3 ⟨rfl, hb⟩
   replace hB3 := keepBelow hb hB3
   replace HKX := hid (keepBd hb HKX.out)
   replace HXZ := hid (HXZ.out.below hb)
   clear hb k0 k1 k2 k3 k4 k5 k6 k7 k8 k9 k10 k11 k12 kf
   cases hfr : freeB x.b with
   | false =>
    have HT0 : Hid (turnB x.b x.l s = 0) := by
     show _ = _
     unfold turnB
     rw [if_pos]
     unfold freeB at hfr
     rcases Int.decEq x.b.mass 0 with h | h
     ·right; simpa [h] using hfr
     ·left; exact h
    clear hfr HKX
    go_wp2
    go_roundw
    case rel => exact ⟨k + 1, by omega, by go_num, by rw [HST.out, HT0.out, Int.add_zero], hB3⟩
    case measure => simp [intOf] <;> omega
   | true =>
    have hnf := freeB_true hfr
    obtain ⟨sp, hspd⟩ : ∃ z, z = max x.b.spin (-x.b.spin) := ⟨_, rfl⟩
    have HSPD := hid hspd
    obtain ⟨p1, hp1⟩ : ∃ z, z = mulF sp 411775 := ⟨_, rfl⟩
    obtain ⟨rc, hrc⟩ : ∃ z, z = reachT x.l x.l.length := ⟨_, rfl⟩
    obtain ⟨p2, hp2⟩ : ∃ z, z = mulF p1 rc := ⟨_, rfl⟩
    obtain ⟨p3, hp3⟩ : ∃ z, z = mulF p2 s := ⟨_, rfl⟩
    have HT0 : Hid (turnB x.b x.l s = p3 + 4) := by show _ = _; unfold turnB farB; rw [if_neg hnf, if_neg hnf, ← hspd, ← hp1, ← hrc, ← hp2, ← hp3]
    have b3 := mulF_bd p2 s
    rw [← hp3] at b3
    have HM1 := hid (fmul_calls sp 411775)
    rw [← hp1] at HM1
    have HM2 := hid (fmul_calls p1 rc)
    rw [← hp2] at HM2
    have HM3 := hid (fmul_calls p2 s)
    rw [← hp3] at HM3
    have HRO : Hid (∀ w', Below w2.heap.size w2 w' → Calls Tryz.prog 27 #[bodyV x.b x.A x.n x.c] w' (Ret (.int .i64 rc) w')) := fun w' hb => by rw [hrc]; exact rreachOf_calls x.b x.A x.n x.c x.l w' ((HSL.out.below hb).co x (HXM.out)) (by omega) hx8
    have y1 : IntKind.i64.wrap (4 + p3) = p3 + 4 := by rw [Int.add_comm]; exact IntWalk.i64_in _ (by omega)
    have y2 : IntKind.i64.wrap (mv + 8 + tk + (p3 + 4)) = mv + 8 + tk + (p3 + 4) := IntWalk.i64_in _ (by omega)
    have y3 : IntKind.i64.wrap (-x.b.spin) = -x.b.spin := IntWalk.i64_in _ (by omega)
    clear hfr hnf hspd hp1 hrc hp2 hp3 b3 htb htb1
    obtain ⟨k0, k1, k2, k3, k4, k5, k6, k7, k8, k9, k10, k11, k12, kf⟩ := HKX.out
    go_upto_if 36 with fail
    clear k0 k1 k2 k3 k4 k5 k6 k7 k8 k9 k10 k11 k12 kf
    go_cut [10] from 27 to 49 (fun t wx_ => t = .int .i64 sp ∧ BdAt wx_ gx x.b x.A x.n x.c ∧ Below w2.heap.size w2 wx_)
    case first =>
     by_cases hng : x.b.spin < 0
     ·have he : sp = -x.b.spin := by rw [HSPD.out]; omega
      have HE := hid he
      clear he
      go_wp2_with fail
      go_meet
      exact ⟨by rw [HE.out], HKX.out, hB3⟩
     ·have he : sp = x.b.spin := by rw [HSPD.out]; omega
      have HE := hid he
      clear he
      go_wp2_with fail
      go_meet
      exact ⟨by rw [HE.out], HKX.out, hB3⟩
    case rest =>
     obtain ⟨rfl, hc1, hc2⟩ := hcut
     obtain ⟨wd, rfl⟩ : ∃ wd : World, wd = wc := ⟨_, rfl⟩
     clear HKX hB3
     have HKX := hid hc1
     have hB3 := hc2
     clear hc1 hc2
     go_upto_region 9 with fail
     refine wp_region_noPanic ?_
     refine wp_region_U (S := (S2 (fun w' => BdAt w' gx x.b x.A x.n x.c ∧ Below w2.heap.size w2 w'))) (T := (fun _ => 0)) (by kernel_rfl) (S2i0 ⟨HKX.out.drew, hB3.drew⟩) (fun hH => ?_)
     have hWr4 : Weaker (S2 (fun w' => BdAt w' gx x.b x.A x.n x.c ∧ Below w2.heap.size w2 w')) := weaker2 _
     refine Ut 0 39 10 0 0 (v := ?vr4_1) rfl hWr4 hH ?hyr4_1 ?_
     case hyr4_1 => (intro w' hSw; clear hSw; go_simp; try (with_reducible rfl))
     simp only [sB, sC]
     refine Ut 1 40 9 0 0 (v := ?vr4_2) rfl hWr4 hH ?hyr4_2 ?_
     case hyr4_2 => (intro w' hSw; clear hSw; go_simp; try (with_reducible rfl))
     simp only [sB, sC]
     refine Ut 3 42 8 0 0 (v := ?vr4_3) rfl hWr4 hH ?hyr4_3 ?_
     case hyr4_3 => (intro w' hSw; replace hSw := S2o0 hSw; (try dsimp only at hSw); have q0 := hSw.1; have q1 := hSw.2; obtain ⟨qa0_0, qa0_1, qa0_2, qa0_3, qa0_4, qa0_5, qa0_6, qa0_7, qa0_8, qa0_9, qa0_10, qa0_11, qa0_12, qa0_f⟩ := id q0; go_simp; try (with_reducible rfl))
     simp only [sB, sC]
     refine Ut 6 45 7 0 0 (v := ?vr4_4) rfl hWr4 hH ?hyr4_4 ?_
     case hyr4_4 => (intro w' hSw; clear hSw; go_simp; try (with_reducible rfl))
     simp only [sB, sC]
     refine U1 2 0 rfl (fun K hK => ?_)
     try clear hb
     go_simp
     (go_at_call 14; refine (HM1.out _).mono ?_; rintro e wn ⟨rfl, hb⟩)
     refine hK.out _ _ ?hsr4_5 (fun hH2 => ?hrr4_5)
     case hsr4_5 => exact S2i0 (by have hG := hH; replace hG := S2o0 hG; (try dsimp only at hG); have q0 := hG.1; have q1 := hG.2; exact ⟨keepBd hb q0, keepBelow hb q1⟩)
     clear hK K hH
     have hH := hH2
     clear hH2
     try simp only [Act.put, sA, sB, sC]
     refine U1 4 0 rfl (fun K hK => ?_)
     try clear hb
     have hG := hH
     replace hG := S2o0 hG; (try dsimp only at hG); have q0 := hG.1; have q1 := hG.2
     go_simp
     (go_at_call 27; refine (HRO.out _ q1).mono ?_; rintro e wn ⟨rfl, hb⟩)
     refine hK.out _ _ ?hsr4_6 (fun hH2 => ?hrr4_6)
     case hsr4_6 => exact S2i0 (by have hG := hH; replace hG := S2o0 hG; (try dsimp only at hG); have q0 := hG.1; have q1 := hG.2; exact ⟨keepBd hb q0, keepBelow hb q1⟩)
     clear hK K hH
     have hH := hH2
     clear hH2
     try simp only [Act.put, sA, sB, sC]
     refine U1 5 0 rfl (fun K hK => ?_)
     try clear hb
     go_simp
     (go_at_call 14; refine (HM2.out _).mono ?_; rintro e wn ⟨rfl, hb⟩)
     refine hK.out _ _ ?hsr4_7 (fun hH2 => ?hrr4_7)
     case hsr4_7 => exact S2i0 (by have hG := hH; replace hG := S2o0 hG; (try dsimp only at hG); have q0 := hG.1; have q1 := hG.2; exact ⟨keepBd hb q0, keepBelow hb q1⟩)
     clear hK K hH
     have hH := hH2
     clear hH2
     try simp only [Act.put, sA, sB, sC]
     refine U1 7 0 rfl (fun K hK => ?_)
     try clear hb
     go_simp
     (go_at_call 14; refine (HM3.out _).mono ?_; rintro e wn ⟨rfl, hb⟩)
     refine hK.out _ _ ?hsr4_8 (fun hH2 => ?hrr4_8)
     case hsr4_8 => exact S2i0 (by have hG := hH; replace hG := S2o0 hG; (try dsimp only at hG); have q0 := hG.1; have q1 := hG.2; exact ⟨keepBd hb q0, keepBelow hb q1⟩)
     clear hK K hH
     have hH := hH2
     clear hH2
     try simp only [Act.put, sA, sB, sC]
     refine Ut 8 47 2 0 0 (v := ?vr4_9) rfl hWr4 hH ?hyr4_9 ?_
     case hyr4_9 => (intro w' hSw; clear hSw; go_simp; try (with_reducible rfl))
     simp only [sB, sC]
     refine Ut 9 48 1 0 0 (v := ?vr4_10) rfl hWr4 hH ?hyr4_10 ?_
     case hyr4_10 => (intro w' hSw; clear hSw; go_simp; try (with_reducible rfl))
     simp only [sB, sC]
     refine Ut 10 7 0 0 0 (v := ?vr4_11) rfl hWr4 hH ?hyr4_11 ?_
     case hyr4_11 => (intro w' hSw; clear hSw; go_simp; try (with_reducible rfl))
     simp only [sB, sC]
     refine wpAnyU_done (by kernel_rfl) ?_ _ _
     refine NoPanic.normal ?_
     clear hWr4
     replace hH := S2o0 hH
     (try dsimp only at hH)
     have t0 := hH.1
     have t1 := hH.2
     go_wp2
     go_roundw
     case rel => exact ⟨k + 1, by omega, by go_num, by rw [HST.out, HT0.out]; congr 1; omega, t1⟩
     case measure => simp [intOf] <;> omega
  ·have hk2 : k = 2 := by omega
   subst hk2
   have hBf := keepBelow hB8 hB2
   clear HSL HOK HTB hlt
   generalize tS L s 2 = t2 at *
   go_wp2
   go_returns
   exact ret_int HR.out.symm hBf
end
end Go.Proofs.YtilncglnojjlaaaGreat
