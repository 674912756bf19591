/- Parts of a proof: contracts and laws. -/
import Derived.Test.YtiaoandbdgdecaaGreatPK47
import Derived.Test.YtiaoandbdgdecaaGreatPK03
import Derived.Test.YtiaoandbdgdecaaGreatPK04
set_option maxRecDepth 100000
set_option maxHeartbeats 16000000
namespace Go.Proofs.YtiaoandbdgdecaaGreat
section
set_option linter.unusedVariables false
set_option linter.unusedSimpArgs false
open Go.RowKit
theorem on_calls (x1 y1 x2 y2 p q s:Int) (w:World):Calls Tryz.prog 139 #[vecV x1 y1,vecV x2 y2,vecV p q,.int .i64 s] w (Ret (.bool (decide (s=0) && boxB x1 y1 x2 y2 p q)) w):=by
 have HB:Hid (boxB x1 y1 x2 y2 p q=decide (min x1 x2≤p∧p≤max x1 x2∧min y1 y2≤q∧q≤max y1 y2)):=rfl
 obtain ⟨z,hz⟩:∃ z,z=boxB x1 y1 x2 y2 p q:=⟨_,rfl⟩
 rw [← hz] at HB ⊢
 clear hz
 by_cases h0:s=0
 ·by_cases h1 : min x1 x2 ≤ p
  ·by_cases h2 : p ≤ max x1 x2
   ·by_cases h3 : min y1 y2 ≤ q
    ·by_cases h4 : q ≤ max y1 y2
     ·have HZ : Hid (z = true) := by show _ = _; rw [HB.out, decide_eq_true_iff]; exact ⟨h1, h2, h3, h4⟩
      clear HB
      subst h0
      go_enter Tryz.func139,Tryz.ntmps139
      go_wp2
      go_returns
      exact ret_bool (by rw [HZ.out];try simp [*]) (by go_grown)
     ·have HZ : Hid (z = false) := by show _ = _; rw [HB.out, decide_eq_false_iff_not]; rintro ⟨a, b, c, d⟩; exact h4 d
      clear HB
      subst h0
      go_enter Tryz.func139,Tryz.ntmps139
      go_wp2
      go_returns
      exact ret_bool (by rw [HZ.out];try simp [*]) (by go_grown)
    ·have HZ : Hid (z = false) := by show _ = _; rw [HB.out, decide_eq_false_iff_not]; rintro ⟨a, b, c, d⟩; exact h3 c
     clear HB
     subst h0
     go_enter Tryz.func139,Tryz.ntmps139
     go_wp2
     go_returns
     exact ret_bool (by rw [HZ.out];try simp [*]) (by go_grown)
   ·have HZ : Hid (z = false) := by show _ = _; rw [HB.out, decide_eq_false_iff_not]; rintro ⟨a, b, c, d⟩; exact h2 b
    clear HB
    subst h0
    go_enter Tryz.func139,Tryz.ntmps139
    go_wp2
    go_returns
    exact ret_bool (by rw [HZ.out];try simp [*]) (by go_grown)
  ·have HZ : Hid (z = false) := by show _ = _; rw [HB.out, decide_eq_false_iff_not]; rintro ⟨a, b, c, d⟩; exact h1 a
   clear HB
   subst h0
   go_enter Tryz.func139,Tryz.ntmps139
   go_wp2
   go_returns
   exact ret_bool (by rw [HZ.out];try simp [*]) (by go_grown)
 ·have hne : (s == 0) = false := by simp [h0]
  go_enter Tryz.func139,Tryz.ntmps139
  go_wp2
  go_returns
  exact ret_bool (by simp [h0]) (by go_grown)
theorem cmpZ_one (a b:Int) : -1≤cmpZ a b∧cmpZ a b≤1:=by unfold cmpZ;split <;> (try split) <;> omega
theorem rseg_wide (x1 y1 x2 y2 x3 y3 x4 y4:Int) (w:World) (h1:withinB 262144000 x1 y1=true) (h2:withinB 262144000 x2 y2=true) (h3:withinB 262144000 x3 y3=true) (h4:withinB 262144000 x4 y4=true) :
  Calls Tryz.prog 95 #[vecV x1 y1,vecV x2 y2,vecV x3 y3,vecV x4 y4] w (Ret (.bool (segB (x1,y1) (x2,y2) (x3,y3) (x4,y4))) w):=by
 obtain ⟨a1,a2,a3,a4⟩:=withinB_iff.1 h1
 obtain ⟨b1,b2,b3,b4⟩:=withinB_iff.1 h2
 obtain ⟨c1,c2,c3,c4⟩:=withinB_iff.1 h3
 obtain ⟨d1,d2,d3,d4⟩:=withinB_iff.1 h4
 have HL1:Hid (∀ w,Calls Tryz.prog 138 #[vecV x1 y1,vecV x2 y2,vecV x3 y3] w (Ret (.int .i64 (sgV (x1,y1) (x2,y2) (x3,y3))) w)):=fun w=>left_calls _ _ _ _ _ _ (by unfold sm;omega) (by unfold sm;omega) (by unfold sm;omega) (by unfold sm;omega) (by unfold sm;omega) (by unfold sm;omega) w
 have HL2:Hid (∀ w,Calls Tryz.prog 138 #[vecV x1 y1,vecV x2 y2,vecV x4 y4] w (Ret (.int .i64 (sgV (x1,y1) (x2,y2) (x4,y4))) w)):=fun w=>left_calls _ _ _ _ _ _ (by unfold sm;omega) (by unfold sm;omega) (by unfold sm;omega) (by unfold sm;omega) (by unfold sm;omega) (by unfold sm;omega) w
 have HL3:Hid (∀ w,Calls Tryz.prog 138 #[vecV x3 y3,vecV x4 y4,vecV x1 y1] w (Ret (.int .i64 (sgV (x3,y3) (x4,y4) (x1,y1))) w)):=fun w=>left_calls _ _ _ _ _ _ (by unfold sm;omega) (by unfold sm;omega) (by unfold sm;omega) (by unfold sm;omega) (by unfold sm;omega) (by unfold sm;omega) w
 have HL4:Hid (∀ w,Calls Tryz.prog 138 #[vecV x3 y3,vecV x4 y4,vecV x2 y2] w (Ret (.int .i64 (sgV (x3,y3) (x4,y4) (x2,y2))) w)):=fun w=>left_calls _ _ _ _ _ _ (by unfold sm;omega) (by unfold sm;omega) (by unfold sm;omega) (by unfold sm;omega) (by unfold sm;omega) (by unfold sm;omega) w
 have HO1:Hid (∀ w,Calls Tryz.prog 139 #[vecV x1 y1,vecV x2 y2,vecV x3 y3,.int .i64 (sgV (x1,y1) (x2,y2) (x3,y3))] w (Ret (.bool (onV (x1,y1) (x2,y2) (x3,y3) (sgV (x1,y1) (x2,y2) (x3,y3)))) w)):=fun w=>on_calls _ _ _ _ _ _ _ w
 have HO2:Hid (∀ w,Calls Tryz.prog 139 #[vecV x1 y1,vecV x2 y2,vecV x4 y4,.int .i64 (sgV (x1,y1) (x2,y2) (x4,y4))] w (Ret (.bool (onV (x1,y1) (x2,y2) (x4,y4) (sgV (x1,y1) (x2,y2) (x4,y4)))) w)):=fun w=>on_calls _ _ _ _ _ _ _ w
 have HO3:Hid (∀ w,Calls Tryz.prog 139 #[vecV x3 y3,vecV x4 y4,vecV x1 y1,.int .i64 (sgV (x3,y3) (x4,y4) (x1,y1))] w (Ret (.bool (onV (x3,y3) (x4,y4) (x1,y1) (sgV (x3,y3) (x4,y4) (x1,y1)))) w)):=fun w=>on_calls _ _ _ _ _ _ _ w
 have HO4:Hid (∀ w,Calls Tryz.prog 139 #[vecV x3 y3,vecV x4 y4,vecV x2 y2,.int .i64 (sgV (x3,y3) (x4,y4) (x2,y2))] w (Ret (.bool (onV (x3,y3) (x4,y4) (x2,y2) (sgV (x3,y3) (x4,y4) (x2,y2)))) w)):=fun w=>on_calls _ _ _ _ _ _ _ w
 have HSEG:Hid (segB (x1,y1) (x2,y2) (x3,y3) (x4,y4)=((decide (sgV (x1,y1) (x2,y2) (x3,y3)*sgV (x1,y1) (x2,y2) (x4,y4)<0) && decide (sgV (x3,y3) (x4,y4) (x1,y1)*sgV (x3,y3) (x4,y4) (x2,y2)<0)) || (onV (x1,y1) (x2,y2) (x3,y3) (sgV (x1,y1) (x2,y2) (x3,y3)) || (onV (x1,y1) (x2,y2) (x4,y4) (sgV (x1,y1) (x2,y2) (x4,y4)) || (onV (x3,y3) (x4,y4) (x1,y1) (sgV (x3,y3) (x4,y4) (x1,y1)) || onV (x3,y3) (x4,y4) (x2,y2) (sgV (x3,y3) (x4,y4) (x2,y2))))))):=rfl
 have k1 : -1≤sgV (x1,y1) (x2,y2) (x3,y3)∧sgV (x1,y1) (x2,y2) (x3,y3)≤1:=cmpZ_one _ _
 have k2 : -1≤sgV (x1,y1) (x2,y2) (x4,y4)∧sgV (x1,y1) (x2,y2) (x4,y4)≤1:=cmpZ_one _ _
 have k3 : -1≤sgV (x3,y3) (x4,y4) (x1,y1)∧sgV (x3,y3) (x4,y4) (x1,y1)≤1:=cmpZ_one _ _
 have k4 : -1≤sgV (x3,y3) (x4,y4) (x2,y2)∧sgV (x3,y3) (x4,y4) (x2,y2)≤1:=cmpZ_one _ _
 generalize onV (x1,y1) (x2,y2) (x3,y3) (sgV (x1,y1) (x2,y2) (x3,y3))=o1 at *
 generalize onV (x1,y1) (x2,y2) (x4,y4) (sgV (x1,y1) (x2,y2) (x4,y4))=o2 at *
 generalize onV (x3,y3) (x4,y4) (x1,y1) (sgV (x3,y3) (x4,y4) (x1,y1))=o3 at *
 generalize onV (x3,y3) (x4,y4) (x2,y2) (sgV (x3,y3) (x4,y4) (x2,y2))=o4 at *
 generalize sgV (x1,y1) (x2,y2) (x3,y3)=P at *
 generalize sgV (x1,y1) (x2,y2) (x4,y4)=Q at *
 generalize sgV (x3,y3) (x4,y4) (x1,y1)=R at *
 generalize sgV (x3,y3) (x4,y4) (x2,y2)=S at *
 generalize segB (x1,y1) (x2,y2) (x3,y3) (x4,y4)=z at *
 have m1:=mul_bd (x:=P) (y:=Q) (M:=1) (N:=1) (by omega) (by omega) (by omega) (by omega)
 have m2:=mul_bd (x:=R) (y:=S) (M:=1) (N:=1) (by omega) (by omega) (by omega) (by omega)
 have u1:IntKind.i64.wrap (P*Q)=P*Q:=IntWalk.i64_in _ (by omega)
 have u2:IntKind.i64.wrap (R*S)=R*S:=IntWalk.i64_in _ (by omega)
 clear m1 m2 k1 k2 k3 k4 h1 h2 h3 h4 a1 a2 a3 a4 b1 b2 b3 b4 c1 c2 c3 c4 d1 d2 d3 d4
 obtain ⟨W,hW⟩:∃ W,W=(((w.alloc (.cells #[.int .i64 x1,.int .i64 y1] 27)).alloc (.cells #[.int .i64 x2,.int .i64 y2] 27)).alloc (.cells #[.int .i64 x3,.int .i64 y3] 27)).alloc (.cells #[.int .i64 x4,.int .i64 y4] 27):=⟨_,rfl⟩
 have k0:W.cell? ⟨w.heap.size,0,none⟩=some (.int .i64 x1):=by rw [hW];go_simp
 have k1:W.cell? ⟨w.heap.size,1,none⟩=some (.int .i64 y1):=by rw [hW];go_simp
 have k2:W.cell? ⟨w.heap.size+1,0,none⟩=some (.int .i64 x2):=by rw [hW];go_simp
 have k3:W.cell? ⟨w.heap.size+1,1,none⟩=some (.int .i64 y2):=by rw [hW];go_simp
 have k4:W.cell? ⟨w.heap.size+2,0,none⟩=some (.int .i64 x3):=by rw [hW];go_simp
 have k5:W.cell? ⟨w.heap.size+2,1,none⟩=some (.int .i64 y3):=by rw [hW];go_simp
 have k6:W.cell? ⟨w.heap.size+3,0,none⟩=some (.int .i64 x4):=by rw [hW];go_simp
 have k7:W.cell? ⟨w.heap.size+3,1,none⟩=some (.int .i64 y4):=by rw [hW];go_simp
 have hB:Below w.heap.size w W:=by rw [hW];go_grown
 go_enter Tryz.func95,Tryz.ntmps95
 go_wp2_with fail
 rw [← hW]
 clear hW
 refine wp_region_noPanic ?_
 refine wp_region_U (S:=(S2 (fun w'=>w'.cell? ⟨w.heap.size,0,none⟩=some (.int .i64 x1)∧w'.cell? ⟨w.heap.size,1,none⟩=some (.int .i64 y1)∧w'.cell? ⟨w.heap.size+1,0,none⟩=some (.int .i64 x2)∧w'.cell? ⟨w.heap.size+1,1,none⟩=some (.int .i64 y2)∧w'.cell? ⟨w.heap.size+2,0,none⟩=some (.int .i64 x3)∧w'.cell? ⟨w.heap.size+2,1,none⟩=some (.int .i64 y3)∧w'.cell? ⟨w.heap.size+3,0,none⟩=some (.int .i64 x4)∧w'.cell? ⟨w.heap.size+3,1,none⟩=some (.int .i64 y4)∧Below w.heap.size w w'))) (T:=(fun _=>0)) (by kernel_rfl) (S2i0 ⟨k0,k1,k2,k3,k4,k5,k6,k7,hB.drew⟩) (fun hH=>?_)
 have hWr1:Weaker (S2 (fun w'=>w'.cell? ⟨w.heap.size,0,none⟩=some (.int .i64 x1)∧w'.cell? ⟨w.heap.size,1,none⟩=some (.int .i64 y1)∧w'.cell? ⟨w.heap.size+1,0,none⟩=some (.int .i64 x2)∧w'.cell? ⟨w.heap.size+1,1,none⟩=some (.int .i64 y2)∧w'.cell? ⟨w.heap.size+2,0,none⟩=some (.int .i64 x3)∧w'.cell? ⟨w.heap.size+2,1,none⟩=some (.int .i64 y3)∧w'.cell? ⟨w.heap.size+3,0,none⟩=some (.int .i64 x4)∧w'.cell? ⟨w.heap.size+3,1,none⟩=some (.int .i64 y4)∧Below w.heap.size w w')):=weaker2 _
 refine Utn [(0,14),(1,15),(2,16),(4,18),(5,19),(6,20),(8,22),(9,23),(10,24),(12,26),(13,27),(14,28)] 8 0 0 (L':=?Lr1_1) hWr1 hH ?hyr1_1 ?_
 case hyr1_1=>((iterate 12 apply tkC;rfl;kernel_rfl;intro w' hSw;replace hSw:=S2o0 hSw;(try dsimp only at hSw);have q0:=hSw.1;have q1:=hSw.2.1;have q2:=hSw.2.2.1;have q3:=hSw.2.2.2.1;have q4:=hSw.2.2.2.2.1;have q5:=hSw.2.2.2.2.2.1;have q6:=hSw.2.2.2.2.2.2.1;have q7:=hSw.2.2.2.2.2.2.2.1;have q8:=hSw.2.2.2.2.2.2.2.2;(try simp only [sB,sC]);go_simp;(try with_reducible rfl));exact tkN)
 simp only [sB,sC]
 refine U1 3 0 rfl (fun K hK=>?_)
 try clear hb
 go_simp
 (go_at_call 138;refine (HL1.out _).mono ?_;rintro e wn ⟨rfl,hb⟩)
 refine hK.out _ _ ?hsr1_13 (fun hH2=>?hrr1_13)
 case hsr1_13=>exact S2i0 (by have hG:=hH;replace hG:=S2o0 hG;(try dsimp only at hG);have q0:=hG.1;have q1:=hG.2.1;have q2:=hG.2.2.1;have q3:=hG.2.2.2.1;have q4:=hG.2.2.2.2.1;have q5:=hG.2.2.2.2.2.1;have q6:=hG.2.2.2.2.2.2.1;have q7:=hG.2.2.2.2.2.2.2.1;have q8:=hG.2.2.2.2.2.2.2.2;exact ⟨keepCell hb q0,keepCell hb q1,keepCell hb q2,keepCell hb q3,keepCell hb q4,keepCell hb q5,keepCell hb q6,keepCell hb q7,keepBelow hb q8⟩)
 clear hK K hH
 have hH:=hH2
 clear hH2
 try simp only [Act.put,sA,sB,sC]
 refine U1 7 0 rfl (fun K hK=>?_)
 try clear hb
 go_simp
 (go_at_call 138;refine (HL2.out _).mono ?_;rintro e wn ⟨rfl,hb⟩)
 refine hK.out _ _ ?hsr1_14 (fun hH2=>?hrr1_14)
 case hsr1_14=>exact S2i0 (by have hG:=hH;replace hG:=S2o0 hG;(try dsimp only at hG);have q0:=hG.1;have q1:=hG.2.1;have q2:=hG.2.2.1;have q3:=hG.2.2.2.1;have q4:=hG.2.2.2.2.1;have q5:=hG.2.2.2.2.2.1;have q6:=hG.2.2.2.2.2.2.1;have q7:=hG.2.2.2.2.2.2.2.1;have q8:=hG.2.2.2.2.2.2.2.2;exact ⟨keepCell hb q0,keepCell hb q1,keepCell hb q2,keepCell hb q3,keepCell hb q4,keepCell hb q5,keepCell hb q6,keepCell hb q7,keepBelow hb q8⟩)
 clear hK K hH
 have hH:=hH2
 clear hH2
 try simp only [Act.put,sA,sB,sC]
 refine U1 11 0 rfl (fun K hK=>?_)
 try clear hb
 go_simp
 (go_at_call 138;refine (HL3.out _).mono ?_;rintro e wn ⟨rfl,hb⟩)
 refine hK.out _ _ ?hsr1_15 (fun hH2=>?hrr1_15)
 case hsr1_15=>exact S2i0 (by have hG:=hH;replace hG:=S2o0 hG;(try dsimp only at hG);have q0:=hG.1;have q1:=hG.2.1;have q2:=hG.2.2.1;have q3:=hG.2.2.2.1;have q4:=hG.2.2.2.2.1;have q5:=hG.2.2.2.2.2.1;have q6:=hG.2.2.2.2.2.2.1;have q7:=hG.2.2.2.2.2.2.2.1;have q8:=hG.2.2.2.2.2.2.2.2;exact ⟨keepCell hb q0,keepCell hb q1,keepCell hb q2,keepCell hb q3,keepCell hb q4,keepCell hb q5,keepCell hb q6,keepCell hb q7,keepBelow hb q8⟩)
 clear hK K hH
 have hH:=hH2
 clear hH2
 try simp only [Act.put,sA,sB,sC]
 refine U1 15 0 rfl (fun K hK=>?_)
 try clear hb
 go_simp
 (go_at_call 138;refine (HL4.out _).mono ?_;rintro e wn ⟨rfl,hb⟩)
 refine hK.out _ _ ?hsr1_16 (fun hH2=>?hrr1_16)
 case hsr1_16=>exact S2i0 (by have hG:=hH;replace hG:=S2o0 hG;(try dsimp only at hG);have q0:=hG.1;have q1:=hG.2.1;have q2:=hG.2.2.1;have q3:=hG.2.2.2.1;have q4:=hG.2.2.2.2.1;have q5:=hG.2.2.2.2.2.1;have q6:=hG.2.2.2.2.2.2.1;have q7:=hG.2.2.2.2.2.2.2.1;have q8:=hG.2.2.2.2.2.2.2.2;exact ⟨keepCell hb q0,keepCell hb q1,keepCell hb q2,keepCell hb q3,keepCell hb q4,keepCell hb q5,keepCell hb q6,keepCell hb q7,keepBelow hb q8⟩)
 clear hK K hH
 have hH:=hH2
 clear hH2
 try simp only [Act.put,sA,sB,sC]
 refine Utn [(16,9),(17,10),(18,11),(19,12)] 0 0 0 (L':=?Lr1_17) hWr1 hH ?hyr1_17 ?_
 case hyr1_17=>((iterate 4 apply tkC;rfl;kernel_rfl;intro w' hSw;clear hSw;(try simp only [sB,sC]);go_simp;(try with_reducible rfl));exact tkN)
 simp only [sB,sC]
 refine wpAnyU_done (by kernel_rfl) ?_ _ _
 refine NoPanic.normal ?_
 clear hWr1
 replace hH:=S2o0 hH
 (try dsimp only at hH)
 have q0:=hH.1
 have q1:=hH.2.1
 have q2:=hH.2.2.1
 have q3:=hH.2.2.2.1
 have q4:=hH.2.2.2.2.1
 have q5:=hH.2.2.2.2.2.1
 have q6:=hH.2.2.2.2.2.2.1
 have q7:=hH.2.2.2.2.2.2.2.1
 have q8:=hH.2.2.2.2.2.2.2.2
 clear hH hb k0 k1 k2 k3 k4 k5 k6 k7 hB HL1 HL2 HL3 HL4
 have fin:∀ (wx:World),Below w.heap.size w wx→(P*Q<0∧R*S<0)→Ret (.bool z) w (.returned (.bool true)) wx:=fun wx hb h=>ret_bool (by rw [HSEG.out];simp [h.1,h.2]) hb
 have HFIN:=hid fin
 clear fin
 have KEEP:Hid (∀ wx wy:World,Below wx.heap.size wx wy→(∀ b o v,wx.cell? ⟨b,o,none⟩=some v→wy.cell? ⟨b,o,none⟩=some v)):=fun wx wy h b o v hc=>keepCell h hc
 by_cases n1:P*Q<0∧R*S<0
 ·have n2 := n1.1
  have n3:=n1.2
  go_wp2
  go_returns
  exact HFIN.out _ q8 n1
 ·have HS2:Hid (z=(o1 || (o2 || (o3 || o4)))):=by
   show _=_
   rw [HSEG.out]
   by_cases t:P*Q<0
   ·rw [decide_eq_true t,decide_eq_false (fun g=>n1 ⟨t,g⟩)];rfl
   ·rw [decide_eq_false t];rfl
  have hor:(¬ P*Q<0)∨(P*Q<0∧¬ R*S<0):=by omega
  clear HSEG HFIN n1
  rcases hor with n2 | ⟨n2,n3⟩
  all_goals
   go_wp2_with fail
   refine (HO1.out _).mono ?_
   rintro e v1 ⟨rfl,hv1⟩
   replace q0:=keepCell hv1 q0
   replace q1:=keepCell hv1 q1
   replace q2:=keepCell hv1 q2
   replace q3:=keepCell hv1 q3
   replace q4:=keepCell hv1 q4
   replace q5:=keepCell hv1 q5
   replace q6:=keepCell hv1 q6
   replace q7:=keepCell hv1 q7
   replace q8:=keepBelow hv1 q8
   clear hv1
   cases o1 with
   | true =>
    go_wp2
    go_returns
    exact ret_bool (by rw [HS2.out];rfl) q8
   | false =>
    go_wp2_with fail
    refine (HO2.out _).mono ?_
    rintro e v2 ⟨rfl,hv2⟩
    replace q0:=keepCell hv2 q0
    replace q1:=keepCell hv2 q1
    replace q2:=keepCell hv2 q2
    replace q3:=keepCell hv2 q3
    replace q4:=keepCell hv2 q4
    replace q5:=keepCell hv2 q5
    replace q6:=keepCell hv2 q6
    replace q7:=keepCell hv2 q7
    replace q8:=keepBelow hv2 q8
    clear hv2
    cases o2 with
    | true =>
     go_wp2
     go_returns
     exact ret_bool (by rw [HS2.out];rfl) q8
    | false =>
     go_wp2_with fail
     refine (HO3.out _).mono ?_
     rintro e v3 ⟨rfl,hv3⟩
     replace q0:=keepCell hv3 q0
     replace q1:=keepCell hv3 q1
     replace q2:=keepCell hv3 q2
     replace q3:=keepCell hv3 q3
     replace q4:=keepCell hv3 q4
     replace q5:=keepCell hv3 q5
     replace q6:=keepCell hv3 q6
     replace q7:=keepCell hv3 q7
     replace q8:=keepBelow hv3 q8
     clear hv3
     cases o3 with
     | true =>
      go_wp2
      go_returns
      exact ret_bool (by rw [HS2.out];rfl) q8
     | false =>
      go_wp2_with fail
      refine (HO4.out _).mono ?_
      rintro e v4 ⟨rfl,hv4⟩
      replace q8:=keepBelow hv4 q8
      clear hv4
      go_wp2
      go_returns
      exact ret_bool (by rw [HS2.out];simp) q8
def segAt (a b:List V) (i k:Nat):Bool:=segB (cyP a i) (cyP a (i+1)) (cyP b k) (cyP b (k+1))
theorem within_more {a b m n:Int} (h:m≤n) (hw:withinB m a b=true):withinB n a b=true:=by
 obtain ⟨p,q,r,s⟩:=withinB_iff.1 hw
 exact withinB_iff.2 ⟨by omega,by omega,by omega,by omega⟩
theorem rseg_calls (x1 y1 x2 y2 x3 y3 x4 y4:Int) (w:World) (h1:withinB 65536000 x1 y1=true) (h2:withinB 65536000 x2 y2=true) (h3:withinB 65536000 x3 y3=true) (h4:withinB 65536000 x4 y4=true) :
  Calls Tryz.prog 95 #[vecV x1 y1,vecV x2 y2,vecV x3 y3,vecV x4 y4] w (Ret (.bool (segB (x1,y1) (x2,y2) (x3,y3) (x4,y4))) w) :=
 rseg_wide x1 y1 x2 y2 x3 y3 x4 y4 w (within_more (by omega) h1) (within_more (by omega) h2) (within_more (by omega) h3) (within_more (by omega) h4)
theorem rmeet_calls (A B:Option Addr) (n c n' c':Nat) (a b:List V) (w:World) (hS:Sl w A n c a) (hM:Sl w B n' c' b) (ha:checkE a=0) (hb:checkE b=0) :
  Calls Tryz.prog 49 #[.slice A n c,.slice B n' c'] w (Ret (.bool (rmeetB a b)) w):=by
 obtain ⟨a8,a3,wa,_⟩:=checkE_zero ha
 obtain ⟨b8,b3,wb,_⟩:=checkE_zero hb
 have hn:=hS.len
 have hn':=hM.len
 subst hn hn'
 obtain ⟨bA,oA,rfl,hCA⟩:=hS.at_ (by intro h;subst h;simp at a3)
 obtain ⟨bB,oB,rfl,hCB⟩:=hM.at_ (by intro h;subst h;simp at b3)
 have HI1:Hid (∀ w',Below w.heap.size w w'→Calls Tryz.prog 94 #[.slice (some ⟨bA,oA,none⟩) a.length c,vecV (px b 0) (py b 0)] w' (Ret (.bool (insB a (px b 0) (py b 0))) w')):=fun w' h=>inside_calls _ _ _ a _ _ w' (hS.below h) wa a8 a3
 have HI2:Hid (∀ w',Below w.heap.size w w'→Calls Tryz.prog 94 #[.slice (some ⟨bB,oB,none⟩) b.length c',vecV (px a 0) (py a 0)] w' (Ret (.bool (insB b (px a 0) (py a 0))) w')):=fun w' h=>inside_calls _ _ _ b _ _ w' (hM.below h) wb b8 b3
 have HCA:=hid hCA
 have HCB:=hid hCB
 have HWA:=hid wa
 have HWB:=hid wb
 have HRM:Hid (rmeetB a b=(insB a (px b 0) (py b 0) || (insB b (px a 0) (py a 0) || ((List.range a.length).any fun i=>(List.range b.length).any fun k=>segAt a b i k)))):=rfl
 have a0:¬ a=[]:=by intro h;subst h;simp at a3
 have b0:¬ b=[]:=by intro h;subst h;simp at b3
 have x0:w.cell? ⟨bB,oB,none⟩=some (.int .i64 (px b 0)):=by simpa using hCB.x 0 (by omega)
 have y0:w.cell? ⟨bB,oB+1,none⟩=some (.int .i64 (py b 0)):=by simpa using hCB.y 0 (by omega)
 generalize rmeetB a b=Z at *
 clear hS hM ha hb wa wb hCA hCB
 go_enter Tryz.func49,Tryz.ntmps49
 go_wp2_with fail
 refine (HI1.out _ (Below.refl _ _)).mono ?_
 rintro e w1 ⟨rfl,hb1⟩
 generalize insB a (px b 0) (py b 0)=i1 at *
 clear x0 y0
 cases i1 with
 | true =>
  clear HI1 HI2
  go_wp2
  go_returns
  exact ret_bool (by rw [HRM.out];rfl) hb1
 | false =>
  have x0:w1.cell? ⟨bA,oA,none⟩=some (.int .i64 (px a 0)):=by simpa using (HCA.out.below hb1).x 0 (by omega)
  have y0:w1.cell? ⟨bA,oA+1,none⟩=some (.int .i64 (py a 0)):=by simpa using (HCA.out.below hb1).y 0 (by omega)
  go_wp2_with fail
  refine (HI2.out _ hb1).mono ?_
  rintro e w2 ⟨rfl,hb2⟩
  have hB2:=keepBelow hb2 hb1
  generalize insB b (px a 0) (py a 0)=i2 at *
  clear x0 y0 hb1 hb2 HI1 HI2
  cases i2 with
  | true =>
   go_wp2
   go_returns
   exact ret_bool (by rw [HRM.out];rfl) hB2
  | false =>
   go_wp2
   go_loopw [23] (fun j wr=>∃ i:Nat,i≤a.length∧j = .int .i64 i∧(∀ i',i'<i→∀ k,k<b.length→segAt a b i' k=false)∧Below w.heap.size w wr) (fun j _=>a.length-(intOf j).toNat)
   case atStart=>exact ⟨0,Nat.zero_le _,rfl,fun i' h=>absurd h (by omega),hB2⟩
   case round =>
    clear hB2
    obtain ⟨i,hi,rfl,hno,hB⟩:=hrel
    obtain ⟨wo,rfl⟩:∃ wo:World,wo=wr:=⟨_,rfl⟩
    have HNO:=hid hno
    clear hno
    by_cases hlt:i<a.length
    ·have hlt' : (i : Int) < (a.length : Int) := by omega
     have hC:=HCA.out.below hB
     have xk:=hC.x i hlt
     have yk:=hC.y i hlt
     have hbl:=hC.lt
     clear hC
     go_wp2
     obtain ⟨g6,hg6⟩:∃ g,g=wo.heap.size:=⟨_,rfl⟩
     obtain ⟨wp,hwp⟩:∃ wz,wz=wo.alloc (.cells #[.int .i64 (px a i),.int .i64 (py a i)] 27):=⟨_,rfl⟩
     have p0:wp.cell? ⟨g6,0,none⟩=some (.int .i64 (px a i)):=by rw [hwp,hg6];go_simp
     have p1:wp.cell? ⟨g6,1,none⟩=some (.int .i64 (py a i)):=by rw [hwp,hg6];go_simp
     have hBp:Below w.heap.size w wp:=by rw [hwp];exact hB.alloc hB.size _
     rw [← hwp,← hg6]
     clear hwp hg6 xk yk hB hbl
     go_loopw [30] (fun j wr=>∃ k:Nat,k≤b.length∧j = .int .i64 k∧(∀ k',k'<k→segAt a b i k'=false)∧Below wp.heap.size wp wr) (fun j _=>b.length-(intOf j).toNat)
     case atStart=>exact ⟨0,Nat.zero_le _,rfl,fun k' h=>absurd h (by omega),Below.refl _ _⟩
     case round =>
      obtain ⟨k,hk,rfl,hnk,hB2⟩:=hrel
      obtain ⟨wo2,rfl⟩:∃ wo2:World,wo2=wr:=⟨_,rfl⟩
      have HNK:=hid hnk
      clear hnk
      by_cases hlt2:k<b.length
      ·have hlt2' : (k : Int) < (b.length : Int) := by omega
       have hBw:=keepBelow hB2 hBp
       have hC:=HCA.out.below hBw
       have hD:=HCB.out.below hBw
       obtain ⟨j,hjej⟩:∃ j,j=(i+1) % a.length:=⟨_,rfl⟩
       obtain ⟨m,hjem⟩:∃ j,j=(k+1) % b.length:=⟨_,rfl⟩
       have hjj:j<a.length:=by rw [hjej];exact Nat.mod_lt _ (by omega)
       have hjaj:((i:Int)+1) % (a.length:Int)=(j:Int):=by rw [hjej];simp
       have hjbj:(((i:Int)+1) % (a.length:Int)).toNat=j:=by omega
       have hjcj:((i:Int)+1) % (a.length:Int)<(a.length:Int):=by omega
       have hjdj:0≤((i:Int)+1) % (a.length:Int):=by omega
       have hwkj:IntKind.i64.wrap ((i:Int)+1)=(i:Int)+1:=IntWalk.i64_in _ (by omega)
       have htmj:((i:Int)+1).tmod (a.length:Int)=(j:Int):=by rw [Int.tmod_eq_emod_of_nonneg (by omega)];exact hjaj
       have hjlj:(j:Int)<(a.length:Int):=by omega
       have hl0j:¬ a=[]:=by intro h;rw [h] at hlt;simp at hlt
       have hjm:m<b.length:=by rw [hjem];exact Nat.mod_lt _ (by omega)
       have hjam:((k:Int)+1) % (b.length:Int)=(m:Int):=by rw [hjem];simp
       have hjbm:(((k:Int)+1) % (b.length:Int)).toNat=m:=by omega
       have hjcm:((k:Int)+1) % (b.length:Int)<(b.length:Int):=by omega
       have hjdm:0≤((k:Int)+1) % (b.length:Int):=by omega
       have hwkm:IntKind.i64.wrap ((k:Int)+1)=(k:Int)+1:=IntWalk.i64_in _ (by omega)
       have htmm:((k:Int)+1).tmod (b.length:Int)=(m:Int):=by rw [Int.tmod_eq_emod_of_nonneg (by omega)];exact hjam
       have hjlm:(m:Int)<(b.length:Int):=by omega
       have hl0m:¬ b=[]:=by intro h;rw [h] at hlt2;simp at hlt2
       have xk:=hD.x k hlt2
       have yk:=hD.y k hlt2
       have d0:=hC.x j hjj
       have d1:=hC.y j hjj
       have f0:=hD.x m hjm
       have f1:=hD.y m hjm
       have hblD:=hD.lt
       have hblC:=hC.lt
       have HSG:Hid (∀ w,Calls Tryz.prog 95 #[vecV (px a i) (py a i),vecV (px a j) (py a j),vecV (px b k) (py b k),vecV (px b m) (py b m)] w (Ret (.bool (segAt a b i k)) w)):=fun w=>by
        have:=rseg_calls (px a i) (py a i) (px a j) (py a j) (px b k) (py b k) (px b m) (py b m) w (allWithin_at HWA.out hlt) (allWithin_at HWA.out hjj) (allWithin_at HWB.out hlt2) (allWithin_at HWB.out hjm)
        unfold segAt
        rw [cyP_lt hlt,cyP_lt hlt2]
        unfold cyP
        rw [← hjej,← hjem]
        exact this
       have HT:=hid (show ∀ s:Bool,segAt a b i k=s→segAt a b i k=s from fun _ h=>h)
       obtain ⟨sg,hsg⟩:∃ s,s=segAt a b i k:=⟨_,rfl⟩
       rw [← hsg] at HSG
       have HSQ:=hid hsg
       clear hC hD hjej hjem hsg HT hBw
       have c0:=keepCell hB2 p0
       have c1:=keepCell hB2 p1
       generalize px a i=x1 at *
       generalize py a i=y1 at *
       generalize px a j=x2 at *
       generalize py a j=y2 at *
       generalize px b k=x3 at *
       generalize py b k=y3 at *
       generalize px b m=x4 at *
       generalize py b m=y4 at *
       go_upto_region 9 with fail
       obtain ⟨g8,hg8⟩:∃ g,g=wo2.heap.size:=⟨_,rfl⟩
       obtain ⟨wz,hwz⟩:∃ wz,wz=wo2.alloc (.cells #[.int .i64 x3,.int .i64 y3] 27):=⟨_,rfl⟩
       have e0:wz.cell? ⟨g8,0,none⟩=some (.int .i64 x3):=by rw [hwz,hg8];go_simp
       have e1:wz.cell? ⟨g8,1,none⟩=some (.int .i64 y3):=by rw [hwz,hg8];go_simp
       have up:∀ b o v,wo2.cell? ⟨b,o,none⟩=some v→wz.cell? ⟨b,o,none⟩=some v:=fun b o v h=>by rw [hwz];exact keepCell Ba h
       replace c0:=up _ _ _ c0
       replace c1:=up _ _ _ c1
       replace d0:=up _ _ _ d0
       replace d1:=up _ _ _ d1
       replace f0:=up _ _ _ f0
       replace f1:=up _ _ _ f1
       have hBz:Below wp.heap.size wp wz:=by rw [hwz];exact hB2.alloc hB2.size _
       rw [← hwz,← hg8]
       clear hwz hg8 xk yk hB2 hblC hblD up
       refine wp_region_noPanic ?_
       refine wp_region_U (S:=(S2 (fun w'=>w'.cell? ⟨g6,0,none⟩=some (.int .i64 (x1))∧w'.cell? ⟨g6,1,none⟩=some (.int .i64 (y1))∧w'.cell? ⟨bA,oA+j*2,none⟩=some (.int .i64 (x2))∧w'.cell? ⟨bA,oA+j*2+1,none⟩=some (.int .i64 (y2))∧w'.cell? ⟨g8,0,none⟩=some (.int .i64 (x3))∧w'.cell? ⟨g8,1,none⟩=some (.int .i64 (y3))∧w'.cell? ⟨bB,oB+m*2,none⟩=some (.int .i64 (x4))∧w'.cell? ⟨bB,oB+m*2+1,none⟩=some (.int .i64 (y4))∧Below wp.heap.size wp w'))) (T:=(fun _=>0)) (by kernel_rfl) (S2i0 ⟨c0,c1,d0,d1,e0,e1,f0,f1,hBz.drew⟩) (fun hH=>?_)
       have hWr2:Weaker (S2 (fun w'=>w'.cell? ⟨g6,0,none⟩=some (.int .i64 (x1))∧w'.cell? ⟨g6,1,none⟩=some (.int .i64 (y1))∧w'.cell? ⟨bA,oA+j*2,none⟩=some (.int .i64 (x2))∧w'.cell? ⟨bA,oA+j*2+1,none⟩=some (.int .i64 (y2))∧w'.cell? ⟨g8,0,none⟩=some (.int .i64 (x3))∧w'.cell? ⟨g8,1,none⟩=some (.int .i64 (y3))∧w'.cell? ⟨bB,oB+m*2,none⟩=some (.int .i64 (x4))∧w'.cell? ⟨bB,oB+m*2+1,none⟩=some (.int .i64 (y4))∧Below wp.heap.size wp w')):=weaker2 _
       refine Utn [(0,35),(1,36),(2,37),(3,38),(4,39),(5,40),(6,41),(7,42),(8,43),(9,44),(10,45),(11,46),(12,47),(13,48),(14,49),(15,50),(16,51),(17,52)] 1 0 0 (L':=?Lr2_1) hWr2 hH ?hyr2_1 ?_
       case hyr2_1=>((iterate 18 apply tkC;rfl;kernel_rfl;intro w' hSw;replace hSw:=S2o0 hSw;(try dsimp only at hSw);have q0:=hSw.1;have q1:=hSw.2.1;have q2:=hSw.2.2.1;have q3:=hSw.2.2.2.1;have q4:=hSw.2.2.2.2.1;have q5:=hSw.2.2.2.2.2.1;have q6:=hSw.2.2.2.2.2.2.1;have q7:=hSw.2.2.2.2.2.2.2.1;have q8:=hSw.2.2.2.2.2.2.2.2;(try simp only [sB,sC]);go_simp;(try with_reducible rfl));exact tkN)
       simp only [sB,sC]
       refine U1 18 0 rfl (fun K hK=>?_)
       try clear hb
       go_simp
       (go_at_call 95;refine (HSG.out _).mono ?_;rintro e wn ⟨rfl,hb⟩)
       refine hK.out _ _ ?hsr2_19 (fun hH2=>?hrr2_19)
       case hsr2_19=>exact S2i0 (by have hG:=hH;replace hG:=S2o0 hG;(try dsimp only at hG);have q0:=hG.1;have q1:=hG.2.1;have q2:=hG.2.2.1;have q3:=hG.2.2.2.1;have q4:=hG.2.2.2.2.1;have q5:=hG.2.2.2.2.2.1;have q6:=hG.2.2.2.2.2.2.1;have q7:=hG.2.2.2.2.2.2.2.1;have q8:=hG.2.2.2.2.2.2.2.2;exact ⟨keepCell hb q0,keepCell hb q1,keepCell hb q2,keepCell hb q3,keepCell hb q4,keepCell hb q5,keepCell hb q6,keepCell hb q7,keepBelow hb q8⟩)
       clear hK K hH
       have hH:=hH2
       clear hH2
       try simp only [Act.put,sA,sB,sC]
       refine wpAnyU_done (by kernel_rfl) ?_ _ _
       refine NoPanic.normal ?_
       clear hWr2
       replace hH:=S2o0 hH
       (try dsimp only at hH)
       have q0:=hH.1
       have q1:=hH.2.1
       have q2:=hH.2.2.1
       have q3:=hH.2.2.2.1
       have q4:=hH.2.2.2.2.1
       have q5:=hH.2.2.2.2.2.1
       have q6:=hH.2.2.2.2.2.2.1
       have q7:=hH.2.2.2.2.2.2.2.1
       have q8:=hH.2.2.2.2.2.2.2.2
       clear hH hb q0 q1 q2 q3 q4 q5 q6 q7 HSG c0 c1 d0 d1 e0 e1 f0 f1 hBz
       cases sg with
       | true =>
        have HR:Hid (Z=true):=by
         show _=_
         rw [HRM.out]
         simp only [Bool.false_or,List.any_eq_true,List.mem_range]
         exact ⟨i,hlt,k,hlt2,HSQ.out.symm⟩
        have hB9:=keepBelow q8 hBp
        clear HRM HSQ q8
        go_wp2
        go_returns
        exact ret_bool HR.out.symm hB9
       | false =>
        have HN2:Hid (∀ k',k'<k+1→segAt a b i k'=false):=fun k' h=>by
         rcases Nat.lt_or_ge k' k with g | g
         ·exact HNK.out k' g
         ·have : k' = k := by omega
          rw [this];exact HSQ.out.symm
        clear HNK HSQ
        go_wp2
        go_roundw
        case rel=>exact ⟨k+1,hlt2,by go_num,HN2.out,q8⟩
        case measure=>simp [intOf];omega
      ·have hge : b.length ≤ k := by omega
       have HN2:Hid (∀ i',i'<i+1→∀ k,k<b.length→segAt a b i' k=false):=fun i' h k' hk'=>by
        rcases Nat.lt_or_ge i' i with g | g
        ·exact HNO.out i' g k' hk'
        ·have : i' = i := by omega
         rw [this];exact HNK.out k' (by omega)
       have hB9:=keepBelow hB2 hBp
       clear HNO HNK hB2
       go_wp2
       go_roundw
       case rel=>exact ⟨i+1,hlt,by go_num,HN2.out,hB9⟩
       case measure=>simp [intOf];omega
    ·have hge : a.length ≤ i := by omega
     have HR:Hid (Z=false):=by
      show _=_
      rw [HRM.out]
      simp only [Bool.false_or,List.any_eq_false,List.mem_range,Bool.not_eq_true]
      intro i' h' k hk
      exact HNO.out i' (by omega) k hk
     clear HRM HNO
     go_wp2
     go_returns
     exact ret_bool HR.out.symm hB
end
end Go.Proofs.YtiaoandbdgdecaaGreat
