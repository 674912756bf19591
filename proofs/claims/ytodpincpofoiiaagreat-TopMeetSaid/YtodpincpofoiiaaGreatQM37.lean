/- Parts of a proof: contracts and laws. -/
import Derived.Test.YtodpincpofoiiaaGreatQM36
import Derived.Test.YtodpincpofoiiaaGreatQM03
set_option maxRecDepth 100000
set_option maxHeartbeats 16000000
namespace Go.Proofs.YtodpincpofoiiaaGreat
section
set_option linter.unusedVariables false
set_option linter.unusedSimpArgs false
open Go.RowKit
theorem mcentre_calls (A : Option Addr) (n c : Nat) (l : List V) (z : Int) (w : World) (hS : Sl w A n c l) (hw : allWithin 65536000 l = true) (h8 : l.length ≤ 8) (h0 : 3 ≤ l.length) (hz : -1000000000000000000 ≤ z ∧ z ≤ 1000000000000000000)
  (hX : -9223372036854775808000000000≤cenX l∧cenX l≤9223372036854775808000000000) (hY : -9223372036854775808000000000≤cenY l∧cenY l≤9223372036854775808000000000) :
  Calls Tryz.prog 124 #[.slice A n c,.int .i64 z] w (Ret (vecV (overQ (cenX l) (3*z)) (overQ (cenY l) (3*z))) w):=by
 obtain ⟨b,off,rfl,hC⟩:=hS.at_ (by intro h;subst h;simp at h0)
 have hn:=hS.len
 subst hn
 have hb2:=hC.lt
 have hcap:=hS.cap
 have HC:=hid hC
 have HW:=hid hw
 have HXB:=hid hX
 have HYB:=hid hY
 clear hS hC hw hX hY
 go_enter Tryz.func124,Tryz.ntmps124
 go_wp2
 go_loopw [17] (fun i wr=>∃ k:Nat,k≤l.length∧i = .int .i64 k∧Wd wr (w.heap.size+1) (sumTo (cxL9 l) k)∧Wd wr (w.heap.size+2) (sumTo (cyL l) k)∧There wr w.heap.size 2∧Below w.heap.size w wr) (fun i _=>l.length-(intOf i).toNat)
 case atStart =>
  refine ⟨0,by omega,rfl,Wd.zero (by go_simp) (by go_simp) (by go_simp) (by go_simp),Wd.zero (by go_simp) (by go_simp) (by go_simp) (by go_simp),fun j hj=>?_,by go_grown⟩
  match j,hj with
  | 0,_ | 1,_=>exact ⟨⟨_,by go_simp;rfl⟩,by go_simp⟩
 case round =>
  obtain ⟨k,hk,rfl,hX,hY,hT,hB⟩:=hrel
  obtain ⟨wo,rfl⟩:∃ wo:World,wo=wr:=⟨_,rfl⟩
  by_cases hlt:k<l.length
  ·obtain ⟨X, hXe⟩ : ∃ X, X = sumTo (cxL9 l) k := ⟨_, rfl⟩
   obtain ⟨Y,hYe⟩:∃ Y,Y=sumTo (cyL l) k:=⟨_,rfl⟩
   obtain ⟨j,hje⟩:∃ j,j=(k+1) % l.length:=⟨_,rfl⟩
   have hj:j<l.length:=by rw [hje];exact Nat.mod_lt _ (by omega)
   have hji:((k:Int)+1) % (l.length:Int)=(j:Int):=by rw [hje];simp
   have hsX:Hid (sumTo (cxL9 l) (k+1)=X+(px l k+px l j)*crsM9 (px l k) (py l k) (px l j) (py l j)):=by rw [hXe,hje];rfl
   have hsY:Hid (sumTo (cyL l) (k+1)=Y+(py l k+py l j)*crsM9 (px l k) (py l k) (px l j) (py l j)):=by rw [hYe,hje];rfl
   rw [← hXe] at hX
   rw [← hYe] at hY
   obtain ⟨q1,q2,q3,q4⟩:=withinB_iff.1 (allWithin_at HW.out hlt)
   obtain ⟨q5,q6,q7,q8⟩:=withinB_iff.1 (allWithin_at HW.out hj)
   have hcb:=(crsZ_bd (allWithin_at HW.out hlt) (allWithin_at HW.out hj)).2
   have hw1:=hid (allWithin_at HW.out hlt)
   have hw2:=hid (allWithin_at HW.out hj)
   have hCo:=HC.out.below hB
   have hx:=hCo.x k hlt
   have hy:=hCo.y k hlt
   have hx2:=hCo.x j hj
   have hy2:=hCo.y j hj
   have hbo:=hCo.lt
   have hl0:=hX.lt
   have hl1:=hY.lt
   have HX0:=hid hX
   have HY0:=hid hY
   have HT0:=hid hT
   clear hCo hX hY hT hXe hYe hje
   go_wp2_with fail
   refine (mcross_calls _ _ _ _ hw1.out hw2.out _).mono ?_
   rintro e w1 ⟨rfl,hb1⟩
   have g0:w1.cell? ⟨wo.heap.size,0,none⟩=some (.int .i64 (px l k)):=keepCell hb1 (by go_simp)
   have g1:w1.cell? ⟨wo.heap.size,1,none⟩=some (.int .i64 (py l k)):=keepCell hb1 (by go_simp)
   have g2:w1.cell? ⟨wo.heap.size+1,0,none⟩=some (.int .i64 (px l j)):=keepCell hb1 (by go_simp)
   have g3:w1.cell? ⟨wo.heap.size+1,1,none⟩=some (.int .i64 (py l j)):=keepCell hb1 (by go_simp)
   have HX:=hid (keepWd hb1 ((HX0.out.alloc _).alloc _)).drew
   have HY:=hid (keepWd hb1 ((HY0.out.alloc _).alloc _)).drew
   have hT1:There w1 w.heap.size 2:=There.below hb1 ((There.below Ba (There.below Ba HT0.out)))
   have HT:Hid (There w1.drew w.heap.size 2):=hT1
   clear hT1
   have hB1:Below w.heap.size w w1:=((hB.alloc hB.size _).alloc (by have:=hB.size;simp;omega) _).trans (hb1.mono (by have:=hB.size;simp;omega))
   obtain ⟨t,ht⟩:∃ t,t=crsM9 (px l k) (py l k) (px l j) (py l j):=⟨_,rfl⟩
   rw [← ht] at hcb ⊢
   have HTt:=hid ht
   clear ht hb1 hx hy hx2 hy2
   have w1x:IntKind.i64.wrap (px l k+px l j)=px l k+px l j:=IntWalk.i64_in _ (by omega)
   have w1y:IntKind.i64.wrap (py l k+py l j)=py l k+py l j:=IntWalk.i64_in _ (by omega)
   go_wp2_with fail
   refine wp_region_noPanic ?_
   refine wp_region_T (S:=(S2 (fun w'=>Wd w' (w.heap.size+1) (X)∧Wd w' (w.heap.size+2) (Y)∧w'.cell? ⟨wo.heap.size,0,none⟩=some (.int .i64 (px l k))∧w'.cell? ⟨wo.heap.size,1,none⟩=some (.int .i64 (py l k))∧w'.cell? ⟨wo.heap.size+1,0,none⟩=some (.int .i64 (px l j))∧w'.cell? ⟨wo.heap.size+1,1,none⟩=some (.int .i64 (py l j))∧There w' (w.heap.size) 2∧Below w.heap.size w w'))) (T:=(fun j=>[0,0,0,0,0,0,0,0,0,0,0,0,0,0,0,0,0,0,1,1].getD j 0)) (by kernel_rfl) (S2i0 ⟨HX.out,HY.out,by go_simp,by go_simp,by go_simp,by go_simp,HT.out,by go_grown⟩) (fun hH=>?_)
   have hWr1:Weaker (S2 (fun w'=>Wd w' (w.heap.size+1) (X)∧Wd w' (w.heap.size+2) (Y)∧w'.cell? ⟨wo.heap.size,0,none⟩=some (.int .i64 (px l k))∧w'.cell? ⟨wo.heap.size,1,none⟩=some (.int .i64 (py l k))∧w'.cell? ⟨wo.heap.size+1,0,none⟩=some (.int .i64 (px l j))∧w'.cell? ⟨wo.heap.size+1,1,none⟩=some (.int .i64 (py l j))∧There w' (w.heap.size) 2∧Below w.heap.size w w')):=weaker2 _
   refine T_take 0 33 19 0 (v:=?vr1_1) rfl (by kernel_rfl) (by kernel_rfl) hWr1 (by kernel_rfl) (by kernel_rfl) (by kernel_rfl) (by kernel_rfl) (by kernel_rfl) (by kernel_rfl) (fun _ _ _ _ h=>h) (by kernel_rfl) ?hyr1_1 hH ?_
   case hyr1_1=>(intro w' hSw;replace hSw:=S2o0 hSw;(try dsimp only at hSw);have q0:=hSw.1;have q1:=hSw.2.1;have q2:=hSw.2.2.1;have q3:=hSw.2.2.2.1;have q4:=hSw.2.2.2.2.1;have q5:=hSw.2.2.2.2.2.1;have q6:=hSw.2.2.2.2.2.2.1;have q7:=hSw.2.2.2.2.2.2.2;obtain ⟨qa0_0,qa0_1,qa0_2,qa0_3⟩:=id q0;obtain ⟨qa1_0,qa1_1,qa1_2,qa1_3⟩:=id q1;go_simp;try (with_reducible rfl))
   simp only [sB,sC]
   refine T_take 1 34 18 0 (v:=?vr1_2) rfl (by kernel_rfl) (by kernel_rfl) hWr1 (by kernel_rfl) (by kernel_rfl) (by kernel_rfl) (by kernel_rfl) (by kernel_rfl) (by kernel_rfl) (fun _ _ _ _ h=>h) (by kernel_rfl) ?hyr1_2 hH ?_
   case hyr1_2=>(intro w' hSw;clear hSw;go_simp;try (with_reducible rfl))
   simp only [sB,sC]
   refine T_take 2 35 17 0 (v:=?vr1_3) rfl (by kernel_rfl) (by kernel_rfl) hWr1 (by kernel_rfl) (by kernel_rfl) (by kernel_rfl) (by kernel_rfl) (by kernel_rfl) (by kernel_rfl) (fun _ _ _ _ h=>h) (by kernel_rfl) ?hyr1_3 hH ?_
   case hyr1_3=>(intro w' hSw;replace hSw:=S2o0 hSw;(try dsimp only at hSw);have q0:=hSw.1;have q1:=hSw.2.1;have q2:=hSw.2.2.1;have q3:=hSw.2.2.2.1;have q4:=hSw.2.2.2.2.1;have q5:=hSw.2.2.2.2.2.1;have q6:=hSw.2.2.2.2.2.2.1;have q7:=hSw.2.2.2.2.2.2.2;obtain ⟨qa0_0,qa0_1,qa0_2,qa0_3⟩:=id q0;obtain ⟨qa1_0,qa1_1,qa1_2,qa1_3⟩:=id q1;go_simp;try (with_reducible rfl))
   simp only [sB,sC]
   refine T_take 3 36 16 0 (v:=?vr1_4) rfl (by kernel_rfl) (by kernel_rfl) hWr1 (by kernel_rfl) (by kernel_rfl) (by kernel_rfl) (by kernel_rfl) (by kernel_rfl) (by kernel_rfl) (fun _ _ _ _ h=>h) (by kernel_rfl) ?hyr1_4 hH ?_
   case hyr1_4=>(intro w' hSw;clear hSw;go_simp;try (with_reducible rfl))
   simp only [sB,sC]
   refine T_take 4 37 15 0 (v:=?vr1_5) rfl (by kernel_rfl) (by kernel_rfl) hWr1 (by kernel_rfl) (by kernel_rfl) (by kernel_rfl) (by kernel_rfl) (by kernel_rfl) (by kernel_rfl) (fun _ _ _ _ h=>h) (by kernel_rfl) ?hyr1_5 hH ?_
   case hyr1_5=>(intro w' hSw;replace hSw:=S2o0 hSw;(try dsimp only at hSw);have q0:=hSw.1;have q1:=hSw.2.1;have q2:=hSw.2.2.1;have q3:=hSw.2.2.2.1;have q4:=hSw.2.2.2.2.1;have q5:=hSw.2.2.2.2.2.1;have q6:=hSw.2.2.2.2.2.2.1;have q7:=hSw.2.2.2.2.2.2.2;obtain ⟨qa0_0,qa0_1,qa0_2,qa0_3⟩:=id q0;obtain ⟨qa1_0,qa1_1,qa1_2,qa1_3⟩:=id q1;go_simp;try (with_reducible rfl))
   simp only [sB,sC]
   refine T_take 5 38 14 0 (v:=?vr1_6) rfl (by kernel_rfl) (by kernel_rfl) hWr1 (by kernel_rfl) (by kernel_rfl) (by kernel_rfl) (by kernel_rfl) (by kernel_rfl) (by kernel_rfl) (fun _ _ _ _ h=>h) (by kernel_rfl) ?hyr1_6 hH ?_
   case hyr1_6=>(intro w' hSw;clear hSw;go_simp;try (with_reducible rfl))
   simp only [sB,sC]
   refine T_take 6 39 13 0 (v:=?vr1_7) rfl (by kernel_rfl) (by kernel_rfl) hWr1 (by kernel_rfl) (by kernel_rfl) (by kernel_rfl) (by kernel_rfl) (by kernel_rfl) (by kernel_rfl) (fun _ _ _ _ h=>h) (by kernel_rfl) ?hyr1_7 hH ?_
   case hyr1_7=>(intro w' hSw;clear hSw;go_simp;try (with_reducible rfl))
   simp only [sB,sC]
   refine T_take 9 42 12 0 (v:=?vr1_8) rfl (by kernel_rfl) (by kernel_rfl) hWr1 (by kernel_rfl) (by kernel_rfl) (by kernel_rfl) (by kernel_rfl) (by kernel_rfl) (by kernel_rfl) (fun _ _ _ _ h=>h) (by kernel_rfl) ?hyr1_8 hH ?_
   case hyr1_8=>(intro w' hSw;replace hSw:=S2o0 hSw;(try dsimp only at hSw);have q0:=hSw.1;have q1:=hSw.2.1;have q2:=hSw.2.2.1;have q3:=hSw.2.2.2.1;have q4:=hSw.2.2.2.2.1;have q5:=hSw.2.2.2.2.2.1;have q6:=hSw.2.2.2.2.2.2.1;have q7:=hSw.2.2.2.2.2.2.2;obtain ⟨qa0_0,qa0_1,qa0_2,qa0_3⟩:=id q0;obtain ⟨qa1_0,qa1_1,qa1_2,qa1_3⟩:=id q1;go_simp;try (with_reducible rfl))
   simp only [sB,sC]
   refine T_take 10 43 11 0 (v:=?vr1_9) rfl (by kernel_rfl) (by kernel_rfl) hWr1 (by kernel_rfl) (by kernel_rfl) (by kernel_rfl) (by kernel_rfl) (by kernel_rfl) (by kernel_rfl) (fun _ _ _ _ h=>h) (by kernel_rfl) ?hyr1_9 hH ?_
   case hyr1_9=>(intro w' hSw;clear hSw;go_simp;try (with_reducible rfl))
   simp only [sB,sC]
   refine T_take 11 44 10 0 (v:=?vr1_10) rfl (by kernel_rfl) (by kernel_rfl) hWr1 (by kernel_rfl) (by kernel_rfl) (by kernel_rfl) (by kernel_rfl) (by kernel_rfl) (by kernel_rfl) (fun _ _ _ _ h=>h) (by kernel_rfl) ?hyr1_10 hH ?_
   case hyr1_10=>(intro w' hSw;replace hSw:=S2o0 hSw;(try dsimp only at hSw);have q0:=hSw.1;have q1:=hSw.2.1;have q2:=hSw.2.2.1;have q3:=hSw.2.2.2.1;have q4:=hSw.2.2.2.2.1;have q5:=hSw.2.2.2.2.2.1;have q6:=hSw.2.2.2.2.2.2.1;have q7:=hSw.2.2.2.2.2.2.2;obtain ⟨qa0_0,qa0_1,qa0_2,qa0_3⟩:=id q0;obtain ⟨qa1_0,qa1_1,qa1_2,qa1_3⟩:=id q1;go_simp;try (with_reducible rfl))
   simp only [sB,sC]
   refine T_take 12 45 9 0 (v:=?vr1_11) rfl (by kernel_rfl) (by kernel_rfl) hWr1 (by kernel_rfl) (by kernel_rfl) (by kernel_rfl) (by kernel_rfl) (by kernel_rfl) (by kernel_rfl) (fun _ _ _ _ h=>h) (by kernel_rfl) ?hyr1_11 hH ?_
   case hyr1_11=>(intro w' hSw;clear hSw;go_simp;try (with_reducible rfl))
   simp only [sB,sC]
   refine T_take 13 46 8 0 (v:=?vr1_12) rfl (by kernel_rfl) (by kernel_rfl) hWr1 (by kernel_rfl) (by kernel_rfl) (by kernel_rfl) (by kernel_rfl) (by kernel_rfl) (by kernel_rfl) (fun _ _ _ _ h=>h) (by kernel_rfl) ?hyr1_12 hH ?_
   case hyr1_12=>(intro w' hSw;replace hSw:=S2o0 hSw;(try dsimp only at hSw);have q0:=hSw.1;have q1:=hSw.2.1;have q2:=hSw.2.2.1;have q3:=hSw.2.2.2.1;have q4:=hSw.2.2.2.2.1;have q5:=hSw.2.2.2.2.2.1;have q6:=hSw.2.2.2.2.2.2.1;have q7:=hSw.2.2.2.2.2.2.2;obtain ⟨qa0_0,qa0_1,qa0_2,qa0_3⟩:=id q0;obtain ⟨qa1_0,qa1_1,qa1_2,qa1_3⟩:=id q1;go_simp;try (with_reducible rfl))
   simp only [sB,sC]
   refine T_take 14 47 7 0 (v:=?vr1_13) rfl (by kernel_rfl) (by kernel_rfl) hWr1 (by kernel_rfl) (by kernel_rfl) (by kernel_rfl) (by kernel_rfl) (by kernel_rfl) (by kernel_rfl) (fun _ _ _ _ h=>h) (by kernel_rfl) ?hyr1_13 hH ?_
   case hyr1_13=>(intro w' hSw;clear hSw;go_simp;try (with_reducible rfl))
   simp only [sB,sC]
   refine T_take 15 48 6 0 (v:=?vr1_14) rfl (by kernel_rfl) (by kernel_rfl) hWr1 (by kernel_rfl) (by kernel_rfl) (by kernel_rfl) (by kernel_rfl) (by kernel_rfl) (by kernel_rfl) (fun _ _ _ _ h=>h) (by kernel_rfl) ?hyr1_14 hH ?_
   case hyr1_14=>(intro w' hSw;clear hSw;go_simp;try (with_reducible rfl))
   simp only [sB,sC]
   refine wpAnyT_ready (rs:=[7]) (by kernel_rfl) (by simp) ?_
   refine AllReadyT.cons 0 (by kernel_rfl) (o:=_) rfl (fun K hK=>?_) AllReadyT.nil
   try clear hb
   go_simp
   (go_at_call 99;refine (times_calls (px l k+px l j) t (by omega) (by omega) (by omega) (by omega) _).mono ?_;rintro e wn ⟨rfl,hb⟩)
   refine hK.out _ _ ?hsr1_15 (fun hH2=>?hrr1_15)
   case hsr1_15=>exact S2i0 (by have hG:=hH;replace hG:=S2o0 hG;(try dsimp only at hG);have q0:=hG.1;have q1:=hG.2.1;have q2:=hG.2.2.1;have q3:=hG.2.2.2.1;have q4:=hG.2.2.2.2.1;have q5:=hG.2.2.2.2.2.1;have q6:=hG.2.2.2.2.2.2.1;have q7:=hG.2.2.2.2.2.2.2;exact ⟨keepWd hb q0,keepWd hb q1,keepCell hb q2,keepCell hb q3,keepCell hb q4,keepCell hb q5,There.below hb q6,keepBelow hb q7⟩)
   clear hK K hH
   have hH:=hH2
   clear hH2
   try simp only [Act.put,sA,sB,sC]
   refine wpAnyT_ready (rs:=[8]) (by kernel_rfl) (by simp) ?_
   refine AllReadyT.cons 0 (by kernel_rfl) (o:=_) rfl (fun K hK=>?_) AllReadyT.nil
   try clear hb
   go_simp
   (go_at_call 125;refine (plus_calls X ((px l k+px l j)*t) _).mono ?_;rintro e wn ⟨rfl,hb⟩)
   refine hK.out _ _ ?hsr1_16 (fun hH2=>?hrr1_16)
   case hsr1_16=>exact S2i0 (by have hG:=hH;replace hG:=S2o0 hG;(try dsimp only at hG);have q0:=hG.1;have q1:=hG.2.1;have q2:=hG.2.2.1;have q3:=hG.2.2.2.1;have q4:=hG.2.2.2.2.1;have q5:=hG.2.2.2.2.2.1;have q6:=hG.2.2.2.2.2.2.1;have q7:=hG.2.2.2.2.2.2.2;exact ⟨keepWd hb q0,keepWd hb q1,keepCell hb q2,keepCell hb q3,keepCell hb q4,keepCell hb q5,There.below hb q6,keepBelow hb q7⟩)
   clear hK K hH
   have hH:=hH2
   clear hH2
   try simp only [Act.put,sA,sB,sC]
   refine wpAnyT_ready (rs:=[16]) (by kernel_rfl) (by simp) ?_
   refine AllReadyT.cons 0 (by kernel_rfl) (o:=_) rfl (fun K hK=>?_) AllReadyT.nil
   try clear hb
   go_simp
   (go_at_call 99;refine (times_calls (py l k+py l j) t (by omega) (by omega) (by omega) (by omega) _).mono ?_;rintro e wn ⟨rfl,hb⟩)
   refine hK.out _ _ ?hsr1_17 (fun hH2=>?hrr1_17)
   case hsr1_17=>exact S2i0 (by have hG:=hH;replace hG:=S2o0 hG;(try dsimp only at hG);have q0:=hG.1;have q1:=hG.2.1;have q2:=hG.2.2.1;have q3:=hG.2.2.2.1;have q4:=hG.2.2.2.2.1;have q5:=hG.2.2.2.2.2.1;have q6:=hG.2.2.2.2.2.2.1;have q7:=hG.2.2.2.2.2.2.2;exact ⟨keepWd hb q0,keepWd hb q1,keepCell hb q2,keepCell hb q3,keepCell hb q4,keepCell hb q5,There.below hb q6,keepBelow hb q7⟩)
   clear hK K hH
   have hH:=hH2
   clear hH2
   try simp only [Act.put,sA,sB,sC]
   refine wpAnyT_ready (rs:=[17]) (by kernel_rfl) (by simp) ?_
   refine AllReadyT.cons 0 (by kernel_rfl) (o:=_) rfl (fun K hK=>?_) AllReadyT.nil
   try clear hb
   go_simp
   (go_at_call 125;refine (plus_calls Y ((py l k+py l j)*t) _).mono ?_;rintro e wn ⟨rfl,hb⟩)
   refine hK.out _ _ ?hsr1_18 (fun hH2=>?hrr1_18)
   case hsr1_18=>exact S2i0 (by have hG:=hH;replace hG:=S2o0 hG;(try dsimp only at hG);have q0:=hG.1;have q1:=hG.2.1;have q2:=hG.2.2.1;have q3:=hG.2.2.2.1;have q4:=hG.2.2.2.2.1;have q5:=hG.2.2.2.2.2.1;have q6:=hG.2.2.2.2.2.2.1;have q7:=hG.2.2.2.2.2.2.2;exact ⟨keepWd hb q0,keepWd hb q1,keepCell hb q2,keepCell hb q3,keepCell hb q4,keepCell hb q5,There.below hb q6,keepBelow hb q7⟩)
   clear hK K hH
   have hH:=hH2
   clear hH2
   try simp only [Act.put,sA,sB,sC]
   refine wpAnyT_ready (rs:=[18]) (by kernel_rfl) (by simp) ?_
   refine AllReadyT.cons 1 (by kernel_rfl) (o:=_) rfl (fun K hK=>?_) AllReadyT.nil
   have hG:=hH
   replace hG:=S2o0 hG;(try dsimp only at hG);have q0:=hG.1;have q1:=hG.2.1;have q2:=hG.2.2.1;have q3:=hG.2.2.2.1;have q4:=hG.2.2.2.2.1;have q5:=hG.2.2.2.2.2.1;have q6:=hG.2.2.2.2.2.2.1;have q7:=hG.2.2.2.2.2.2.2;obtain ⟨qa0_0,qa0_1,qa0_2,qa0_3⟩:=id q0;obtain ⟨qa1_0,qa1_1,qa1_2,qa1_3⟩:=id q1
   go_simp
   refine hK.out _ _ ?hsr1_19 (fun hH2=>?hrr1_19)
   case hsr1_19=>exact S2i1
   clear hK K hH
   have hH:=hH2
   clear hH2
   try simp only [Act.put,sA,sB,sC]
   refine wpAnyT_ready (rs:=[19]) (by kernel_rfl) (by simp) ?_
   refine AllReadyT.cons 1 (by kernel_rfl) (o:=_) rfl (fun K hK=>?_) AllReadyT.nil
   go_simp
   refine hK.out _ _ ?hsr1_20 (fun hH2=>?hrr1_20)
   case hsr1_20=>exact S2i1
   clear hK K hH
   have hH:=hH2
   clear hH2
   try simp only [Act.put,sA,sB,sC]
   refine wpAnyT_done (by kernel_rfl) ?_ _
   refine NoPanic.normal ?_
   have HQ0:=hid q0
   have HQ1:=hid q1
   have HQ6:=hid q6
   have HQ7:=hid q7
   clear q0 q1 q2 q3 q4 q5 q6 q7 hH w1x w1y HX HY HT g0 g1 g2 g3 hB1
   clear qa0_0 qa0_1 qa0_2 qa0_3 qa1_0 qa1_1 qa1_2 qa1_3
   go_wp2_with fail
   have hB9:=HQ7.out
   exact ⟨⟨k+1,hlt,by go_num,by rw [hsX.out,← HTt.out];exact HQ0.out.sets2.far2 (by omega),by rw [hsY.out,← HTt.out];exact (HQ1.out.far2 (by omega)).sets2,((((HQ6.out.set _ _).set _ _).set _ _).set _ _),by go_grown⟩,by simp [intOf];omega⟩
  ·obtain rfl : k = l.length := by omega
   have hX2:Wd wo (w.heap.size+1) (cenX l):=hX
   have hY2:Wd wo (w.heap.size+2) (cenY l):=hY
   obtain ⟨a0,a1,_,_⟩:=hX2
   have HY2:=hid hY2
   have HT2:=hid hT
   clear hX hY hT hY2
   go_wp2_with fail
   refine (over_calls (cenX l) (3*z) (by have:=HXB.out;omega) (by have:=HXB.out;omega) (by omega) (by omega) _).mono ?_
   rintro e w1 ⟨rfl,hb1⟩
   obtain ⟨a2,a3,_,_⟩:=keepWd hb1 HY2.out
   have HT3:=hid (There.below hb1 HT2.out)
   have hB1:=keepBelow hb1 hB
   clear a0 a1 hb1
   go_wp2_with fail
   refine (over_calls (cenY l) (3*z) (by have:=HYB.out;omega) (by have:=HYB.out;omega) (by omega) (by omega) _).mono ?_
   rintro e w2 ⟨rfl,hb2⟩
   obtain ⟨z0,z1,y0,y1,f0,f1⟩:=(There.below hb2 HT3.out).get2
   have hB2:=keepBelow hb2 hB1
   have hlt2:=lt_of_cell y0
   clear hb2 a2 a3
   go_wp2
   refine bodyPost_ret (v:=vecV (overQ (cenX l) (3*z)) (overQ (cenY l) (3*z))) (by simp [results,Tryz.results124,go_sem,y0,y1,hlt2]) rfl ⟨rfl,?_⟩
   go_grown
end
end Go.Proofs.YtodpincpofoiiaaGreat
namespace Go.Proofs.YtodpincpofoiiaaGreat
section
set_option linter.unusedVariables false
set_option linter.unusedSimpArgs false
open Go.RowKit
theorem nx_lt {l:List V} {i:Nat} (h:i<l.length):nx l i<l.length:=Nat.mod_lt _ (by omega)
theorem crsL_bd {l:List V} (hw:allWithin 65536000 l=true) {i:Nat} (hi:i<l.length) : -8589934592000000≤crsL l i∧crsL l i≤8589934592000000 :=
 (crsZ_bd (allWithin_at hw hi) (allWithin_at hw (nx_lt hi))).2
theorem cxL_bd {l:List V} (hw:allWithin 65536000 l=true) {i:Nat} (hi:i<l.length) : -1125899906842624000000000≤cxL9 l i∧cxL9 l i≤1125899906842624000000000:=by
 obtain ⟨_,_,_,_⟩:=withinB_iff.1 (allWithin_at hw hi)
 obtain ⟨_,_,_,_⟩:=withinB_iff.1 (allWithin_at hw (nx_lt hi))
 have h:=crsL_bd hw hi
 have:=mul_bd (x:=px l i+px l (nx l i)) (y:=crsL l i) (M:=131072000) (N:=8589934592000000) (by omega) (by omega) (by omega) (by omega)
 unfold cxL9
 omega
theorem cyL_bd {l:List V} (hw:allWithin 65536000 l=true) {i:Nat} (hi:i<l.length) : -1125899906842624000000000≤cyL l i∧cyL l i≤1125899906842624000000000:=by
 obtain ⟨_,_,_,_⟩:=withinB_iff.1 (allWithin_at hw hi)
 obtain ⟨_,_,_,_⟩:=withinB_iff.1 (allWithin_at hw (nx_lt hi))
 have h:=crsL_bd hw hi
 have:=mul_bd (x:=py l i+py l (nx l i)) (y:=crsL l i) (M:=131072000) (N:=8589934592000000) (by omega) (by omega) (by omega) (by omega)
 unfold cyL
 omega
theorem cen_bd {l:List V} (hw:allWithin 65536000 l=true) (h8:l.length≤8):(-9223372036854775808000000000≤cenX l∧cenX l≤9223372036854775808000000000)∧(-9223372036854775808000000000≤cenY l∧cenY l≤9223372036854775808000000000):=by
 have h1:=sumTo_bd (f:=cxL9 l) (B:=1125899906842624000000000) l.length (fun j hj=>cxL_bd hw hj)
 have h2:=sumTo_bd (f:=cyL l) (B:=1125899906842624000000000) l.length (fun j hj=>cyL_bd hw hj)
 unfold cenX cenY
 omega

def fanX (l:List V) (i:Nat):Int:=(px l 0+px l (i+1)+px l (i+2))*sideL l 0 (i+1) (i+2)
def fanY (l:List V) (i:Nat):Int:=(py l 0+py l (i+1)+py l (i+2))*sideL l 0 (i+1) (i+2)
theorem fan_step (a b c d e f:Int):(c+e)*crsM9 c d e f+(e+a)*crsM9 e f a b-(c+a)*crsM9 c d a b=(a+c+e)*sideZ a b c d e f:=by unfold crsM9 sideZ;grind
theorem fan_stepY (a b c d e f:Int):(d+f)*crsM9 c d e f+(f+b)*crsM9 e f a b-(d+b)*crsM9 c d a b=(b+d+f)*sideZ a b c d e f:=by unfold crsM9 sideZ;grind
theorem fan_partX (l:List V) (m:Nat) (h:m+2≤l.length):sumTo (cxL9 l) (m+1)+(px l (m+1)+px l 0)*crsM9 (px l (m+1)) (py l (m+1)) (px l 0) (py l 0)=sumTo (fanX l) m:=by
 induction m with
 | zero =>
  simp only [sumTo,cxL9,crsL,nx]
  rw [Nat.mod_eq_of_lt (by omega)]
  unfold crsM9
  grind
 | succ m ih =>
  have h1:=ih (by omega)
  have h2:=fan_step (px l 0) (py l 0) (px l (m+1)) (py l (m+1)) (px l (m+2)) (py l (m+2))
  have e:cxL9 l (m+1)=(px l (m+1)+px l (m+2))*crsM9 (px l (m+1)) (py l (m+1)) (px l (m+2)) (py l (m+2)):=by
   simp only [cxL9,crsL,nx]
   rw [Nat.mod_eq_of_lt (by omega)]
  show sumTo (cxL9 l) (m+1)+cxL9 l (m+1)+(px l (m+2)+px l 0)*crsM9 (px l (m+2)) (py l (m+2)) (px l 0) (py l 0)=sumTo (fanX l) m+fanX l m
  rw [e,← h1]
  unfold fanX sideL
  rw [← h2]
  omega
theorem fan_partY (l:List V) (m:Nat) (h:m+2≤l.length):sumTo (cyL l) (m+1)+(py l (m+1)+py l 0)*crsM9 (px l (m+1)) (py l (m+1)) (px l 0) (py l 0)=sumTo (fanY l) m:=by
 induction m with
 | zero =>
  simp only [sumTo,cyL,crsL,nx]
  rw [Nat.mod_eq_of_lt (by omega)]
  unfold crsM9
  grind
 | succ m ih =>
  have h1:=ih (by omega)
  have h2:=fan_stepY (px l 0) (py l 0) (px l (m+1)) (py l (m+1)) (px l (m+2)) (py l (m+2))
  have e:cyL l (m+1)=(py l (m+1)+py l (m+2))*crsM9 (px l (m+1)) (py l (m+1)) (px l (m+2)) (py l (m+2)):=by
   simp only [cyL,crsL,nx]
   rw [Nat.mod_eq_of_lt (by omega)]
  show sumTo (cyL l) (m+1)+cyL l (m+1)+(py l (m+2)+py l 0)*crsM9 (px l (m+2)) (py l (m+2)) (px l 0) (py l 0)=sumTo (fanY l) m+fanY l m
  rw [e,← h1]
  unfold fanY sideL
  rw [← h2]
  omega
theorem cenX_fan (l:List V) (h3:3≤l.length):cenX l=sumTo (fanX l) (l.length-2):=by
 obtain ⟨m,hm⟩:∃ m,l.length=m+2:=⟨l.length-2,by omega⟩
 rw [show l.length-2=m by omega,← fan_partX l m (by omega)]
 unfold cenX
 rw [hm]
 have e:sumTo (cxL9 l) (m+2)=sumTo (cxL9 l) (m+1)+cxL9 l (m+1):=rfl
 rw [e]
 simp only [cxL9,crsL,nx]
 rw [hm,Nat.mod_self]
theorem cenY_fan (l:List V) (h3:3≤l.length):cenY l=sumTo (fanY l) (l.length-2):=by
 obtain ⟨m,hm⟩:∃ m,l.length=m+2:=⟨l.length-2,by omega⟩
 rw [show l.length-2=m by omega,← fan_partY l m (by omega)]
 unfold cenY
 rw [hm]
 have e:sumTo (cyL l) (m+2)=sumTo (cyL l) (m+1)+cyL l (m+1):=rfl
 rw [e]
 simp only [cyL,crsL,nx]
 rw [hm,Nat.mod_self]
theorem side_fan {l:List V} (h:checkE l=0) {i:Nat} (hi:i+2<l.length):0<sideL l 0 (i+1) (i+2):=by
 obtain ⟨h8,h3,hw,hr⟩:=checkE_zero h
 have e:sideL l 0 (i+1) (i+2)=sideL l (i+1) (i+2) 0:=by unfold sideL sideZ;grind
 rw [e]
 have:=edge_pos hr (i:=i+1) (k:=0) (by omega) (by omega) (by omega) (by rw [Nat.mod_eq_of_lt (by omega)];omega)
 rwa [Nat.mod_eq_of_lt (by omega)] at this
theorem fan_bd {l:List V} (h:checkE l=0) (f:Nat→Int) (hf:∀ i,i<l.length → -65536000≤f i∧f i≤65536000) (k:Nat) (hk:k+2≤l.length) :
  -(196608000*areaTo l k)≤sumTo (fun i=>(f 0+f (i+1)+f (i+2))*sideL l 0 (i+1) (i+2)) k∧sumTo (fun i=>(f 0+f (i+1)+f (i+2))*sideL l 0 (i+1) (i+2)) k≤196608000*areaTo l k:=by
 induction k with
 | zero=>simp [sumTo,areaTo]
 | succ k ih =>
  have h1:=ih (by omega)
  have hs:=side_fan h (i:=k) (by omega)
  have a:=hf 0 (by omega)
  have b:=hf (k+1) (by omega)
  have c:=hf (k+2) (by omega)
  have u:=Int.mul_nonneg (show 0≤196608000-(f 0+f (k+1)+f (k+2)) by omega) (Int.le_of_lt hs)
  have v:=Int.mul_nonneg (show 0≤196608000+(f 0+f (k+1)+f (k+2)) by omega) (Int.le_of_lt hs)
  rw [Int.sub_mul] at u
  rw [Int.add_mul] at v
  simp only [sumTo,areaTo]
  generalize (f 0+f (k+1)+f (k+2))*sideL l 0 (k+1) (k+2)=X at *
  generalize sideL l 0 (k+1) (k+2)=s at *
  omega
theorem rnd_bd {x n M:Int} (hn:0<n) (h1 : -(n*M)≤x) (h2:x≤n*M) : -M≤rnd x n∧rnd x n≤M:=by
 unfold rnd
 rw [if_neg (by omega)]
 have e1:M*(2*n)=2*(n*M):=by grind
 have e2:(-M)*(2*n) = -(2*(n*M)):=by grind
 refine ⟨Int.le_ediv_of_mul_le (by omega) (by omega),?_⟩
 have:(2*x+n) / (2*n)<M+1:=Int.ediv_lt_of_lt_mul (by omega) (by rw [Int.add_mul,e1];omega)
 omega
theorem areaZ_bd' {l:List V} (h:checkE l=0) : -1000000000000000000≤areaZ l∧areaZ l≤1000000000000000000:=by
 obtain ⟨h8,h3,hw,_⟩:=checkE_zero h
 have:=areaTo_bd hw (l.length-2) (by omega)
 unfold areaZ
 omega

theorem cenQ_bd {l:List V} (h:checkE l=0):withinB 65536000 (cenQ l).1 (cenQ l).2=true:=by
 obtain ⟨h8,h3,hw,hr⟩:=checkE_zero h
 have hA:=area_pos h
 have hx:=fan_bd h (px l) (fun i hi=>by have:=withinB_iff.1 (allWithin_at hw hi);omega) (l.length-2) (by omega)
 have hy:=fan_bd h (py l) (fun i hi=>by have:=withinB_iff.1 (allWithin_at hw hi);omega) (l.length-2) (by omega)
 have ex:cenX l=sumTo (fun i=>(px l 0+px l (i+1)+px l (i+2))*sideL l 0 (i+1) (i+2)) (l.length-2):=cenX_fan l h3
 have ey:cenY l=sumTo (fun i=>(py l 0+py l (i+1)+py l (i+2))*sideL l 0 (i+1) (i+2)) (l.length-2):=cenY_fan l h3
 rw [← ex] at hx
 rw [← ey] at hy
 have e:areaZ l=areaTo l (l.length-2):=rfl
 rw [← e] at hx hy
 have bx:=rnd_bd (x:=cenX l) (n:=3*areaZ l) (M:=65536000) (by omega) (by omega) (by omega)
 have b_y:=rnd_bd (x:=cenY l) (n:=3*areaZ l) (M:=65536000) (by omega) (by omega) (by omega)
 have qx:=over_ok (W:=cenX l) (n:=3*areaZ l) (by omega) rfl (by omega) (by omega)
 have qy:=over_ok (W:=cenY l) (n:=3*areaZ l) (by omega) rfl (by omega) (by omega)
 refine withinB_iff.2 ?_
 unfold cenQ
 rw [qx.1,qy.1]
 dsimp only
 omega
end
end Go.Proofs.YtodpincpofoiiaaGreat
