/- Parts of a proof: contracts and laws. -/
import Derived.Test.YtiaoandbdgdecaaGreatPK29
import Derived.Test.YtiaoandbdgdecaaGreatPK08
import Derived.Test.YtiaoandbdgdecaaGreatPK04
set_option maxRecDepth 100000
set_option maxHeartbeats 16000000
namespace Go.Proofs.YtiaoandbdgdecaaGreat
section
set_option linter.unusedVariables false
set_option linter.unusedSimpArgs false
open Go.RowKit
theorem cdeep_calls (p q r1 r2 n1 n2 : Int) (gR gN : Nat) (hp : withinB 65536000 p q = true) (hr : withinB 65536000 r1 r2 = true) (hn1 : -131072000 ≤ n1 ∧ n1 ≤ 131072000) (hn2 : -131072000 ≤ n2 ∧ n2 ≤ 131072000) (w : World)
  (r_0':w.cell? ⟨gR,0,none⟩=some (.int .i64 r1)) (r_1':w.cell? ⟨gR,1,none⟩=some (.int .i64 r2)) (n_0':w.cell? ⟨gN,0,none⟩=some (.int .i64 n1)) (n_1':w.cell? ⟨gN,1,none⟩=some (.int .i64 n2)) :
  Calls Tryz.prog 64 #[vecV p q,.pointer (some ⟨gR,0,none⟩),.pointer (some ⟨gN,0,none⟩)] w (Ret (.tuple #[.int .i64 (overQ ((r1-p)*n1+(r2-q)*n2) (lenZ n1 n2)),.bool (decide (0≤(r1-p)*n1+(r2-q)*n2))]) w):=by
 obtain ⟨_,_,_,_⟩:=withinB_iff.1 hp
 obtain ⟨_,_,_,_⟩:=withinB_iff.1 hr
 have m1:=mul_bd (x:=r1-p) (y:=n1) (M:=131072000) (N:=131072000) (by omega) (by omega) (by omega) (by omega)
 have m2:=mul_bd (x:=r2-q) (y:=n2) (M:=131072000) (N:=131072000) (by omega) (by omega) (by omega) (by omega)
 have HM:=hid (cminus_calls r1 r2 p q (by omega) (by omega))
 have HD:=hid (cdot_calls (r1-p) (r2-q) n1 n2 (by omega) (by omega) (by omega) (by omega))
 obtain ⟨D,hD⟩:∃ D,D=(r1-p)*n1+(r2-q)*n2:=⟨_,rfl⟩
 rw [← hD] at HD ⊢
 have bl:=len_bd (x:=n1) (y:=n2) (by omega) (by omega)
 have hT:=times_calls D 1 (by omega) (by omega) (by omega) (by omega)
 rw [Int.mul_one] at hT
 have HT:=hid hT
 have HL:=hid (slength_calls n1 n2 (by omega) (by omega))
 have HO:=hid (over_calls D (lenZ n1 n2) (by omega) (by omega) (by omega) (by omega))
 generalize overQ D (lenZ n1 n2)=Z at *
 generalize overE D (lenZ n1 n2)=E at *
 generalize lenZ n1 n2=L at *
 clear hT hD m1 m2 bl hp hr
 obtain ⟨W,hW⟩:∃ W,W=w.alloc (.cells #[.int .i64 p,.int .i64 q] 27):=⟨_,rfl⟩
 have p_0:W.cell? ⟨w.heap.size,0,none⟩=some (.int .i64 p):=by rw [hW];go_simp
 have p_1:W.cell? ⟨w.heap.size,1,none⟩=some (.int .i64 q):=by rw [hW];go_simp
 have hB:Below w.heap.size w W:=by rw [hW];go_grown
 have r_0:=keepCell hB r_0'
 have r_1:=keepCell hB r_1'
 have n_0:=keepCell hB n_0'
 have n_1:=keepCell hB n_1'
 clear r_0' r_1' n_0' n_1'
 go_enter Tryz.func64,Tryz.ntmps64
 go_upto_region 1 with fail
 rw [← hW]
 clear hW
 refine wp_region_noPanic ?_
 refine wp_region_U (S:=(S2 (fun w'=>w'.cell? ⟨gR,0,none⟩=some (.int .i64 (r1))∧w'.cell? ⟨gR,1,none⟩=some (.int .i64 (r2))∧w'.cell? ⟨gN,0,none⟩=some (.int .i64 (n1))∧w'.cell? ⟨gN,1,none⟩=some (.int .i64 (n2))∧w'.cell? ⟨w.heap.size,0,none⟩=some (.int .i64 (p))∧w'.cell? ⟨w.heap.size,1,none⟩=some (.int .i64 (q))∧Below w.heap.size w w'))) (T:=(fun _=>0)) (by kernel_rfl) (S2i0 ⟨r_0,r_1,n_0,n_1,p_0,p_1,hB.drew⟩) (fun hH=>?_)
 have hWr1:Weaker (S2 (fun w'=>w'.cell? ⟨gR,0,none⟩=some (.int .i64 (r1))∧w'.cell? ⟨gR,1,none⟩=some (.int .i64 (r2))∧w'.cell? ⟨gN,0,none⟩=some (.int .i64 (n1))∧w'.cell? ⟨gN,1,none⟩=some (.int .i64 (n2))∧w'.cell? ⟨w.heap.size,0,none⟩=some (.int .i64 (p))∧w'.cell? ⟨w.heap.size,1,none⟩=some (.int .i64 (q))∧Below w.heap.size w w')):=weaker2 _
 refine Utn [(0,9),(1,10),(3,12)] 3 0 0 (L':=?Lr1_1) hWr1 hH ?yr1_1 ?_
 case yr1_1=>((iterate 3 apply tkC;rfl;kernel_rfl;intro w' hSw;replace hSw:=S2o0 hSw;(try dsimp only at hSw);have q0:=hSw.1;have q1:=hSw.2.1;have q2:=hSw.2.2.1;have q3:=hSw.2.2.2.1;have q4:=hSw.2.2.2.2.1;have q5:=hSw.2.2.2.2.2.1;have q6:=hSw.2.2.2.2.2.2;(try simp only [sB,sC]);go_simp;(try with_reducible rfl));exact tkN)
 simp only [sB,sC]
 refine U1 2 0 rfl (fun K hK=>?_)
 try clear hb
 go_simp
 (go_at_call 66;refine (HM.out _).mono ?_;rintro e wn ⟨rfl,hb⟩)
 refine hK.out _ _ (S2i0 (by have hG:=hH;replace hG:=S2o0 hG;(try dsimp only at hG);have q0:=hG.1;have q1:=hG.2.1;have q2:=hG.2.2.1;have q3:=hG.2.2.2.1;have q4:=hG.2.2.2.2.1;have q5:=hG.2.2.2.2.2.1;have q6:=hG.2.2.2.2.2.2;exact ⟨keepCell hb q0,keepCell hb q1,keepCell hb q2,keepCell hb q3,keepCell hb q4,keepCell hb q5,keepBelow hb q6⟩)) (fun hH2=>?_)
 clear hK K hH
 rename _=>hH
 try simp only [Act.put,sA,sB,sC]
 refine U1 4 0 rfl (fun K hK=>?_)
 try clear hb
 go_simp
 (go_at_call 65;refine (HD.out _).mono ?_;rintro e wn ⟨rfl,hb⟩)
 refine hK.out _ _ (S2i0 (by have hG:=hH;replace hG:=S2o0 hG;(try dsimp only at hG);have q0:=hG.1;have q1:=hG.2.1;have q2:=hG.2.2.1;have q3:=hG.2.2.2.1;have q4:=hG.2.2.2.2.1;have q5:=hG.2.2.2.2.2.1;have q6:=hG.2.2.2.2.2.2;exact ⟨keepCell hb q0,keepCell hb q1,keepCell hb q2,keepCell hb q3,keepCell hb q4,keepCell hb q5,keepBelow hb q6⟩)) (fun hH2=>?_)
 clear hK K hH
 rename _=>hH
 try simp only [Act.put,sA,sB,sC]
 refine Ut 5 6 0 0 0 (v:=?vr1_6) rfl hWr1 hH ?yr1_6 ?_
 case yr1_6=>(intro w' hSw;clear hSw;go_simp;try (with_reducible rfl))
 simp only [sB,sC]
 refine wpAnyU_done (by kernel_rfl) ?_ _ _
 refine NoPanic.normal ?_
 clear hWr1
 replace hH:=S2o0 hH
 (try dsimp only at hH)
 have q0:=hH.1
 have q1:=hH.2.1
 have q2:=hH.2.2.1
 have q3:=hH.2.2.2.1
 have q4:=hH.2.2.2.2.1
 have q5:=hH.2.2.2.2.2.1
 have q6:=hH.2.2.2.2.2.2
 clear hH
 clear r_0 r_1 n_0 n_1 p_0 p_1 hB q0 q1 q4 q5 HM HD
 try clear hb
 have n_0:=q2
 have n_1:=q3
 have hB:=q6
 clear q2 q3 q6
 go_upto_region 2 with fail
 refine wp_region_noPanic ?_
 refine wp_region_U (S:=(S2 (fun w'=>w'.cell? ⟨gN,0,none⟩=some (.int .i64 (n1))∧w'.cell? ⟨gN,1,none⟩=some (.int .i64 (n2))∧Below w.heap.size w w'))) (T:=(fun _=>0)) (by kernel_rfl) (S2i0 ⟨n_0,n_1,hB.drew⟩) (fun hH=>?_)
 have hWr2:Weaker (S2 (fun w'=>w'.cell? ⟨gN,0,none⟩=some (.int .i64 (n1))∧w'.cell? ⟨gN,1,none⟩=some (.int .i64 (n2))∧Below w.heap.size w w')):=weaker2 _
 refine Utn [(0,15),(2,17)] 8 0 0 (L':=?Lr2_1) hWr2 hH ?yr2_1 ?_
 case yr2_1=>((iterate 2 apply tkC;rfl;kernel_rfl;intro w' hSw;replace hSw:=S2o0 hSw;(try dsimp only at hSw);have q0:=hSw.1;have q1:=hSw.2.1;have q2:=hSw.2.2;(try simp only [sB,sC]);go_simp;(try with_reducible rfl));exact tkN)
 simp only [sB,sC]
 refine U1 1 0 rfl (fun K hK=>?_)
 try clear hb
 go_simp
 (go_at_call 67;refine (HT.out _).mono ?_;rintro e wn ⟨rfl,hb⟩)
 refine hK.out _ _ (S2i0 (by have hG:=hH;replace hG:=S2o0 hG;(try dsimp only at hG);have q0:=hG.1;have q1:=hG.2.1;have q2:=hG.2.2;exact ⟨keepCell hb q0,keepCell hb q1,keepBelow hb q2⟩)) (fun hH2=>?_)
 clear hK K hH
 rename _=>hH
 try simp only [Act.put,sA,sB,sC]
 refine U1 3 0 rfl (fun K hK=>?_)
 try clear hb
 go_simp
 (go_at_call 69;refine (HL.out _).mono ?_;rintro e wn ⟨rfl,hb⟩)
 refine hK.out _ _ (S2i0 (by have hG:=hH;replace hG:=S2o0 hG;(try dsimp only at hG);have q0:=hG.1;have q1:=hG.2.1;have q2:=hG.2.2;exact ⟨keepCell hb q0,keepCell hb q1,keepBelow hb q2⟩)) (fun hH2=>?_)
 clear hK K hH
 rename _=>hH
 try simp only [Act.put,sA,sB,sC]
 refine U1 4 0 rfl (fun K hK=>?_)
 try clear hb
 go_simp
 (go_at_call 68;refine (HO.out _).mono ?_;rintro e wn ⟨rfl,hb⟩)
 refine hK.out _ _ (S2i0 (by have hG:=hH;replace hG:=S2o0 hG;(try dsimp only at hG);have q0:=hG.1;have q1:=hG.2.1;have q2:=hG.2.2;exact ⟨keepCell hb q0,keepCell hb q1,keepBelow hb q2⟩)) (fun hH2=>?_)
 clear hK K hH
 rename _=>hH
 try simp only [Act.put,sA,sB,sC]
 refine Utn [(5,14),(6,20),(7,21),(8,7),(9,8)] 0 0 0 (L':=?Lr2_6) hWr2 hH ?yr2_6 ?_
 case yr2_6=>((iterate 5 apply tkC;rfl;kernel_rfl;intro w' hSw;clear hSw;(try simp only [sB,sC]);go_simp;(try with_reducible rfl));exact tkN)
 simp only [sB,sC]
 refine wpAnyU_done (by kernel_rfl) ?_ _ _
 refine NoPanic.normal ?_
 clear hWr2
 replace hH:=S2o0 hH
 (try dsimp only at hH)
 have q0:=hH.1
 have q1:=hH.2.1
 have q2:=hH.2.2
 clear hH
 clear n_0 n_1 hB q0 q1 HT HL HO
 try clear hb
 go_wp2
 refine bodyPost_ret (v:=.tuple #[.int .i64 Z,.bool (decide (0≤D))]) (by simp [results,Tryz.results64,go_sem]) rfl ⟨rfl,q2⟩
theorem rfacing_calls (A:Option Addr) (n c:Nat) (l:List V) (u v:Int) (w:World) (hS:Sl w A n c l) (hw:allWithin 65536000 l=true) (h3:3≤l.length) (h8:l.length≤8) (hu : -131072000≤u∧u≤131072000) (hv : -131072000≤v∧v≤131072000) :
  Calls Tryz.prog 99 #[.slice A n c,vecV u v] w (Ret (.int .i64 (facZ l u v)) w):=by
 have hn:=hS.len
 subst hn
 have HS:=hid hS
 obtain ⟨b,off,rfl,hC⟩:=hS.at_ (by intro h;subst h;simp at h3)
 have HC:=hid hC
 have HWB:Hid (∀ j,j<l.length→(-65536000≤px l j∧px l j≤65536000)∧(-65536000≤py l j∧py l j≤65536000)):=fun j hj=>by
  obtain ⟨_,_,_,_⟩:=withinB_iff.1 (allWithin_at hw hj)
  omega
 have HFZ:Hid (∀ s,s=fcTo l u v l.length→facZ l u v=if dotL l u v ((s+l.length-1) % l.length)<dotL l u v ((s+1) % l.length) then (s+l.length-1) % l.length else s):=fun s h=>by subst h;rfl
 obtain ⟨F,hF⟩:∃ F,F=facZ l u v:=⟨_,rfl⟩
 rw [← hF] at HFZ ⊢
 have e1:IntKind.i64.wrap (-u) = -u:=IntWalk.i64_in _ (by omega)
 have e2:IntKind.i64.wrap (-v) = -v:=IntWalk.i64_in _ (by omega)
 have HFA:Hid (∀ w',Below w.heap.size w w'→Calls Tryz.prog 103 #[.slice (some ⟨b,off,none⟩) l.length c,vecV (-u) (-v)] w' (Ret (.int .i64 (fcTo l u v l.length:Nat)) w')):=fun w' hb=>by
  refine (far_calls _ _ c l (-u) (-v) (by unfold i64;omega) (by unfold i64;omega) w' (HS.out.below hb) hw h8 h3).mono ?_
  rintro e w2 ⟨r,hr,he⟩
  have:=far_eq l (-u) (-v) h3 r hr
  rw [← this,← fcTo_sup] at he
  exact he
 obtain ⟨W,hW⟩:∃ W,W=w.alloc (.cells #[.int .i64 u,.int .i64 v] 27):=⟨_,rfl⟩
 have kn0:W.cell? ⟨w.heap.size,0,none⟩=some (.int .i64 u):=by rw [hW];go_simp
 have kn1:W.cell? ⟨w.heap.size,1,none⟩=some (.int .i64 v):=by rw [hW];go_simp
 have hB:Below w.heap.size w W:=by rw [hW];go_grown
 have hsl:=fcTo_lt l u v l.length (Nat.le_refl _) (by omega)
 obtain ⟨s,hs⟩:∃ s,s=fcTo l u v l.length:=⟨_,rfl⟩
 have HFs:=hid (HFZ.out s hs)
 rw [← hs] at hsl HFA
 clear hC hS hF hs HS HFZ
 have hbf:=Nat.mod_lt (s+l.length-1) (show 0<l.length by omega)
 have haf:=Nat.mod_lt (s+1) (show 0<l.length by omega)
 obtain ⟨bf,hbfe⟩:∃ j,j=(s+l.length-1) % l.length:=⟨_,rfl⟩
 obtain ⟨af,hafe⟩:∃ j,j=(s+1) % l.length:=⟨_,rfl⟩
 rw [← hbfe] at hbf HFs
 rw [← hafe] at haf HFs
 have htb:((s:Int)+(l.length:Int)-1).tmod (l.length:Int)=(bf:Int):=by
  rw [Int.tmod_eq_emod_of_nonneg (by omega),hbfe]
  have:(s:Int)+(l.length:Int)-1=((s+l.length-1:Nat):Int):=by omega
  rw [this]
  first | exact (Int.natCast_emod _ _).symm | exact (Int.ofNat_emod _ _).symm | simp
 have hta:((s:Int)+1).tmod (l.length:Int)=(af:Int):=by
  rw [Int.tmod_eq_emod_of_nonneg (by omega),hafe]
  have:(s:Int)+1=((s+1:Nat):Int):=by omega
  rw [this]
  first | exact (Int.natCast_emod _ _).symm | exact (Int.ofNat_emod _ _).symm | simp
 have hw1:IntKind.i64.wrap ((s:Int)+(l.length:Int))=(s:Int)+(l.length:Int):=IntWalk.i64_in _ (by omega)
 have hw2:IntKind.i64.wrap ((s:Int)+(l.length:Int)-1)=(s:Int)+(l.length:Int)-1:=IntWalk.i64_in _ (by omega)
 have hw3:IntKind.i64.wrap ((s:Int)+1)=(s:Int)+1:=IntWalk.i64_in _ (by omega)
 have hl0:¬ l=[]:=by intro h;rw [h] at h3;simp at h3
 have hbf':(bf:Int)<(l.length:Int):=by omega
 have haf':(af:Int)<(l.length:Int):=by omega
 have b1:=HWB.out bf hbf
 have b2:=HWB.out af haf
 have HFS:Hid (F=if px l bf*u+py l bf*v<px l af*u+py l af*v then bf else s):=HFs.out
 have HD1:=hid (rdot_calls (px l bf) (py l bf) u v (by omega) (by omega) (by omega) (by omega))
 have HD2:=hid (rdot_calls (px l af) (py l af) u v (by omega) (by omega) (by omega) (by omega))
 have m1:=mul_bd (x:=px l bf) (y:=u) (M:=65536000) (N:=131072000) (by omega) (by omega) (by omega) (by omega)
 have m2:=mul_bd (x:=py l bf) (y:=v) (M:=65536000) (N:=131072000) (by omega) (by omega) (by omega) (by omega)
 have m3:=mul_bd (x:=px l af) (y:=u) (M:=65536000) (N:=131072000) (by omega) (by omega) (by omega) (by omega)
 have m4:=mul_bd (x:=py l af) (y:=v) (M:=65536000) (N:=131072000) (by omega) (by omega) (by omega) (by omega)
 have HC':=hid (bcmp_calls (px l bf*u+py l bf*v) (px l af*u+py l af*v) (by omega) (by omega) (by omega) (by omega))
 have HCN:=hid (cmpZ_neg (a:=px l bf*u+py l bf*v) (b:=px l af*u+py l af*v))
 have HCC:Hid (∀ w',Below w.heap.size w w'→Cells w' b off l):=fun w' h=>HC.out.below h
 have hbl0:=HC.out.lt
 clear hbfe hafe b1 b2 HFs m1 m2 m3 m4 HC
 have HC:=HC'
 clear HC'
 go_enter Tryz.func99,Tryz.ntmps99
 go_wp2_with fail
 rw [← hW]
 clear hW
 refine (HFA.out _ hB).mono ?_
 rintro e w1 ⟨rfl,hb1⟩
 replace kn0:=keepCell hb1 kn0
 replace kn1:=keepCell hb1 kn1
 replace hB:=keepBelow hb1 hB
 clear hb1 HFA
 have hCo:=HCC.out _ hB
 have hbl:=hCo.lt
 have c0:=hCo.x bf hbf
 have c1:=hCo.y bf hbf
 have d0:=hCo.x af haf
 have d1:=hCo.y af haf
 clear hCo HCC HWB hw
 generalize px l bf=xb at *
 generalize py l bf=yb at *
 generalize px l af=xa at *
 generalize py l af=ya at *
 go_upto_region 3 with fail
 refine wp_region_noPanic ?_
 refine wp_region_U (S:=(S2 (fun w'=>w'.cell? ⟨b,off+bf*2,none⟩=some (.int .i64 (xb))∧w'.cell? ⟨b,off+bf*2+1,none⟩=some (.int .i64 (yb))∧w'.cell? ⟨b,off+af*2,none⟩=some (.int .i64 (xa))∧w'.cell? ⟨b,off+af*2+1,none⟩=some (.int .i64 (ya))∧w'.cell? ⟨w.heap.size,0,none⟩=some (.int .i64 (u))∧w'.cell? ⟨w.heap.size,1,none⟩=some (.int .i64 (v))∧Below w.heap.size w w'))) (T:=(fun _=>0)) (by kernel_rfl) (S2i0 ⟨c0,c1,d0,d1,kn0,kn1,hB.drew⟩) (fun hH=>?_)
 have hWr3:Weaker (S2 (fun w'=>w'.cell? ⟨b,off+bf*2,none⟩=some (.int .i64 (xb))∧w'.cell? ⟨b,off+bf*2+1,none⟩=some (.int .i64 (yb))∧w'.cell? ⟨b,off+af*2,none⟩=some (.int .i64 (xa))∧w'.cell? ⟨b,off+af*2+1,none⟩=some (.int .i64 (ya))∧w'.cell? ⟨w.heap.size,0,none⟩=some (.int .i64 (u))∧w'.cell? ⟨w.heap.size,1,none⟩=some (.int .i64 (v))∧Below w.heap.size w w')):=weaker2 _
 refine Utn [(0,18),(1,19),(2,20),(3,21),(4,22),(5,23),(6,24),(7,25),(8,26),(9,27),(11,29),(12,30),(13,31),(14,32),(15,33),(16,34),(17,35),(18,36)] 4 0 0 (L':=?Lr3_1) hWr3 hH ?yr3_1 ?_
 case yr3_1=>((iterate 18 apply tkC;rfl;kernel_rfl;intro w' hSw;replace hSw:=S2o0 hSw;(try dsimp only at hSw);have q0:=hSw.1;have q1:=hSw.2.1;have q2:=hSw.2.2.1;have q3:=hSw.2.2.2.1;have q4:=hSw.2.2.2.2.1;have q5:=hSw.2.2.2.2.2.1;have q6:=hSw.2.2.2.2.2.2;(try simp only [sB,sC]);go_simp;(try with_reducible rfl));exact tkN)
 simp only [sB,sC]
 refine U1 10 0 rfl (fun K hK=>?_)
 try clear hb
 go_simp
 (go_at_call 140;refine (HD1.out _).mono ?_;rintro e wn ⟨rfl,hb⟩)
 refine hK.out _ _ (S2i0 (by have hG:=hH;replace hG:=S2o0 hG;(try dsimp only at hG);have q0:=hG.1;have q1:=hG.2.1;have q2:=hG.2.2.1;have q3:=hG.2.2.2.1;have q4:=hG.2.2.2.2.1;have q5:=hG.2.2.2.2.2.1;have q6:=hG.2.2.2.2.2.2;exact ⟨keepCell hb q0,keepCell hb q1,keepCell hb q2,keepCell hb q3,keepCell hb q4,keepCell hb q5,keepBelow hb q6⟩)) (fun hH2=>?_)
 clear hK K hH
 rename _=>hH
 try simp only [Act.put,sA,sB,sC]
 refine U1 19 0 rfl (fun K hK=>?_)
 try clear hb
 go_simp
 (go_at_call 140;refine (HD2.out _).mono ?_;rintro e wn ⟨rfl,hb⟩)
 refine hK.out _ _ (S2i0 (by have hG:=hH;replace hG:=S2o0 hG;(try dsimp only at hG);have q0:=hG.1;have q1:=hG.2.1;have q2:=hG.2.2.1;have q3:=hG.2.2.2.1;have q4:=hG.2.2.2.2.1;have q5:=hG.2.2.2.2.2.1;have q6:=hG.2.2.2.2.2.2;exact ⟨keepCell hb q0,keepCell hb q1,keepCell hb q2,keepCell hb q3,keepCell hb q4,keepCell hb q5,keepBelow hb q6⟩)) (fun hH2=>?_)
 clear hK K hH
 rename _=>hH
 try simp only [Act.put,sA,sB,sC]
 refine U1 20 0 rfl (fun K hK=>?_)
 try clear hb
 go_simp
 (go_at_call 132;refine (HC.out _).mono ?_;rintro e wn ⟨rfl,hb⟩)
 refine hK.out _ _ (S2i0 (by have hG:=hH;replace hG:=S2o0 hG;(try dsimp only at hG);have q0:=hG.1;have q1:=hG.2.1;have q2:=hG.2.2.1;have q3:=hG.2.2.2.1;have q4:=hG.2.2.2.2.1;have q5:=hG.2.2.2.2.2.1;have q6:=hG.2.2.2.2.2.2;exact ⟨keepCell hb q0,keepCell hb q1,keepCell hb q2,keepCell hb q3,keepCell hb q4,keepCell hb q5,keepBelow hb q6⟩)) (fun hH2=>?_)
 clear hK K hH
 rename _=>hH
 try simp only [Act.put,sA,sB,sC]
 refine Ut 21 39 0 0 0 (v:=?vr3_22) rfl hWr3 hH ?yr3_22 ?_
 case yr3_22=>(intro w' hSw;clear hSw;go_simp;try (with_reducible rfl))
 simp only [sB,sC]
 refine wpAnyU_done (by kernel_rfl) ?_ _ _
 refine NoPanic.normal ?_
 clear hWr3
 replace hH:=S2o0 hH
 (try dsimp only at hH)
 have q0:=hH.1
 have q1:=hH.2.1
 have q2:=hH.2.2.1
 have q3:=hH.2.2.2.1
 have q4:=hH.2.2.2.2.1
 have q5:=hH.2.2.2.2.2.1
 have q6:=hH.2.2.2.2.2.2
 clear hH
 clear c0 c1 d0 d1 kn0 kn1 hB HD1 HD2 HC q0 q1 q2 q3 q4 q5
 try clear hb
 by_cases hd:xb*u+yb*v<xa*u+ya*v
 ·have HO2 : Hid (F = bf) := by show _ = _; rw [HFS.out, if_pos hd]
  have hcd:cmpZ (xb*u+yb*v) (xa*u+ya*v)<0:=HCN.out.2 hd
  generalize cmpZ (xb*u+yb*v) (xa*u+ya*v)=cz at *
  clear HFS HCN
  go_wp2
  refine bodyPost_ret (v:=.int .i64 F) (by simp [results,Tryz.results99,go_sem,HO2.out]) rfl ⟨rfl,q6⟩
 ·have HO2 : Hid (F = s) := by show _ = _; rw [HFS.out, if_neg hd]
  have hcd:¬ cmpZ (xb*u+yb*v) (xa*u+ya*v)<0:=fun h=>hd (HCN.out.1 h)
  generalize cmpZ (xb*u+yb*v) (xa*u+ya*v)=cz at *
  clear HFS HCN
  go_wp2
  refine bodyPost_ret (v:=.int .i64 F) (by simp [results,Tryz.results99,go_sem,HO2.out]) rfl ⟨rfl,q6⟩
end
end Go.Proofs.YtiaoandbdgdecaaGreat
