/- The walk of TopMeet. -/
import Derived.Test.YtodpincpofoiiaaGreatQM44
import Derived.Test.YtodpincpofoiiaaGreatQM49
import Derived.Test.YtodpincpofoiiaaGreatQM24
import Derived.Test.YtodpincpofoiiaaGreatQM48
import Derived.Test.YtodpincpofoiiaaGreatQM03
set_option maxRecDepth 100000
set_option maxHeartbeats 16000000
namespace Go.Proofs.YtodpincpofoiiaaGreat
section
set_option linter.unusedVariables false
set_option linter.unusedSimpArgs false
open Go.RowKit

def e04 (m:Bool):Int:=if m=true then 0 else 4
theorem topMeet_walk (A B:Option Addr) (n c n' c':Nat) (r s:List Int) (w:World) (hS:SlI w A n c r) (hS':SlI w B n' c' s):Calls Tryz.prog 9 #[.slice A n c,.slice B n' c'] w (Ret (.bool true) w):=by
 have HSA:=hid hS
 have HSB:=hid hS'
 clear hS hS'
 go_enter Tryz.func9,Tryz.ntmps9
 go_wp2_with fail
 refine (mBody_calls A n c r _ HSA.out).mono ?_
 rintro e w1 ⟨b1,l1,A1,n1,c1,rfl,hm1,hl1,hs1,-,hb1⟩
 go_wp2_with fail
 refine (mBody_calls B n' c' s _ (HSB.out.below hb1)).mono ?_
 rintro e w2 ⟨b2,l2,A2,n2,c2,rfl,hm2,hl2,hs2,-,hb2⟩
 have HE1:=hid (madeB_ok hm1 hl1)
 have HE2:=hid (madeB_ok hm2 hl2)
 obtain ⟨gx,hgx⟩:∃ g,g=w2.heap.size:=⟨_,rfl⟩
 obtain ⟨gy,hgy⟩:∃ g,g=w2.heap.size+1:=⟨_,rfl⟩
 obtain ⟨w3,hw3⟩:∃ x,x=w2.alloc (.cells #[.int .i64 b1.px,.int .i64 b1.py,.int .i64 b1.vx,.int .i64 b1.vy,.int .i64 b1.ang,.int .i64 b1.spin,.int .i64 b1.mass,.int .i64 b1.iner,.int .i64 b1.bounce,.int .i64 b1.rub,.slice A1 n1 c1,.bool b1.asleep,.int .i64 b1.calm] 27):=⟨_,rfl⟩
 obtain ⟨w4,hw4⟩:∃ x,x=w3.alloc (.cells #[.int .i64 b2.px,.int .i64 b2.py,.int .i64 b2.vx,.int .i64 b2.vy,.int .i64 b2.ang,.int .i64 b2.spin,.int .i64 b2.mass,.int .i64 b2.iner,.int .i64 b2.bounce,.int .i64 b2.rub,.slice A2 n2 c2,.bool b2.asleep,.int .i64 b2.calm] 27):=⟨_,rfl⟩
 have hb3:Below w2.heap.size w2 w3:=by rw [hw3];exact (Below.refl _ _).alloc (Nat.le_refl _) _
 have hb4:Below w3.heap.size w3 w4:=by rw [hw4];exact (Below.refl _ _).alloc (Nat.le_refl _) _
 have hs3:w3.heap.size=gy:=by rw [hw3,hgy,World.size_alloc]
 have HK1:=hid (keepBd hb4 (show BdAt w3 gx b1 A1 n1 c1 by rw [hw3,hgx];exact BdAt.here w2 b1 A1 n1 c1 _))
 have HK2:=hid (show BdAt w4 gy b2 A2 n2 c2 by rw [hw4,← hs3];exact BdAt.here w3 b2 A2 n2 c2 _)
 have HS1:=hid (((hs1.below hb2).below hb3).below hb4)
 have HS2:=hid ((hs2.below hb3).below hb4)
 have HB:=hid (keepBelow hb4 (keepBelow hb3 (keepBelow hb2 hb1)))
 obtain ⟨p,hp⟩:∃ p,p=placeL b1 l1:=⟨_,rfl⟩
 obtain ⟨q,hq⟩:∃ q,q=placeL b2 l2:=⟨_,rfl⟩
 have hcp:checkE p=0:=by rw [hp];exact placed_ok HE1.out
 have hcq:checkE q=0:=by rw [hq];exact placed_ok HE2.out
 have hbo:bothE p q=0:=bothE_zero.2 ⟨hcp,hcq⟩
 have HP1:Hid (∀ w',Sl w' A1 n1 c1 l1→Calls Tryz.prog 36 #[bodyV b1 A1 n1 c1] w' (RetPl p w')):=hid (fun w' h=>by have:=bplace_calls b1 A1 n1 c1 l1 w' h;rw [show placeR b1 l1=p from by unfold placeR;rw [if_neg (by simp [HE1.out]),hp]] at this;exact this)
 have HP2:Hid (∀ w',Sl w' A2 n2 c2 l2→Calls Tryz.prog 36 #[bodyV b2 A2 n2 c2] w' (RetPl q w')):=hid (fun w' h=>by have:=bplace_calls b2 A2 n2 c2 l2 w' h;rw [show placeR b2 l2=q from by unfold placeR;rw [if_neg (by simp [HE2.out]),hq]] at this;exact this)
 obtain ⟨m,hm⟩:∃ m,m=nmeetB p q:=⟨_,rfl⟩
 have hmm:meetsB p q=m:=by rw [hm,meets_nmeet hcp hcq]
 obtain ⟨d,hd⟩:∃ d,d=tstD p q:=⟨_,rfl⟩
 obtain ⟨fa,hfa⟩:∃ d,d=apartZ p q:=⟨_,rfl⟩
 have HTS:Hid (∃ x y:Int,∀ w' A3 n3 c3 A4 n4 c4,Sl w' A3 n3 c3 p→Sl w' A4 n4 c4 q→Calls Tryz.prog 37 #[.slice A3 n3 c3,.slice A4 n4 c4] w' (Ret (.tuple #[.bool m,.int .i64 d,vecV x y]) w')):=hid ⟨tstX p q,tstY p q,fun w' A3 n3 c3 A4 n4 c4 h1 h2=>by have:=test_calls A3 A4 n3 c3 n4 c4 p q w' h1 h2;rw [hmm,← hd] at this;exact this⟩
 have HNM:Hid (∀ w' A3 n3 c3 A4 n4 c4,Sl w' A3 n3 c3 p→Sl w' A4 n4 c4 q→Calls Tryz.prog 38 #[.slice A3 n3 c3,.slice A4 n4 c4] w' (Ret (.tuple #[.bool m,.int .i64 0]) w')):=hid (fun w' A3 n3 c3 A4 n4 c4 h1 h2=>by have:=nmeet_calls A3 A4 n3 c3 n4 c4 p q w' h1 h2;rw [← hm,hbo] at this;exact this)
 have HNA:Hid (∀ w' A3 n3 c3 A4 n4 c4,Sl w' A3 n3 c3 p→Sl w' A4 n4 c4 q→Calls Tryz.prog 39 #[.slice A3 n3 c3,.slice A4 n4 c4] w' (Ret (.tuple #[.int .i64 fa,.int .i64 0]) w')):=hid (fun w' A3 n3 c3 A4 n4 c4 h1 h2=>by have:=apart_calls A3 A4 n3 c3 n4 c4 p q w' h1 h2;rw [← hfa,hbo] at this;exact this)
 have HRM:Hid (∀ w' g A4 n4 c4,BdAt w' g b1 A1 n1 c1→Sl w' A1 n1 c1 l1→Sl w' A4 n4 c4 q→Calls Tryz.prog 40 #[.slice (some ⟨g,0,none⟩) 1 1,.slice A4 n4 c4] w' (RetIE (if m=true then [0] else []) 0 w')):=hid (fun w' g A4 n4 c4 h0 h1 h2=>by
  have h:=rayMeet_calls (some ⟨g,0,none⟩) A4 1 1 n4 c4 [⟨b1,A1,n1,c1,l1⟩] q w' (SlB.one (x:=⟨b1,A1,n1,c1,l1⟩) h0 h1) h2
  have e1:meetE [(⟨b1,A1,n1,c1,l1⟩:BE)] q=0:=by unfold meetE;rw [bodiesE_oneP (x:=⟨b1,A1,n1,c1,l1⟩) HE1.out];simpa using hcq
  have e2:meetL [(⟨b1,A1,n1,c1,l1⟩:BE)] q=if m=true then [0] else []:=by
   unfold meetL
   rw [if_pos e1]
   show meetTo _ _ 1=_
   rw [meet_one]
   show (if nmeetB (placeL b1 l1) q=true then _ else _)=_
   rw [← hp,← hm]
  rw [e1,e2] at h
  exact h)
 have HRS:Hid (∀ w' g A4 n4 c4,BdAt w' g b1 A1 n1 c1→Sl w' A1 n1 c1 l1→Sl w' A4 n4 c4 q→Calls Tryz.prog 33 #[.slice (some ⟨g,0,none⟩) 1 1,.slice A4 n4 c4,vecV 0 0] w' (Ret (.tuple #[.int .i64 0,.int .i64 0,.int .i64 (e04 m)]) w')):=hid (fun w' g A4 n4 c4 h0 h1 h2=>by
  have h:=rayShape_calls (some ⟨g,0,none⟩) A4 1 1 n4 c4 [⟨b1,A1,n1,c1,l1⟩] q 0 0 w' (SlB.one (x:=⟨b1,A1,n1,c1,l1⟩) h0 h1) h2
  have e2:shapeV [(⟨b1,A1,n1,c1,l1⟩:BE)] q (0,0) = .tuple #[.int .i64 0,.int .i64 0,.int .i64 (e04 m)]:=by
   unfold shapeV
   rw [if_neg (by rw [bodiesE_oneP (x:=⟨b1,A1,n1,c1,l1⟩) HE1.out];simp),if_neg (by simp [hcq]),if_neg (by decide),shape_one (x:=⟨b1,A1,n1,c1,l1⟩) HE1.out hcq]
   show frV (if nmeetB (placeL b1 l1) q=true then _ else _)=_
   rw [← hp,← hm]
   cases m <;> rfl
  rw [e2] at h
  exact h)
 obtain ⟨Z,hZ⟩:∃ Z,Z=ptsZ p q:=⟨_,rfl⟩
 have HCO:Hid (∀ w' {A3 n3 c3 A4 n4 c4},Sl w' A3 n3 c3 p→Sl w' A4 n4 c4 q→Calls Tryz.prog 41 #[.slice A3 n3 c3,.slice A4 n4 c4] w' (RetPt Z w')):=hid (fun w' A3 n3 c3 A4 n4 c4 h1 h2=>by have:=cof_calls A3 A4 n3 c3 n4 c4 p q w' h1 h2;rw [← hZ] at this;exact this)
 have HZ:Hid (if m=true then Z≠[] else Z=[]):=hid (by
  cases h:m with
  | true=>rw [if_pos rfl,hZ];exact pts_ne (by rw [hmm];exact h)
  | false=>rw [if_neg (by simp),hZ];exact pts_nil (by rw [hmm];exact h))
 have HD:Hid (0≤fa∧(m=true→fa=0∧0≤d)∧(m=false→d=0)):=hid ⟨by rw [hfa];exact apart_pos,fun h=>⟨by rw [hfa];exact apart_zero (by rw [← hm];exact h),by rw [hd];exact tst_nnT (by rw [hmm];exact h)⟩,fun h=>by rw [hd];exact tst_zeroT (by rw [hmm];exact h)⟩
 clear hs1 hs2 hb1 hb2 hb3 hb4 hs3 hm1 hm2 hl1 hl2 hp hq hcp hcq hbo hm hmm hd hfa hZ
 obtain ⟨tx,ty,hts⟩:=HTS.out
 have HTS2:=hid hts
 clear hts HTS
 go_upto_region 2 with fail
 rw [← hgy,← hgx,← hw3,← hw4]
 clear hgx hgy hw3 hw4
 refine wp_region_noPanic ?_
 refine wp_region_U (S:=(S2 (fun w'=>BdAt w' gx b1 A1 n1 c1∧BdAt w' gy b2 A2 n2 c2∧Sl w' A1 n1 c1 l1∧Sl w' A2 n2 c2 l2∧Bq w w'))) (T:=(fun _=>0)) (by kernel_rfl) (S2i0 ⟨HK1.out.drew,HK2.out.drew,keepSlX (Below.refl _ _).drew HS1.out,keepSlX (Below.refl _ _).drew HS2.out,⟨HB.out.drew⟩⟩) (fun hH=>?_)
 have hWr1:Weaker (S2 (fun w'=>BdAt w' gx b1 A1 n1 c1∧BdAt w' gy b2 A2 n2 c2∧Sl w' A1 n1 c1 l1∧Sl w' A2 n2 c2 l2∧Bq w w')):=weaker2 _
 refine Utn [(0,25),(2,27)] 4 0 0 (L':=?Lr1_1) hWr1 hH ?yr1_1 ?_
 case yr1_1=>((iterate 2 apply tkC;rfl;kernel_rfl;intro w' hSw;replace hSw:=S2o0 hSw;(try dsimp only at hSw);have q0:=hSw.1;have q1:=hSw.2.1;have q2:=hSw.2.2.1;have q3:=hSw.2.2.2.1;have q4:=hSw.2.2.2.2;obtain ⟨qa0_0,qa0_1,qa0_2,qa0_3,qa0_4,qa0_5,qa0_6,qa0_7,qa0_8,qa0_9,qa0_10,qa0_11,qa0_12,qa0_f⟩:=id q0;obtain ⟨qa1_0,qa1_1,qa1_2,qa1_3,qa1_4,qa1_5,qa1_6,qa1_7,qa1_8,qa1_9,qa1_10,qa1_11,qa1_12,qa1_f⟩:=id q1;(try simp only [sB,sC]);go_simp;(try with_reducible rfl));exact tkN)
 simp only [sB,sC]
 refine U1 1 0 rfl (fun K hK=>?_)
 try clear hb
 have hG:=hH
 replace hG:=S2o0 hG;(try dsimp only at hG);have fq0:=hG.1;have fq1:=hG.2.1;have fq2:=hG.2.2.1;have fq3:=hG.2.2.2.1;have fq4:=hG.2.2.2.2
 go_simp
 (go_at_call 36;refine (HP1.out _ fq2).mono ?_;rintro e wn ⟨A3,n3,c3,rfl,hp1,-,-,hb⟩)
 refine hK.out _ _ (S2i0 (by have hG:=hH;replace hG:=S2o0 hG;(try dsimp only at hG);have q0:=hG.1;have q1:=hG.2.1;have q2:=hG.2.2.1;have q3:=hG.2.2.2.1;have q4:=hG.2.2.2.2;exact ⟨keepBd hb q0,keepBd hb q1,keepSlX hb q2,keepSlX hb q3,keepBq hb q4⟩)) (fun hH2=>?_)
 clear hK K hH
 rename _=>hH
 try simp only [Act.put,sA,sB,sC]
 clear hG fq0 fq1 fq2 fq3 fq4
 refine U1 3 0 rfl (fun K hK=>?_)
 try clear hb
 have hG:=hH
 replace hG:=S2o0 hG;(try dsimp only at hG);have fq0:=hG.1;have fq1:=hG.2.1;have fq2:=hG.2.2.1;have fq3:=hG.2.2.2.1;have fq4:=hG.2.2.2.2
 go_simp
 (go_at_call 36;refine (HP2.out _ fq3).mono ?_;rintro e wm ⟨A4,n4,c4,rfl,hp2,-,-,hb⟩;replace hp1:=hp1.below hb)
 refine hK.out _ _ (S2i0 (by have hG:=hH;replace hG:=S2o0 hG;(try dsimp only at hG);have q0:=hG.1;have q1:=hG.2.1;have q2:=hG.2.2.1;have q3:=hG.2.2.2.1;have q4:=hG.2.2.2.2;exact ⟨keepBd hb q0,keepBd hb q1,keepSlX hb q2,keepSlX hb q3,keepBq hb q4⟩)) (fun hH2=>?_)
 clear hK K hH
 rename _=>hH
 try simp only [Act.put,sA,sB,sC]
 clear hG fq0 fq1 fq2 fq3 fq4
 refine Utn [(4,7),(5,8)] 0 0 0 (L':=?Lr1_5) hWr1 hH ?yr1_5 ?_
 case yr1_5=>((iterate 2 apply tkC;rfl;kernel_rfl;intro w' hSw;clear hSw;(try simp only [sB,sC]);go_simp;(try with_reducible rfl));exact tkN)
 simp only [sB,sC]
 refine wpAnyU_done (by kernel_rfl) ?_ _ _
 refine NoPanic.normal ?_
 replace hH:=S2o0 hH
 (try dsimp only at hH)
 have q0:=hH.1
 have q1:=hH.2.1
 have q2:=hH.2.2.1
 have q3:=hH.2.2.2.1
 have q4:=hH.2.2.2.2
 have HK1:=hid q0
 have HK2:=hid q1
 have HS1:=hid q2
 have HS2:=hid q3
 have HB:=hid q4.b
 have HP3:=hid hp1
 have HP4:=hid hp2
 clear q0 q1 q2 q3 q4 hp1 hp2 hH
 go_wp2_with fail
 refine (HTS2.out _ _ _ _ _ _ _ HP3.out HP4.out).mono ?_
 rintro e w5 ⟨rfl,hb5⟩
 replace HK1:=hid (keepBd hb5 HK1.out)
 replace HS1:=hid (HS1.out.below hb5)
 replace HB:=hid (keepBelow hb5 HB.out)
 replace HP3:=hid (HP3.out.below hb5)
 replace HP4:=hid (HP4.out.below hb5)
 clear hb5 HTS2 HK2 HS2
 have hb6:Below w5.heap.size w5 (w5.alloc (.cells #[.int .i64 tx,.int .i64 ty] 24)):=(Below.refl _ _).alloc (Nat.le_refl _) _
 replace HK1:=hid (keepBd hb6 HK1.out)
 replace HS1:=hid (HS1.out.below hb6)
 replace HB:=hid (keepBelow hb6 HB.out)
 replace HP3:=hid (HP3.out.below hb6)
 replace HP4:=hid (HP4.out.below hb6)
 obtain ⟨w6,hw6⟩:∃ x,x=w5.alloc (.cells #[.int .i64 tx,.int .i64 ty] 24):=⟨_,rfl⟩
 rw [← hw6] at HK1 HS1 HB HP3 HP4
 clear hb6
 go_upto_region 4 with fail
 rw [← hw6]
 clear hw6
 go_wp2_with fail
 refine (HNM.out _ _ _ _ _ _ _ HP3.out HP4.out).mono ?_
 rintro e w7 ⟨rfl,hb7⟩
 replace HK1:=hid (keepBd hb7 HK1.out)
 replace HS1:=hid (HS1.out.below hb7)
 replace HB:=hid (keepBelow hb7 HB.out)
 replace HP3:=hid (HP3.out.below hb7)
 replace HP4:=hid (HP4.out.below hb7)
 clear hb7 HNM
 go_wp2_with fail
 refine (HNA.out _ _ _ _ _ _ _ HP3.out HP4.out).mono ?_
 rintro e w8 ⟨rfl,hb8⟩
 replace HK1:=hid (keepBd hb8 HK1.out)
 replace HS1:=hid (HS1.out.below hb8)
 replace HB:=hid (keepBelow hb8 HB.out)
 replace HP3:=hid (HP3.out.below hb8)
 replace HP4:=hid (HP4.out.below hb8)
 clear hb8 HNA
 obtain ⟨k0,k1,k2,k3,k4,k5,k6,k7,k8,k9,k10,k11,k12,kf⟩:=HK1.out
 have lk:=HK1.out.lt
 have hb9:Below w8.heap.size w8 (w8.alloc (.cells #[.int .i64 b1.px,.int .i64 b1.py,.int .i64 b1.vx,.int .i64 b1.vy,.int .i64 b1.ang,.int .i64 b1.spin,.int .i64 b1.mass,.int .i64 b1.iner,.int .i64 b1.bounce,.int .i64 b1.rub,.slice A1 n1 c1,.bool b1.asleep,.int .i64 b1.calm] 27)):=(Below.refl _ _).alloc (Nat.le_refl _) _
 have HRM2:=hid (HRM.out _ _ _ _ _ (BdAt.here w8 b1 A1 n1 c1 27) (HS1.out.below hb9) (HP4.out.below hb9))
 go_wp2_with fail
 refine HRM2.out.mono ?_
 rintro e w10 ⟨A5,n5,c5,rfl,hs5,hb10⟩
 have hn5:n5=(if m=true then [(0:Int)] else []).length:=hs5.len
 replace HK1:=hid (keepBd hb9 HK1.out)
 replace HS1:=hid (HS1.out.below hb9)
 replace HB:=hid (keepBelow hb9 HB.out)
 replace HP3:=hid (HP3.out.below hb9)
 replace HP4:=hid (HP4.out.below hb9)
 replace HK1:=hid (keepBd hb10 HK1.out)
 replace HS1:=hid (HS1.out.below hb10)
 replace HB:=hid (keepBelow hb10 HB.out)
 replace HP3:=hid (HP3.out.below hb10)
 replace HP4:=hid (HP4.out.below hb10)
 clear hb9 hb10 HRM HRM2 hs5 k0 k1 k2 k3 k4 k5 k6 k7 k8 k9 k10 k11 k12 kf lk
 obtain ⟨k0,k1,k2,k3,k4,k5,k6,k7,k8,k9,k10,k11,k12,kf⟩:=HK1.out
 have lk:=HK1.out.lt
 have hb11:Below w10.heap.size w10 (w10.alloc (.cells #[.int .i64 b1.px,.int .i64 b1.py,.int .i64 b1.vx,.int .i64 b1.vy,.int .i64 b1.ang,.int .i64 b1.spin,.int .i64 b1.mass,.int .i64 b1.iner,.int .i64 b1.bounce,.int .i64 b1.rub,.slice A1 n1 c1,.bool b1.asleep,.int .i64 b1.calm] 27)):=(Below.refl _ _).alloc (Nat.le_refl _) _
 have HRS2:=hid (HRS.out _ _ _ _ _ (BdAt.here w10 b1 A1 n1 c1 27) (HS1.out.below hb11) (HP4.out.below hb11))
 have HN5:=hid hn5
 clear hn5
 go_wp2_with fail
 refine HRS2.out.mono ?_
 rintro e w12 ⟨rfl,hb12⟩
 replace HK1:=hid (keepBd hb11 HK1.out)
 replace HS1:=hid (HS1.out.below hb11)
 replace HB:=hid (keepBelow hb11 HB.out)
 replace HP3:=hid (HP3.out.below hb11)
 replace HP4:=hid (HP4.out.below hb11)
 replace HK1:=hid (keepBd hb12 HK1.out)
 replace HS1:=hid (HS1.out.below hb12)
 replace HB:=hid (keepBelow hb12 HB.out)
 replace HP3:=hid (HP3.out.below hb12)
 replace HP4:=hid (HP4.out.below hb12)
 clear hb11 hb12 HRS HRS2 k0 k1 k2 k3 k4 k5 k6 k7 k8 k9 k10 k11 k12 kf lk
 go_wp2_with fail
 refine (h7begun_calls _).mono ?_
 rintro e w13 ⟨rfl,hb13⟩
 replace HK1:=hid (keepBd hb13 HK1.out)
 replace HS1:=hid (HS1.out.below hb13)
 replace HB:=hid (keepBelow hb13 HB.out)
 replace HP3:=hid (HP3.out.below hb13)
 replace HP4:=hid (HP4.out.below hb13)
 clear hb13
 cases m with
 | true =>
  obtain rfl:n5=1:=HN5.out
  obtain ⟨rfl,hd⟩:=HD.out.2.1 rfl
  have hz:Z≠[]:=HZ.out
  have HZL:=hid (show 0<Z.length by rcases Z with _ | ⟨z,l⟩;exact absurd rfl hz;simp)
  clear hz HD HZ HN5
  rw [show e04 true=0 from rfl]
  go_wp2_with fail
  refine (HCO.out _ HP3.out HP4.out).mono ?_
  rintro e wz ⟨A9,n9,c9,rfl,hs9,-,hb9⟩
  have HB9:=hid (keepBelow hb9 HB.out)
  have hn9:0<n9:=by have h1:=hs9.len;have h2:=HZL.out;omega
  clear hs9 hb9
  go_wp2
  go_returns
  exact ret_bool (by simp) HB9.out
 | false =>
  obtain rfl:n5=0:=HN5.out
  obtain rfl:=HD.out.2.2 rfl
  have hfa:=HD.out.1
  obtain rfl:Z=[]:=HZ.out
  clear HD HZ HN5
  rw [show e04 false=4 from rfl]
  go_wp2_with fail
  refine (HCO.out _ HP3.out HP4.out).mono ?_
  rintro e wz ⟨A9,n9,c9,rfl,hs9,-,hb9⟩
  have HB9:=hid (keepBelow hb9 HB.out)
  obtain rfl:n9=0:=hs9.len
  clear hs9 hb9
  go_wp2
  go_returns
  exact ret_bool (by simp) HB9.out
end
end Go.Proofs.YtodpincpofoiiaaGreat
