/- Parts of a proof: contracts and laws. -/
import Derived.Test.YtokgmcomgflloaaGreatQP30
import Derived.Test.YtokgmcomgflloaaGreatQP31
import Derived.Test.YtokgmcomgflloaaGreatQP36
import Derived.Test.YtokgmcomgflloaaGreatQP03
import Derived.Test.YtokgmcomgflloaaGreatQP14
import Derived.Test.YtokgmcomgflloaaGreatQP02
import Derived.BigQuiet
import Derived.BigRegion
import Derived.Deep.DeepCutAuto
import Derived.Test.YtokgmcomgflloaaGreatQP13
import Derived.Test.YtokgmcomgflloaaGreatQP09
import Derived.Test.YtokgmcomgflloaaGreatQP22
import Derived.Test.YtokgmcomgflloaaGreatQP20
import Derived.Test.YtokgmcomgflloaaGreatQP32
set_option maxRecDepth 100000
set_option maxHeartbeats 16000000
namespace Go.Proofs.YtokgmcomgflloaaGreat
section
set_option linter.unusedVariables false
set_option linter.unusedSimpArgs false
open Go.RowKit
variable {w0 w w':World}
def q7:List V:=[(-65536,-65536),(65536,-65536),(65536,65536),(-65536,65536)]
def SB:Bd:=⟨0,327680,0,0,0,0,qV q7 65536,qY q7 65536,0,0,false,0⟩
def Tt:Bd:=⟨0,0,0,0,0,0,0,0,0,0,false,0⟩
theorem Rx:Hu q7 65536=0:=by kernel_rfl
theorem kG.farZ {g k o:Nat} {v:Value} (h:kG w g) (hne:k≠g):kG (w.setCell ⟨k,o,none⟩ v) g :=
 ⟨fun j hj=>by obtain ⟨u,hu⟩:=h.c j hj;exact ⟨u,aZ hne hu⟩,fun j=>by rw [World.frozen?_setCell];exact h.free j⟩
theorem Ju (w:World):Calls Tryz.prog 9 #[.int .i64 0,.int .i64 5,.int .i64 1,.int .i64 1,.bool true] w (LA SB q7 w):=by
 obtain ⟨W,hW⟩:∃ W,W=w.alloc (.cells #[.int .i64 0,.int .i64 0,.int .i64 0,.int .i64 0,.int .i64 0,.int .i64 0,.int .i64 0,.int .i64 0,.int .i64 0,.int .i64 0,.slice none 0 0,.bool false,.int .i64 0] 27):=⟨_,rfl⟩;have HZ:=hid (show kG W w.heap.size by rw [hW];exact kG.of (aW.here w (⟨0,0,0,0,0,0,0,0,0,0,false,0⟩:Bd) none 0 0 _));have hB0:Below w.heap.size w W:=by rw [hW];go_grown
 obtain ⟨gq,hgq⟩:∃ g,g=w.heap.size+1:=⟨_,rfl⟩;have hWs:W.heap.size=gq:=by rw [hW,hgq,World.size_alloc]
 obtain ⟨w1,hw1⟩:∃ x,x=W.alloc (.cells #[.int .i64 (-65536),.int .i64 (-65536),.int .i64 (65536),.int .i64 (-65536),.int .i64 (65536),.int .i64 (65536),.int .i64 (-65536),.int .i64 (65536)] 24):=⟨_,rfl⟩;have hb1:Below W.heap.size W w1:=by rw [hw1];exact (Below.refl _ _).alloc (Nat.le_refl _) _
 have HS1:Hid (Sl w1 (some ⟨gq,0,none⟩) 4 4 q7):=hid (by rw [hw1,← hWs];exact Sl.of4 _ _ _ _ _ _ _ _ (by go_simp) (by go_simp) (by go_simp) (by go_simp) (by go_simp) (by go_simp) (by go_simp) (by go_simp) (by omega) (by omega));obtain ⟨g,hg⟩:∃ g,g=w.heap.size+1+1:=⟨_,rfl⟩;have hw1s:w1.heap.size=g:=by rw [hw1,hg,World.size_alloc,hWs,hgq]
 obtain ⟨w2,hw2⟩:∃ x,x=w1.alloc (.cells #[.int .i64 0,.int .i64 327680,.int .i64 0,.int .i64 0,.int .i64 0,.int .i64 0,.int .i64 0,.int .i64 0,.int .i64 0,.int .i64 0,.slice (some ⟨gq,0,none⟩) 4 4,.bool false,.int .i64 0] 27):=⟨_,rfl⟩;have hb2:Below w1.heap.size w1 w2:=by rw [hw2];exact (Below.refl _ _).alloc (Nat.le_refl _) _
 have HK2:=hid (show aW w2 g (⟨0,327680,0,0,0,0,0,0,0,0,false,0⟩:Bd) (some ⟨gq,0,none⟩) 4 4 by rw [hw2,← hw1s];exact aW.here w1 (⟨0,327680,0,0,0,0,0,0,0,0,false,0⟩:Bd) (some ⟨gq,0,none⟩) 4 4 _);have HS2:=hid (HS1.out.below hb2);have hlw:w.heap.size<gq:=by omega
 have hlq:gq<g:=by omega
 have HZ2:=hid (iF hb2 (iF hb1 HZ.out));have HB2:=hid (aj hb2 (aj hb1 hB0));clear HZ hB0 hb1 hb2 HS1;obtain ⟨mz,hmz⟩:∃ y,y=qV q7 65536:=⟨_,rfl⟩;obtain ⟨iz,hiz⟩:∃ y,y=qY q7 65536:=⟨_,rfl⟩
 have HMO:Hid (∃ p q:Int,Calls Tryz.prog 37 #[.slice (some ⟨gq,0,none⟩) 4 4,.int .i64 65536] w2 (dS (.tuple #[.int .i64 mz,.int .i64 iz,cZ p q,.int .i64 0]) w2)):=hid ⟨_,_,by
  have h:=JG (some ⟨gq,0,none⟩) 4 4 q7 65536 w2 HS2.out (by unfold i64;omega);rw [EL Rx,← hmz,← hiz] at h
  exact h⟩
 obtain ⟨p,q,hmo⟩:=HMO.out;have HMO2:=hid hmo;have HMI:=hid (And.intro hmz hiz);clear hmo hmz hiz HMO;obtain ⟨k0,k1,k2,k3,k4,k5,k6,k7,k8,k9,k10,k11,k12,kf⟩:=HK2.out;have hl2:=HK2.out.lt
 go_enter Tryz.func9,Tryz.ntmps9
 go_upto_region 3 with fail
 rw [← hg,← hgq,← hW,← hw1,← hw2];clear hW hgq hw1 hg hw2 hWs hw1s
 go_wp2_with fail
 refine HMO2.out.mono ?_;rintro e w3 ⟨rfl,hb3⟩;replace HK2:=hid (eD hb3 HK2.out);replace HS2:=hid (HS2.out.below hb3);replace HZ2:=hid (iF hb3 HZ2.out);replace HB2:=hid (aj hb3 HB2.out);clear hb3 HMO2 k0 k1 k2 k3 k4 k5 k6 k7 k8 k9 k10 k11 k12 kf hl2;obtain ⟨k0,k1,k2,k3,k4,k5,k6,k7,k8,k9,k10,k11,k12,kf⟩:=HK2.out;have hl2:=HK2.out.lt;obtain ⟨w4,hw4⟩:∃ x,x=(w3.setCell ⟨g,6,none⟩ (.int .i64 mz)).setCell ⟨g,7,none⟩ (.int .i64 iz):=⟨_,rfl⟩;have HK4:=hid (show aW w4 g (⟨0,327680,0,0,0,0,mz,iz,0,0,false,0⟩:Bd) (some ⟨gq,0,none⟩) 4 4 by rw [hw4];exact ⟨by go_simp,by go_simp,by go_simp,by go_simp,by go_simp,by go_simp,by go_simp,by go_simp,by go_simp,by go_simp,by go_simp,by go_simp,by go_simp,cK (cK kf _ _) _ _⟩);have HO4:Hid (Out (fun k=>k=g) w3 w4):=hid (by rw [hw4];exact ((Out.refl (fun k=>k=g) w3).setCell (p:=⟨g,6,none⟩) (.inr rfl) _).setCell (p:=⟨g,7,none⟩) (.inr rfl) _);have HS4:=hid (HS2.out.outD HO4.out (fun b off e _ q=>by cases e;have q:gq=g:=q;omega));have HZ4:=hid (show kG w4 w.heap.size by rw [hw4];exact (HZ2.out.farZ (by omega)).farZ (by omega));have HB4:Hid (Below w.heap.size w w4):=hid (HO4.out.toBelow HB2.out HB2.out.size (by omega))
 go_upto_region 5 with fail
 rw [← hw4];clear hw4 k0 k1 k2 k3 k4 k5 k6 k7 k8 k9 k10 k11 k12 kf hl2 HK2 HS2 HZ2 HB2 HO4;obtain ⟨z0,z1,z2,z3,z4,z5,z6,z7,z8,z9,z10,z11,z12,y0,y1,y2,y3,y4,y5,y6,y7,y8,y9,y10,y11,y12⟩:=HZ4.out.all;have yf:=HZ4.out.free;obtain ⟨k0,k1,k2,k3,k4,k5,k6,k7,k8,k9,k10,k11,k12,kf⟩:=HK4.out;have hl1:=HZ4.out.lt;have hl2:=HK4.out.lt;have hB:=HB4.out;have hBs:=hB.size;go_wp2;refine bodyPost_ret (v:=gH (⟨0,327680,0,0,0,0,mz,iz,0,0,false,0⟩:Bd) (some ⟨gq,0,none⟩) 4 4) (by simp [results,Tryz.results9,go_sem,y0,y1,y2,y3,y4,y5,y6,y7,y8,y9,y10,y11,y12,hl1,gH]) rfl ⟨some ⟨gq,0,none⟩,4,4,by rw [HMI.out.1,HMI.out.2];rfl,?_,fun b off e=>by cases e;omega,?_⟩
 ·exact HS4.out.setBd (⟨0,327680,0,0,0,0,mz,iz,0,0,false,0⟩:Bd) (fun bx off e h=>by cases e;omega)
 ·go_grown
theorem I9 (w:World):Calls Tryz.prog 9 #[.int .i64 0,.int .i64 0,.int .i64 1,.int .i64 1,.bool false] w (LA Tt q7 w):=by
 obtain ⟨W,hW⟩:∃ W,W=w.alloc (.cells #[.int .i64 0,.int .i64 0,.int .i64 0,.int .i64 0,.int .i64 0,.int .i64 0,.int .i64 0,.int .i64 0,.int .i64 0,.int .i64 0,.slice none 0 0,.bool false,.int .i64 0] 27):=⟨_,rfl⟩;have HZ:=hid (show kG W w.heap.size by rw [hW];exact kG.of (aW.here w (⟨0,0,0,0,0,0,0,0,0,0,false,0⟩:Bd) none 0 0 _));have hB0:Below w.heap.size w W:=by rw [hW];go_grown
 obtain ⟨gq,hgq⟩:∃ g,g=w.heap.size+1:=⟨_,rfl⟩;have hWs:W.heap.size=gq:=by rw [hW,hgq,World.size_alloc]
 obtain ⟨w1,hw1⟩:∃ x,x=W.alloc (.cells #[.int .i64 (-65536),.int .i64 (-65536),.int .i64 (65536),.int .i64 (-65536),.int .i64 (65536),.int .i64 (65536),.int .i64 (-65536),.int .i64 (65536)] 24):=⟨_,rfl⟩;have hb1:Below W.heap.size W w1:=by rw [hw1];exact (Below.refl _ _).alloc (Nat.le_refl _) _
 have HS1:Hid (Sl w1 (some ⟨gq,0,none⟩) 4 4 q7):=hid (by rw [hw1,← hWs];exact Sl.of4 _ _ _ _ _ _ _ _ (by go_simp) (by go_simp) (by go_simp) (by go_simp) (by go_simp) (by go_simp) (by go_simp) (by go_simp) (by omega) (by omega));obtain ⟨g,hg⟩:∃ g,g=w.heap.size+1+1:=⟨_,rfl⟩;have hw1s:w1.heap.size=g:=by rw [hw1,hg,World.size_alloc,hWs,hgq]
 obtain ⟨w2,hw2⟩:∃ x,x=w1.alloc (.cells #[.int .i64 0,.int .i64 0,.int .i64 0,.int .i64 0,.int .i64 0,.int .i64 0,.int .i64 0,.int .i64 0,.int .i64 0,.int .i64 0,.slice (some ⟨gq,0,none⟩) 4 4,.bool false,.int .i64 0] 27):=⟨_,rfl⟩;have hb2:Below w1.heap.size w1 w2:=by rw [hw2];exact (Below.refl _ _).alloc (Nat.le_refl _) _
 have HK2:=hid (show aW w2 g (⟨0,0,0,0,0,0,0,0,0,0,false,0⟩:Bd) (some ⟨gq,0,none⟩) 4 4 by rw [hw2,← hw1s];exact aW.here w1 (⟨0,0,0,0,0,0,0,0,0,0,false,0⟩:Bd) (some ⟨gq,0,none⟩) 4 4 _);have HS2:=hid (HS1.out.below hb2);have hlw:w.heap.size<gq:=by omega
 have hlq:gq<g:=by omega
 have HZ2:=hid (iF hb2 (iF hb1 HZ.out));have HB2:=hid (aj hb2 (aj hb1 hB0));clear HZ hB0 hb1 hb2 HS1;obtain ⟨k0,k1,k2,k3,k4,k5,k6,k7,k8,k9,k10,k11,k12,kf⟩:=HK2.out;have hl2:=HK2.out.lt
 go_enter Tryz.func9,Tryz.ntmps9
 go_upto_region 3 with fail
 rw [← hg,← hgq,← hW,← hw1,← hw2];clear hW hgq hw1 hg hw2 hWs hw1s;have HK4:=HK2;have HS4:=HS2;have HZ4:=HZ2;have HB4:=HB2
 go_upto_region 5 with fail
 clear k0 k1 k2 k3 k4 k5 k6 k7 k8 k9 k10 k11 k12 kf hl2 HK2 HS2 HZ2 HB2;obtain ⟨z0,z1,z2,z3,z4,z5,z6,z7,z8,z9,z10,z11,z12,y0,y1,y2,y3,y4,y5,y6,y7,y8,y9,y10,y11,y12⟩:=HZ4.out.all;have yf:=HZ4.out.free;obtain ⟨k0,k1,k2,k3,k4,k5,k6,k7,k8,k9,k10,k11,k12,kf⟩:=HK4.out;have hl1:=HZ4.out.lt;have hl2:=HK4.out.lt;have hB:=HB4.out;have hBs:=hB.size;go_wp2;refine bodyPost_ret (v:=gH (⟨0,0,0,0,0,0,0,0,0,0,false,0⟩:Bd) (some ⟨gq,0,none⟩) 4 4) (by simp [results,Tryz.results9,go_sem,y0,y1,y2,y3,y4,y5,y6,y7,y8,y9,y10,y11,y12,hl1,gH]) rfl ⟨some ⟨gq,0,none⟩,4,4,rfl,?_,fun b off e=>by cases e;omega,?_⟩
 ·exact HS4.out.setBd (⟨0,0,0,0,0,0,0,0,0,0,false,0⟩:Bd) (fun bx off e h=>by cases e;omega)
 ·go_grown
def R9:Bd:=⟨0,327680,0,-10240,0,0,qV q7 65536,qY q7 65536,0,0,false,0⟩
def N7:Bd:=⟨0,327520,0,-10240,0,0,qV q7 65536,qY q7 65536,0,0,false,0⟩
theorem Tj (A:Option Addr) (n c:Nat) (l:List V):(kW 0 (-655360) 1024 ⟨SB,A,n,c,l⟩).b=R9:=by kernel_rfl
theorem Ro:bG SB q7=0∧bG R9 q7=0:=⟨by kernel_rfl,by kernel_rfl⟩
theorem Tf:moveB R9 q7 (bH 1024 65536)=N7:=by kernel_rfl
theorem SL (A:Option Addr) (n c:Nat) (l:List V):(jA [⟨N7,A,n,c,l⟩] id).map (fun z=>(z.b.py,z.b.vy))=[(327520,-10240)]:=by kernel_rfl
theorem SN (A:Option Addr) (n c:Nat):zI [⟨Tt,A,n,c,q7⟩] (-262144,0) (524288,0) = .tuple #[.int .i64 0,.int .i64 24576,.int .i64 0]:=by kernel_rfl
theorem IY {A:Option Addr} {n c:Nat} {L':List BE} {l:List V} (hS:kM w A n c (jA L' id)) (hm:L'.map dw=[(N7,l)]):n=1∧∃ b off,A=some ⟨b,off,none⟩∧w.cell? ⟨b,off+3,none⟩=some (.int .i64 (-10240)):=by
 obtain ⟨⟨zb,zA,zn,zc,zl⟩,rfl,h1,h2⟩:=vI hm;dsimp only at h1 h2;subst h1;have hr:=SL zA zn zc zl;have hl:(jA [(⟨N7,zA,zn,zc,zl⟩:BE)] id).length=1:=by have:=congrArg List.length hr;simpa using this
 obtain ⟨b,off,e,hc⟩:=hS.sl.at_ (by intro h;rw [h] at hl;cases hl);have h0:0<(jA [(⟨N7,zA,zn,zc,zl⟩:BE)] id).length:=by omega
 obtain ⟨-,-,-,c3,-⟩:=dP hc h0 rfl
 have hz:((jA [(⟨N7,zA,zn,zc,zl⟩:BE)] id)[0].b.py,(jA [(⟨N7,zA,zn,zc,zl⟩:BE)] id)[0].b.vy)=((327520:Int),(-10240:Int)):=by
  have h9:((jA [(⟨N7,zA,zn,zc,zl⟩:BE)] id).map (fun z=>(z.b.py,z.b.vy)))[0]? = some (327520,-10240):=by rw [hr];rfl
  rw [List.getElem?_map,List.getElem?_eq_getElem h0] at h9;exact Option.some.inj h9
 have z2:(jA [(⟨N7,zA,zn,zc,zl⟩:BE)] id)[0].b.vy = -10240:=congrArg Prod.snd hz;rw [z2] at c3;exact ⟨by have:=hS.sl.len;omega,b,off,e,by simpa using c3⟩
theorem yE (w:World):Calls Tryz.prog 12 #[] w (dS (.bool true) w):=by
 have HB1:=hid Ju;have HB2:=hid I9;obtain ⟨bM,hM⟩:∃ b,b=SB:=⟨_,rfl⟩;obtain ⟨bF,hF⟩:∃ b,b=Tt:=⟨_,rfl⟩;obtain ⟨q,hq⟩:∃ q,q=q7:=⟨_,rfl⟩
 have HST:Hid (∀ (w':World) (g:Nat) (A:Option Addr) (n c:Nat),aW w' g bM A n c→Sl w' A n c q→Calls Tryz.prog 13 #[.agg #[.slice (some ⟨g,0,none⟩) 1 1,.slice none 0 0,.slice none 0 0,.int .i64 0,.int .i64 (-655360),.int .i64 1024]] w' (vL [(N7,q)] id [] [] 0 (-655360) 1024 w')):=hid (fun w' g A n c hb hs=>by
  have h:=zZ ⟨bM,A,n,c,q⟩ 0 (-655360) 1024 R9 (kM.one (x:=⟨bM,A,n,c,q⟩) hb hs) (dN.nil kF w') (dN.nil iC w') (by rw [hq,hM];exact Ro.1) SS (by rw [hM];rfl) (by rw [hM];exact Tj A n c q) (by rw [hq];exact Ro.2) (by decide) (of_decide_eq_true (by kernel_rfl));rw [hq] at h ⊢
  rwa [Tf] at h)
 have HCS:Hid (∀ (w':World) (g:Nat) (A:Option Addr) (n c:Nat),aW w' g bF A n c→Sl w' A n c q→Calls Tryz.prog 41 #[.slice (some ⟨g,0,none⟩) 1 1,cZ (-262144) 0,cZ 524288 0] w' (dS (.tuple #[.int .i64 0,.int .i64 24576,.int .i64 0]) w')):=hid (fun w' g A n c hb hs=>by
  have h:=E9 (some ⟨g,0,none⟩) 1 1 [⟨bF,A,n,c,q⟩] (-262144) 0 524288 0 w' (kM.one (x:=⟨bF,A,n,c,q⟩) hb hs);rw [hF,hq] at h
  rwa [SN] at h)
 rw [← hM,← hq] at HB1;rw [← hF,← hq] at HB2;clear hM hF hq
 go_enter Tryz.func12,Tryz.ntmps12
 go_wp2_with fail
 refine (HB1.out _).mono ?_;rintro e w1 ⟨A1,n1,c1,rfl,hs1,hf1,hb1⟩;have HST2:=hid (HST.out (w1.alloc (.cells #[.int .i64 bM.px,.int .i64 bM.py,.int .i64 bM.vx,.int .i64 bM.vy,.int .i64 bM.ang,.int .i64 bM.spin,.int .i64 bM.mass,.int .i64 bM.iner,.int .i64 bM.bounce,.int .i64 bM.rub,.slice A1 n1 c1,.bool bM.asleep,.int .i64 bM.calm] 27)) w1.heap.size A1 n1 c1 (aW.here w1 bM A1 n1 c1 _) (hs1.below Ba));have HB:=hid (aj ((Below.refl _ _).alloc (Nat.le_refl _) (.cells #[.int .i64 bM.px,.int .i64 bM.py,.int .i64 bM.vx,.int .i64 bM.vy,.int .i64 bM.ang,.int .i64 bM.spin,.int .i64 bM.mass,.int .i64 bM.iner,.int .i64 bM.bounce,.int .i64 bM.rub,.slice A1 n1 c1,.bool bM.asleep,.int .i64 bM.calm] 27)) hb1);clear hs1 hf1 hb1 HB1 HST
 go_wp2_with fail
 refine HST2.out.mono ?_;rintro e w2 ⟨A2,n2,c2,Aj,nj,cj,Ac,nc,cc,L',rfl,hs2,hj2,hc2,hm2,hb2⟩;obtain ⟨rfl,b,off,rfl,k3⟩:=IY hs2 hm2;replace HB:=hid (aj hb2 HB.out);have lb:=lt_of_cell k3;obtain ⟨w3,hw3⟩:∃ x,x=w2.alloc (.cells #[.slice (some ⟨b,off,none⟩) 1 c2,.slice Aj nj cj,.slice Ac nc cc,.int .i64 0,.int .i64 (-655360),.int .i64 1024] 33):=⟨_,rfl⟩;obtain ⟨g,hg⟩:∃ g,g=w2.heap.size:=⟨_,rfl⟩;have hb3:Below w2.heap.size w2 w3:=by rw [hw3];exact (Below.refl _ _).alloc (Nat.le_refl _) _
 have z0:w3.cell? ⟨g,0,none⟩=some (.slice (some ⟨b,off,none⟩) 1 c2):=by rw [hw3,hg];go_simp
 replace k3:=keepCell hb3 k3;replace HB:=hid (aj hb3 HB.out);have lg:=lt_of_cell z0;clear hs2 hj2 hc2 hm2 hb2 HST2 hb3 lb
 go_upto_region 2 with fail
 rw [← hw3,← hg];clear hw3 hg
 go_wp2_with fail
 refine (HB2.out _).mono ?_;rintro e w4 ⟨A3,n3,c3,rfl,hs3,hf3,hb4⟩;replace z0:=keepCell hb4 z0;replace k3:=keepCell hb4 k3;have HCS2:=hid (HCS.out (w4.alloc (.cells #[.int .i64 bF.px,.int .i64 bF.py,.int .i64 bF.vx,.int .i64 bF.vy,.int .i64 bF.ang,.int .i64 bF.spin,.int .i64 bF.mass,.int .i64 bF.iner,.int .i64 bF.bounce,.int .i64 bF.rub,.slice A3 n3 c3,.bool bF.asleep,.int .i64 bF.calm] 27)) w4.heap.size A3 n3 c3 (aW.here w4 bF A3 n3 c3 _) (hs3.below Ba));have hb5:Below w4.heap.size w4 (w4.alloc (.cells #[.int .i64 bF.px,.int .i64 bF.py,.int .i64 bF.vx,.int .i64 bF.vy,.int .i64 bF.ang,.int .i64 bF.spin,.int .i64 bF.mass,.int .i64 bF.iner,.int .i64 bF.bounce,.int .i64 bF.rub,.slice A3 n3 c3,.bool bF.asleep,.int .i64 bF.calm] 27)):=(Below.refl _ _).alloc (Nat.le_refl _) _;replace HB:=hid (aj hb5 (aj hb4 HB.out));have z0':=keepCell hb5 z0;have k3':=keepCell hb5 k3;clear hs3 hf3 hb4 hb5 HB2 HCS z0 k3 lg
 go_wp2_with fail
 refine HCS2.out.mono ?_;rintro e w6 ⟨rfl,hb6⟩;have z0:=keepCell hb6 z0';have k3:=keepCell hb6 k3';replace HB:=hid (aj hb6 HB.out);have lb:=lt_of_cell k3;have lg:=lt_of_cell z0;clear hb6 HCS2 z0' k3';go_wp2
 go_returns
 exact bg (by simp) (by have h9:=HB.out;have h8:=h9.size;go_grown)
theorem aW.far {g:Nat} {b:Bd} {A:Option Addr} {n c:Nat} (h:aW w g b A n c) (k o:Nat) (v:Value) (hne:k≠g):aW (w.setCell ⟨k,o,none⟩ v) g b A n c :=
 ⟨aZ hne h.c0,aZ hne h.c1,aZ hne h.c2,aZ hne h.c3,aZ hne h.c4,aZ hne h.c5,aZ hne h.c6,aZ hne h.c7,aZ hne h.c8,aZ hne h.c9,aZ hne h.c10,aZ hne h.c11,aZ hne h.c12,fun j=>by rw [World.frozen?_setCell];exact h.free j⟩
theorem Hw {a M:Int} (h1 : -M≤a) (h2:a≤M):aO a≤M:=by unfold aO;split <;> omega
theorem wP {l:List V} (h:aF 262144 l=true) {i k:Nat} (hi:i<l.length) (hk:k<l.length):uP l i k≤1048576:=by
 have h1:=aA.1 (aD h hi);have h2:=aA.1 (aD h hk);have e1:=Hw (a:=px l k-px l i) (M:=524288) (by omega) (by omega);have e2:=Hw (a:=py l k-py l i) (M:=524288) (by omega) (by omega);unfold uP;omega
theorem Fj {l:List V} (hw:aF 262144 l=true) {i k:Nat} (hi:i<l.length) (hk:k<l.length) (h:k=i∨k=(i+1) % l.length∨16777216≤dH l i ((i+1) % l.length) k):iJ l i k=false:=by
 unfold iJ;refine decide_eq_false ?_;rintro ⟨n1,n2,n3⟩
 rcases h with h | h | h
 ·exact n1 h
 ·exact n2 h
 ·have a1 := wP hw hi (Nat.mod_lt (i + 1) (show 0 < l.length by omega));have a2:=wP hw hi hk;omega
theorem QE {l:List V} (hw:aF 262144 l=true) (h:∀ i,i<l.length→∀ k,k<l.length→(k=i∨k=(i+1) % l.length∨16777216≤dH l i ((i+1) % l.length) k)):oq l=true :=
 Hr fun i hi k hk=>Fj hw hi hk (h i hi k hk)
theorem O6 {w h x:Int} (hw:w=65536∨w=131072∨w=196608∨w=262144) (hh:h=65536∨h=131072∨h=196608∨h=262144) (h1 : -w≤x) (h2:x<w):oq [(-w,-h),(w,-h),(x,h)]=true:=by
 have hp:4294967296≤w*h:=by rcases hw with rfl | rfl | rfl | rfl <;> omega
 refine QE (by simp [aF,aL];omega) ?_;intro i hi k hk;simp only [List.length_cons,List.length_nil] at hi hk
 match i,hi,k,hk with
 | 0,_,0,_=>exact .inl rfl
 | 0,_,1,_=>exact .inr (.inl rfl)
 | 0,_,2,_=>refine .inr (.inr ?_);simp [dH,fQ,px,py];grind
 | 1,_,0,_=>refine .inr (.inr ?_);simp [dH,fQ,px,py];grind
 | 1,_,1,_=>exact .inl rfl
 | 1,_,2,_=>exact .inr (.inl rfl)
 | 2,_,0,_=>exact .inr (.inl (by simp))
 | 2,_,1,_=>refine .inr (.inr ?_);simp [dH,fQ,px,py];grind
 | 2,_,2,_=>exact .inl rfl
theorem LZ {l:List V} (h:Made l):oq l=true:=by
 obtain ⟨a,b,k,x,ha,hb,hk,h1,h2,rfl⟩:=h
 rcases hk with rfl | rfl | rfl | rfl
 ·rw [iP _ _ _ _ (by decide)];rcases ha with rfl | rfl | rfl | rfl <;> rcases hb with rfl | rfl | rfl | rfl <;> decide
 ·exact O6 (by omega) (by omega) h1 h2
 ·rw [iP _ _ _ _ (by decide)];rcases ha with rfl | rfl | rfl | rfl <;> rcases hb with rfl | rfl | rfl | rfl <;> decide
 ·rw [iP _ _ _ _ (by decide)];rcases ha with rfl | rfl | rfl | rfl <;> rcases hb with rfl | rfl | rfl | rfl <;> decide
theorem O9 {w h x:Int} (hw:w=65536∨w=131072∨w=196608∨w=262144) (hh:h=65536∨h=131072∨h=196608∨h=262144) (h1 : -w≤x) (h2:x<w):hasB [(-w,-h),(w,-h),(x,h)] 0 0=true:=by
 refine ze (Eu _ _ _ (by omega) (by omega) (by omega) (by omega) h1 h2) (by decide) ?_;intro i hi;simp only [List.length_cons,List.length_nil] at hi
 match i,hi with
 | 0,_=>rcases hw with rfl | rfl | rfl | rfl <;> rcases hh with rfl | rfl | rfl | rfl <;> simp [uK,fQ,px,py]
 | 1,_=>rcases hw with rfl | rfl | rfl | rfl <;> rcases hh with rfl | rfl | rfl | rfl <;> simp [uK,fQ,px,py] <;> omega
 | 2,_=>rcases hw with rfl | rfl | rfl | rfl <;> rcases hh with rfl | rfl | rfl | rfl <;> simp [uK,fQ,px,py] <;> omega
theorem MC {l:List V} (h:Made l):hasB l 0 0=true:=by
 obtain ⟨a,b,k,x,ha,hb,hk,h1,h2,rfl⟩:=h
 rcases hk with rfl | rfl | rfl | rfl
 ·rw [iP _ _ _ _ (by decide)];rcases ha with rfl | rfl | rfl | rfl <;> rcases hb with rfl | rfl | rfl | rfl <;> decide
 ·exact O9 (by omega) (by omega) h1 h2
 ·rw [iP _ _ _ _ (by decide)];rcases ha with rfl | rfl | rfl | rfl <;> rcases hb with rfl | rfl | rfl | rfl <;> decide
 ·rw [iP _ _ _ _ (by decide)];rcases ha with rfl | rfl | rfl | rfl <;> rcases hb with rfl | rfl | rfl | rfl <;> decide
theorem F4 {l:List V} (h:Made l):fT l=0:=by
 have hw:aF 2097152 l=true:=by
  have:=DZ h;unfold aF at this ⊢;rw [List.all_eq_true] at this ⊢;intro p hp;have:=aA.1 (this p hp);exact aA.2 (by omega)
 unfold fT;rw [if_neg (by simp [FV h]),if_neg (by simp [hw]),if_neg (by simp [LZ h,MC h])]
theorem Jd {b:Bd} (h:nK b):nO b=0:=by
 obtain ⟨hpx,hpy,ang,bo,ru,asl,ca,k⟩:=h;have a1:aL 58982400 b.px b.py=true:=aA.2 (by omega);have a2:aL 268435456 b.vx b.vy=true:=aA.2 (by rcases k with k | k <;> omega);have a3:pF b.spin (-16777216) 16777216=true:=je.2 (by rcases k with k | k <;> omega);have a4:pF b.ang 0 65535=true:=je.2 ang;have a5:pF b.mass 0 1099511627776=true:=je.2 (by rcases k with k | k <;> omega);have a6:pF b.iner 0 1099511627776=true:=je.2 (by rcases k with k | k <;> omega);have a7:pF b.bounce 0 65536=true:=je.2 bo;have a8:pF b.rub 0 65536=true:=je.2 ru;have a9:pF b.calm 0 1000=true:=je.2 (by omega);unfold nO;rw [if_pos (by simp [a1,a2,a3,a4]),if_pos (by simp [a5,a6,a7,a8,a9])]
 rcases k with ⟨k1,k2,k3,k4,k5⟩ | ⟨k1,k2,k3,k4,k5⟩
 ·rw [if_neg (by simp [jh,k1,k2,k3,k4,k5,asl,ca])]
 ·have m1 : (b.mass == 0) = false := by simp; omega
  have m2:(b.iner == 0)=false:=by simp;omega
  rw [if_neg (by simp [m1,m2,asl])]
theorem ND {b:Bd} {l:List V} (h:nK b) (hl:Made l):bG b l=0:=by
 unfold bG;rw [if_neg (by simp [F4 hl])];exact Jd h
theorem Le (r:List Int):∀ k j,j≤k→jV r k≤r.getD j 0:=by
 intro k
 induction k with
 | zero=>intro j hj;rw [show j=0 by omega];exact Int.le_refl _
 | succ k ih =>
  intro j hj;unfold jV SA
  by_cases e:j=k+1
  ·subst e;split <;> omega
  ·have := ih j (by omega)
   split <;> omega
theorem M7 (r:List Int):∀ k j,j≤k→r.getD j 0≤jX r k:=by
 intro k
 induction k with
 | zero=>intro j hj;rw [show j=0 by omega];exact Int.le_refl _
 | succ k ih =>
  intro j hj;unfold jX Sz
  by_cases e:j=k+1
  ·subst e;split <;> omega
  ·have := ih j (by omega)
   split <;> omega
theorem Ik {r:List Int} {j:Nat} (h:j<r.length):vv r≤r.getD j 0:=Le r _ j (by omega)
theorem Hf {r:List Int} {j:Nat} (h:j<r.length):r.getD j 0≤uW r:=M7 r _ j (by omega)

theorem rA (A:Option Addr) (n c:Nat) (l:List V) (w:World) (hS:Sl w A n c l) (h0:0<l.length) :
  Calls Tryz.prog 147 #[.slice A n c] w (dS (.int .i64 (fC l)) w):=by
 have hn:=hS.len;subst hn;have HS:=hid hS;have hbig:l.length≤9223372036854775807:=Nat.le_trans hS.cap hS.big;clear hS
 go_enter Tryz.func147,Tryz.ntmps147
 go_wp2
 go_loopw [3,8] (fun s j wr=>∃ k:Nat,k≤l.length∧j = .int .i64 k∧s = .int .i64 (j5 l k)∧Below w.heap.size w wr) (fun _ j _=>l.length-(intOf j).toNat)
 case atStart=>exact ⟨0,Nat.zero_le _,rfl,rfl,Below.refl _ _⟩
 case round =>
  obtain ⟨k,hk,rfl,rfl,hB⟩:=hrel;obtain ⟨wo,rfl⟩:∃ wo:World,wo=wr:=⟨_,rfl⟩
  by_cases hlt:k<l.length
  ·have hlt' : (k : Int) < (l.length : Int) := by omega
   obtain ⟨b,off,hA,hC⟩:=(HS.out.below hB).at_ (by intro h;rw [h] at h0;simp at h0);subst hA;obtain ⟨m,hm⟩:∃ m,m=j5 l k:=⟨_,rfl⟩;have hml:m<l.length:=by rw [hm];exact jW l k h0 hk
   have hml':(m:Int)<(l.length:Int):=by omega
   have HST:Hid (j5 l (k+1)=if yx l k m then k else m):=by show _=_;rw [j5,← hm]
   rw [← hm];have xk:=hC.x k hlt;have yk:=hC.y k hlt;have xm:=hC.x m hml;have ym:=hC.y m hml;have hbl:=hC.lt;clear hm hC;have HLB:Hid (yx l k m↔(py l k<py l m∨(py l k=py l m∧px l k<px l m))):=Iff.rfl;generalize px l k=x1 at *
   generalize py l k=y1 at *
   generalize px l m=x2 at *
   generalize py l m=y2 at *
   by_cases h1:y1<y2
   ·have HR : Hid (j5 l (k + 1) = k) := by show _ = _; rw [HST.out, if_pos (HLB.out.2 (.inl h1))]
    clear HST HLB
    go_wp2_with fail
    go_quiet (fail)
    go_wp2;go_roundw
    case rel=>exact ⟨k+1,hlt,by go_num,by rw [HR.out],below_drewN' (hB.alloc hB.size _) _⟩
    case measure=>simp [intOf];omega
   ·have h1' : decide (y1 < y2) = false := by simpa using h1
    by_cases h2:y1=y2
    ·have h2' : (y1 == y2) = true := by simp [h2]
     by_cases h3:x1<x2
     ·have HR : Hid (j5 l (k + 1) = k) := by show _ = _; rw [HST.out, if_pos (HLB.out.2 (.inr ⟨h2, h3⟩))]
      clear HST HLB h2
      go_wp2_with fail
      go_quiet (fail)
      go_wp2;go_roundw
      case rel=>exact ⟨k+1,hlt,by go_num,by rw [HR.out],below_drewN' (hB.alloc hB.size _) _⟩
      case measure=>simp [intOf];omega
     ·have HR : Hid (j5 l (k + 1) = m) := by show _ = _; rw [HST.out, if_neg (fun g => by rcases HLB.out.1 g with g | g; exact h1 g; exact h3 g.2)]
      have h3':decide (x1<x2)=false:=by simpa using h3
      clear HST HLB h2
      go_wp2_with fail
      go_quiet (fail)
      go_wp2;go_roundw
      case rel=>exact ⟨k+1,hlt,by go_num,by rw [HR.out],below_drewN' (hB.alloc hB.size _) _⟩
      case measure=>simp [intOf];omega
    ·have h2' : (y1 == y2) = false := by simp [h2]
     have HR:Hid (j5 l (k+1)=m):=by show _=_;rw [HST.out,if_neg (fun g=>by rcases HLB.out.1 g with g | g;exact h1 g;exact h2 g.1)]
     clear HST HLB
     go_wp2_with fail
     go_quiet (fail)
     go_wp2;go_roundw
     case rel=>exact ⟨k+1,hlt,by go_num,by rw [HR.out],below_drewN' (hB.alloc hB.size _) _⟩
     case measure=>simp [intOf];omega
  ·have hke : k = l.length := by omega
   subst hke;rw [show j5 l l.length=fC l from rfl];clear HS;go_wp2
   go_returns
   exact aH rfl hB
theorem iL (a b p q:Int) (ha : -1073741824≤a∧a≤1073741824) (hb : -1073741824≤b∧b≤1073741824) (hp : -1073741824≤p∧p≤1073741824) (hq : -1073741824≤q∧q≤1073741824) (w:World) :
  Calls Tryz.prog 149 #[cZ a b,cZ p q] w (dS (.int .i64 (qO a b p q)) w):=by
 obtain ⟨m1,m2⟩:=Qn ha hb hp hq;have w1:IntKind.i64.wrap (a*q)=a*q:=IntWalk.i64_in _ (by omega);have w2:IntKind.i64.wrap (b*p)=b*p:=IntWalk.i64_in _ (by omega);have w3:IntKind.i64.wrap (a*q-b*p)=a*q-b*p:=IntWalk.i64_in _ (by omega);clear m1 m2
 go_enter Tryz.func149,Tryz.ntmps149
 go_wp2
 go_returns
 exact aH rfl (by go_grown)
theorem gD (A:Option Addr) (n c:Nat) (l:List V) (f x:Nat) (w:World) (hS:Sl w A n c l) (hw:aF 65536000 l=true) (h3:3≤l.length) (h8:l.length≤8) (hf:f<l.length) (hx:x≤l.length) :
  Calls Tryz.prog 148 #[.slice A n c,.int .i64 f,.int .i64 x] w (dS (cZ (mM l f x) (nG l f x)) w):=by
 have hn:=hS.len;subst hn;obtain ⟨b,off,rfl,hC⟩:=hS.at_ (by intro h;subst h;simp at hf);obtain ⟨i,hie⟩:∃ i,i=(f+x) % l.length:=⟨_,rfl⟩;obtain ⟨j,hje⟩:∃ j,j=(f+x+1) % l.length:=⟨_,rfl⟩;have hi:i<l.length:=by rw [hie];exact Nat.mod_lt _ (by omega)
 have hj:j<l.length:=by rw [hje];exact Nat.mod_lt _ (by omega)
 have hii:((f:Int)+x) % (l.length:Int)=(i:Int):=by rw [hie];simp
 have hji:((f:Int)+x+1) % (l.length:Int)=(j:Int):=by rw [hje];simp
 have htm1:((f:Int)+x).tmod (l.length:Int)=(i:Int):=by rw [Int.tmod_eq_emod_of_nonneg (by omega)];exact hii
 have htm2:((f:Int)+x+1).tmod (l.length:Int)=(j:Int):=by rw [Int.tmod_eq_emod_of_nonneg (by omega)];exact hji
 have hii2:(((f:Int)+x) % (l.length:Int)).toNat=i:=by omega
 have hji2:(((f:Int)+x+1) % (l.length:Int)).toNat=j:=by omega
 have hii3:((f:Int)+x) % (l.length:Int)<(l.length:Int):=by omega
 have hji3:((f:Int)+x+1) % (l.length:Int)<(l.length:Int):=by omega
 have hii4:0≤((f:Int)+x) % (l.length:Int):=by omega
 have hji4:0≤((f:Int)+x+1) % (l.length:Int):=by omega
 have hwk0:IntKind.i64.wrap ((f:Int)+x)=(f:Int)+x:=IntWalk.i64_in _ (by omega);have hwk:IntKind.i64.wrap ((f:Int)+x+1)=(f:Int)+x+1:=IntWalk.i64_in _ (by omega);have hl0:¬ l=[]:=by intro h;rw [h] at hi;simp at hi
 have hil:(i:Int)<(l.length:Int):=by omega
 have hjl:(j:Int)<(l.length:Int):=by omega
 obtain ⟨a1,a2,a3,a4⟩:=aA.1 (aD hw hi);obtain ⟨b1,b2,b3,b4⟩:=aA.1 (aD hw hj);obtain ⟨W,hW⟩:∃ W,W=w.alloc (.cells #[.int .i64 0,.int .i64 0] 24):=⟨_,rfl⟩;have HZ0:=hid (show VZ W w.heap.size by rw [hW];exact VZ.here _ _ _ _);have hB0:Below w.heap.size w W:=by rw [hW];go_grown
 have hCW:=hC.below hB0;have xi:=hCW.x i hi;have yi:=hCW.y i hi;have xj:=hCW.x j hj;have yj:=hCW.y j hj;have HN:Hid (mM l f x=px l j-px l i∧nG l f x=py l j-py l i):=by show _∧_;unfold mM nG;rw [← hje,← hie];exact ⟨rfl,rfl⟩
 have u1:IntKind.i64.wrap (px l j-px l i)=px l j-px l i:=IntWalk.i64_in _ (by omega);have u2:IntKind.i64.wrap (py l j-py l i)=py l j-py l i:=IntWalk.i64_in _ (by omega);clear hS hC hje hie hw hCW
 go_enter Tryz.func148,Tryz.ntmps148
 go_upto_region 1 with fail
 rw [← hW];clear hW
 go_cut [7,8] from 9 to 27 (fun t u wx=>∃ gT gU:Nat,t = .pointer (some ⟨gT,0,none⟩)∧u = .pointer (some ⟨gU,0,none⟩)∧wx.cell? ⟨gT,0,none⟩=some (.int .i64 (px l i))∧wx.cell? ⟨gT,1,none⟩=some (.int .i64 (py l i))∧wx.cell? ⟨gU,0,none⟩=some (.int .i64 (px l j))∧wx.cell? ⟨gU,1,none⟩=some (.int .i64 (py l j))∧w.heap.size<gT∧w.heap.size<gU∧VZ wx w.heap.size∧Below w.heap.size w wx)
 case first =>
  refine wp_region_noPanic ?_;refine au (S:=(S3 (fun w'=>w'.cell? ⟨b,off+i*2,none⟩=some (.int .i64 (px l i))∧w'.cell? ⟨b,off+i*2+1,none⟩=some (.int .i64 (py l i))∧w'.cell? ⟨b,off+j*2,none⟩=some (.int .i64 (px l j))∧w'.cell? ⟨b,off+j*2+1,none⟩=some (.int .i64 (py l j))∧VZ w' w.heap.size∧Below w.heap.size w w') (fun w'=>w'.cell? ⟨b,off+j*2,none⟩=some (.int .i64 (px l j))∧w'.cell? ⟨b,off+j*2+1,none⟩=some (.int .i64 (py l j))))) (T:=(fun j=>[0,0,0,0,0,0,0,0,0,0,0,0,0,0,0,0,0,0,0,0,0,1,2].getD j 0)) (by kernel_rfl) (qL ⟨xi,yi,xj,yj,HZ0.out.drew,hB0.drew⟩) (fun hH=>?_);have hWr1:aG (S3 (fun w'=>w'.cell? ⟨b,off+i*2,none⟩=some (.int .i64 (px l i))∧w'.cell? ⟨b,off+i*2+1,none⟩=some (.int .i64 (py l i))∧w'.cell? ⟨b,off+j*2,none⟩=some (.int .i64 (px l j))∧w'.cell? ⟨b,off+j*2+1,none⟩=some (.int .i64 (py l j))∧VZ w' w.heap.size∧Below w.heap.size w w') (fun w'=>w'.cell? ⟨b,off+j*2,none⟩=some (.int .i64 (px l j))∧w'.cell? ⟨b,off+j*2+1,none⟩=some (.int .i64 (py l j)))):=jL (fun _ ⟨q0,q1,q2,q3,q4,q5⟩=>⟨q2,q3⟩);refine dG [(0,9),(1,10),(2,11),(3,12),(4,13),(5,14),(6,15),(7,16),(8,17)] 14 0 0 (L':=?Lr1_1) hWr1 hH ?hyr1_1 ?_
  case hyr1_1=>((iterate 9 apply dF;rfl;kernel_rfl;intro w' hSw;replace hSw:=jf hSw;(try dsimp only at hSw);have q0:=hSw.1;have q1:=hSw.2.1;have q2:=hSw.2.2.1;have q3:=hSw.2.2.2.1;have q4:=hSw.2.2.2.2.1;have q5:=hSw.2.2.2.2.2;(try simp only [sB,sC]);go_simp;(try with_reducible rfl));exact dD)
  simp only [sB,sC];refine dG [(9,18),(10,19),(11,20),(12,21),(13,22),(14,23),(15,24),(16,25),(17,26),(18,27)] 4 1 0 (L':=?Lr1_10) hWr1 hH ?hyr1_10 ?_
  case hyr1_10=>((iterate 10 apply dF;rfl;kernel_rfl;intro w' hSw;replace hSw:=xW hSw;(try dsimp only at hSw);have q2:=hSw.1;have q3:=hSw.2;(try simp only [sB,sC]);go_simp;(try with_reducible rfl));exact dD)
  simp only [sB,sC];refine Ur [19,20] ?_;refine Uc 0 rfl (fun K hK=>?_) ?_
  ·try clear hb
   have hG:=hH;replace hG:=jf hG;(try dsimp only at hG);have q0:=hG.1;have q1:=hG.2.1;have q2:=hG.2.2.1;have q3:=hG.2.2.2.1;have q4:=hG.2.2.2.2.1;have q5:=hG.2.2.2.2.2;go_simp;refine hK.out _ _ ?hsr1_20 (fun hH2=>?hrr1_20)
   case hsr1_20=>exact qL (by have hG:=hH;replace hG:=jf hG;(try dsimp only at hG);have q0:=hG.1;have q1:=hG.2.1;have q2:=hG.2.2.1;have q3:=hG.2.2.2.1;have q4:=hG.2.2.2.2.1;have q5:=hG.2.2.2.2.2;exact ⟨keepCell Ba q0,keepCell Ba q1,keepCell Ba q2,keepCell Ba q3,q4.alloc _,q5.alloc q5.size _⟩)
   clear hK K hH;have hH:=hH2;clear hH2
   try simp only [Act.put,sA,sB,sC]
   have hT:VZ ((W.alloc (.cells #[.int .i64 0,.int .i64 0] 24)).drew) W.heap.size:=VZ.drew (VZ.here _ _ _ _);obtain ⟨gT,hgT⟩:∃ g,g=W.heap.size:=⟨_,rfl⟩;have hlT:w.heap.size<gT∧b<gT:=by rw [hgT];exact ⟨q4.lt,lt_of_cell q0⟩
   rw [← hgT] at hT
   try rw [← hgT]
   clear hgT q0 q1 q2 q3 q4 q5;generalize (W.alloc (.cells #[.int .i64 0,.int .i64 0] 24)).drew=wx19 at *
   refine U1 20 0 rfl (fun K hK=>?_)
   try clear hb
   have hG:=hH;replace hG:=jf hG;(try dsimp only at hG);have q0:=hG.1;have q1:=hG.2.1;have q2:=hG.2.2.1;have q3:=hG.2.2.2.1;have q4:=hG.2.2.2.2.1;have q5:=hG.2.2.2.2.2;have hZT:=VZ.lt hT;go_simp;refine hK.out _ _ ?hsr1_21 (fun hH2=>?hrr1_21)
   case hsr1_21=>exact qL (by have hG:=hH;replace hG:=jf hG;(try dsimp only at hG);have q0:=hG.1;have q1:=hG.2.1;have q2:=hG.2.2.1;have q3:=hG.2.2.2.1;have q4:=hG.2.2.2.2.1;have q5:=hG.2.2.2.2.2;exact ⟨keepCell Ba q0,keepCell Ba q1,keepCell Ba q2,keepCell Ba q3,q4.alloc _,q5.alloc q5.size _⟩)
   clear hK K hH;have hH:=hH2;clear hH2
   try simp only [Act.put,sA,sB,sC]
   have hU:VZ (wx19.alloc (.cells #[.int .i64 0,.int .i64 0] 24)) wx19.heap.size:=VZ.here _ _ _ _;replace hT:=gY ((Below.refl _ _).alloc (Nat.le_refl _) (.cells #[.int .i64 0,.int .i64 0] 24)) hT;obtain ⟨gU,hgU⟩:∃ g,g=wx19.heap.size:=⟨_,rfl⟩;have hlU:w.heap.size<gU∧b<gU∧gT<gU:=by rw [hgU];exact ⟨q4.lt,lt_of_cell q0,hZT⟩
   rw [← hgU] at hU
   try rw [← hgU]
   clear hgU q0 q1 q2 q3 q4 q5;generalize wx19.alloc (.cells #[.int .i64 0,.int .i64 0] 24)=wx20 at *
   refine U1 21 1 rfl (fun K hK=>?_);have hG:=hH;replace hG:=jf hG;(try dsimp only at hG);have q0:=hG.1;have q1:=hG.2.1;have q2:=hG.2.2.1;have q3:=hG.2.2.2.1;have q4:=hG.2.2.2.2.1;have q5:=hG.2.2.2.2.2;have HT:=hid hT;have HU:=hid hU;obtain ⟨⟨z0,z1,y0,y1⟩,yf⟩:=hT;obtain ⟨⟨u0,u1,v0,v1⟩,uf⟩:=hU;have hbT:¬ gT=b:=by omega
   go_simp;refine hK.out _ _ ?hsr1_22 (fun hH2=>?hrr1_22)
   case hsr1_22=>exact xB ⟨by go_simp,by go_simp⟩
   clear hK K hH;have hH:=hH2;clear hH2
   try simp only [Act.put,sA,sB,sC]
   refine U1 22 2 rfl (fun K hK=>?_);go_simp;refine hK.out _ _ ?hsr1_23 (fun hH2=>?hrr1_23)
   case hsr1_23=>exact yS
   clear hK K hH;have hH:=hH2;clear hH2
   try simp only [Act.put,sA,sB,sC]
   refine ak (by kernel_rfl) ?_ _ _;refine NoPanic.normal ?_;have hne:¬ gT=gU:=by omega
   have hne2:¬ gU=gT:=by omega
   go_wp2_with fail
   go_meet
   refine ⟨gT,gU,rfl,rfl,by go_simp,by go_simp,by go_simp,by go_simp,by omega,by omega,(((q4.set _ _).set _ _).set _ _).set _ _,by go_grown⟩
  refine Uc 0 rfl (fun K hK=>?_) ?_
  ·try clear hb
   have hG:=hH;replace hG:=jf hG;(try dsimp only at hG);have q0:=hG.1;have q1:=hG.2.1;have q2:=hG.2.2.1;have q3:=hG.2.2.2.1;have q4:=hG.2.2.2.2.1;have q5:=hG.2.2.2.2.2;go_simp;refine hK.out _ _ ?hsr1_24 (fun hH2=>?hrr1_24)
   case hsr1_24=>exact qL (by have hG:=hH;replace hG:=jf hG;(try dsimp only at hG);have q0:=hG.1;have q1:=hG.2.1;have q2:=hG.2.2.1;have q3:=hG.2.2.2.1;have q4:=hG.2.2.2.2.1;have q5:=hG.2.2.2.2.2;exact ⟨keepCell Ba q0,keepCell Ba q1,keepCell Ba q2,keepCell Ba q3,q4.alloc _,q5.alloc q5.size _⟩)
   clear hK K hH;have hH:=hH2;clear hH2
   try simp only [Act.put,sA,sB,sC]
   have hU:VZ ((W.alloc (.cells #[.int .i64 0,.int .i64 0] 24)).drew) W.heap.size:=VZ.drew (VZ.here _ _ _ _);obtain ⟨gU,hgU⟩:∃ g,g=W.heap.size:=⟨_,rfl⟩;have hlU:w.heap.size<gU∧b<gU:=by rw [hgU];exact ⟨q4.lt,lt_of_cell q0⟩
   rw [← hgU] at hU
   try rw [← hgU]
   clear hgU q0 q1 q2 q3 q4 q5;generalize (W.alloc (.cells #[.int .i64 0,.int .i64 0] 24)).drew=wx20 at *
   refine U1 19 0 rfl (fun K hK=>?_)
   try clear hb
   have hG:=hH;replace hG:=jf hG;(try dsimp only at hG);have q0:=hG.1;have q1:=hG.2.1;have q2:=hG.2.2.1;have q3:=hG.2.2.2.1;have q4:=hG.2.2.2.2.1;have q5:=hG.2.2.2.2.2;have hZU:=VZ.lt hU;go_simp;refine hK.out _ _ ?hsr1_25 (fun hH2=>?hrr1_25)
   case hsr1_25=>exact qL (by have hG:=hH;replace hG:=jf hG;(try dsimp only at hG);have q0:=hG.1;have q1:=hG.2.1;have q2:=hG.2.2.1;have q3:=hG.2.2.2.1;have q4:=hG.2.2.2.2.1;have q5:=hG.2.2.2.2.2;exact ⟨keepCell Ba q0,keepCell Ba q1,keepCell Ba q2,keepCell Ba q3,q4.alloc _,q5.alloc q5.size _⟩)
   clear hK K hH;have hH:=hH2;clear hH2
   try simp only [Act.put,sA,sB,sC]
   have hT:VZ (wx20.alloc (.cells #[.int .i64 0,.int .i64 0] 24)) wx20.heap.size:=VZ.here _ _ _ _;replace hU:=gY ((Below.refl _ _).alloc (Nat.le_refl _) (.cells #[.int .i64 0,.int .i64 0] 24)) hU;obtain ⟨gT,hgT⟩:∃ g,g=wx20.heap.size:=⟨_,rfl⟩;have hlT:w.heap.size<gT∧b<gT∧gU<gT:=by rw [hgT];exact ⟨q4.lt,lt_of_cell q0,hZU⟩
   rw [← hgT] at hT
   try rw [← hgT]
   clear hgT q0 q1 q2 q3 q4 q5;generalize wx20.alloc (.cells #[.int .i64 0,.int .i64 0] 24)=wx19 at *
   refine U1 21 1 rfl (fun K hK=>?_);have hG:=hH;replace hG:=jf hG;(try dsimp only at hG);have q0:=hG.1;have q1:=hG.2.1;have q2:=hG.2.2.1;have q3:=hG.2.2.2.1;have q4:=hG.2.2.2.2.1;have q5:=hG.2.2.2.2.2;have HT:=hid hT;have HU:=hid hU;obtain ⟨⟨z0,z1,y0,y1⟩,yf⟩:=hT;obtain ⟨⟨u0,u1,v0,v1⟩,uf⟩:=hU;have hbT:¬ gT=b:=by omega
   go_simp;refine hK.out _ _ ?hsr1_26 (fun hH2=>?hrr1_26)
   case hsr1_26=>exact xB ⟨by go_simp,by go_simp⟩
   clear hK K hH;have hH:=hH2;clear hH2
   try simp only [Act.put,sA,sB,sC]
   refine U1 22 2 rfl (fun K hK=>?_);go_simp;refine hK.out _ _ ?hsr1_27 (fun hH2=>?hrr1_27)
   case hsr1_27=>exact yS
   clear hK K hH;have hH:=hH2;clear hH2
   try simp only [Act.put,sA,sB,sC]
   refine ak (by kernel_rfl) ?_ _ _;refine NoPanic.normal ?_;have hne:¬ gT=gU:=by omega
   have hne2:¬ gU=gT:=by omega
   go_wp2_with fail
   go_meet
   refine ⟨gT,gU,rfl,rfl,by go_simp,by go_simp,by go_simp,by go_simp,by omega,by omega,(((q4.set _ _).set _ _).set _ _).set _ _,by go_grown⟩
  exact dO.nil
 case rest =>
  obtain ⟨gT,gU,rfl,rfl,c0,c1,d0,d1,hg1,hg2,hz,hB⟩:=hcut;obtain ⟨⟨z0,z1,y0,y1⟩,yf⟩:=hz;generalize px l i=x1 at *
  generalize py l i=x2 at *
  generalize px l j=x3 at *
  generalize py l j=x4 at *
  clear HZ0 hB0 xi yi xj yj;go_wp2;refine bodyPost_ret (v:=cZ (x3-x1) (x4-x2)) (by simp [results,Tryz.results148,go_sem,y0,y1]) rfl ⟨by rw [HN.out.1,HN.out.2],by go_grown⟩
end
end Go.Proofs.YtokgmcomgflloaaGreat
