/- Parts of a proof: contracts and laws. -/
import Derived.Test.YtokgmcomgflloaaGreatQA06
set_option maxRecDepth 100000
set_option maxHeartbeats 16000000
namespace Go.Proofs.YtokgmcomgflloaaGreat
section
set_option linter.unusedVariables false
set_option linter.unusedSimpArgs false
open Go.RowKit
variable {w0 w w':World}
theorem aL.set_mass {g:Nat} {b:Bd} {A:Option Addr} {n c:Nat} (h:aL w g b A n c) (v:Int):aL (w.setCell ⟨g,6,none⟩ (.int .i64 v)) g { b with mass:=v } A n c:=by
 obtain ⟨k0,k1,k2,k3,k4,k5,k6,k7,k8,k9,k10,k11,k12,kf⟩:=h;exact ⟨by go_simp,by go_simp,by go_simp,by go_simp,by go_simp,by go_simp,by go_simp,by go_simp,by go_simp,by go_simp,by go_simp,by go_simp,by go_simp,fun j=>by rw [World.frozen?_setCell];exact kf j⟩
theorem aL.set_iner {g:Nat} {b:Bd} {A:Option Addr} {n c:Nat} (h:aL w g b A n c) (v:Int):aL (w.setCell ⟨g,7,none⟩ (.int .i64 v)) g { b with iner:=v } A n c:=by
 obtain ⟨k0,k1,k2,k3,k4,k5,k6,k7,k8,k9,k10,k11,k12,kf⟩:=h;exact ⟨by go_simp,by go_simp,by go_simp,by go_simp,by go_simp,by go_simp,by go_simp,by go_simp,by go_simp,by go_simp,by go_simp,by go_simp,by go_simp,fun j=>by rw [World.frozen?_setCell];exact kf j⟩
theorem aL.set_bounce {g:Nat} {b:Bd} {A:Option Addr} {n c:Nat} (h:aL w g b A n c) (v:Int):aL (w.setCell ⟨g,8,none⟩ (.int .i64 v)) g { b with bounce:=v } A n c:=by
 obtain ⟨k0,k1,k2,k3,k4,k5,k6,k7,k8,k9,k10,k11,k12,kf⟩:=h;exact ⟨by go_simp,by go_simp,by go_simp,by go_simp,by go_simp,by go_simp,by go_simp,by go_simp,by go_simp,by go_simp,by go_simp,by go_simp,by go_simp,fun j=>by rw [World.frozen?_setCell];exact kf j⟩
theorem aL.set_rub {g:Nat} {b:Bd} {A:Option Addr} {n c:Nat} (h:aL w g b A n c) (v:Int):aL (w.setCell ⟨g,9,none⟩ (.int .i64 v)) g { b with rub:=v } A n c:=by
 obtain ⟨k0,k1,k2,k3,k4,k5,k6,k7,k8,k9,k10,k11,k12,kf⟩:=h;exact ⟨by go_simp,by go_simp,by go_simp,by go_simp,by go_simp,by go_simp,by go_simp,by go_simp,by go_simp,by go_simp,by go_simp,by go_simp,by go_simp,fun j=>by rw [World.frozen?_setCell];exact kf j⟩
theorem aL.grown {g k:Nat} {b:Bd} {A:Option Addr} {n c:Nat} (h:aL w g b A n c) (hg:w.grownBy w' (some k)) (hne:g≠k):aL w' g b A n c :=
 ⟨(dJ hg hne h.lt).trans h.c0,(dJ hg hne h.lt).trans h.c1,(dJ hg hne h.lt).trans h.c2,(dJ hg hne h.lt).trans h.c3,(dJ hg hne h.lt).trans h.c4,(dJ hg hne h.lt).trans h.c5,(dJ hg hne h.lt).trans h.c6,(dJ hg hne h.lt).trans h.c7,(dJ hg hne h.lt).trans h.c8,(dJ hg hne h.lt).trans h.c9,(dJ hg hne h.lt).trans h.c10,(dJ hg hne h.lt).trans h.c11,(dJ hg hne h.lt).trans h.c12,fun j=>(World.frozen?_of_block (hg.block g h.lt (by intro e;cases e;exact hne rfl))).trans (h.free j)⟩
theorem fD.grown {g k:Nat} (h:fD w g) (hg:w.grownBy w' (some k)) (hne:g≠k):fD w' g :=
 ⟨fun j hj=>by obtain ⟨v,hv⟩:=h.c j hj;exact ⟨v,(dJ hg hne h.lt).trans hv⟩,fun j=>(World.frozen?_of_block (hg.block g h.lt (by intro e;cases e;exact hne rfl))).trans (h.free j)⟩
theorem fC {a b:World} {row:Option Nat} {g o:Nat} {v:Value} (h:a.grownBy b row) (hg:a.heap.size≤g):a.grownBy (b.setCell ⟨g,o,none⟩ v) row :=
 ⟨h.os,h.tape,h.output,by have:=h.size;simp;exact this,fun k hk hn=>(Below.heap_setCell _ _ _ _ (by intro e;first | (have e':g=k:=e;omega) | (have e':k=g:=e;omega))).trans (h.block k hk hn)⟩
theorem iM.set {g k o:Nat} {r:List Int} {v:Value} (h:iM w g r) (hne:g<k):iM (w.setCell ⟨k,o,none⟩ v) g r:=by
 obtain ⟨h1,h2,A,n,c,h3,h4,h5⟩:=h;refine ⟨by simp;exact h1,by rw [World.frozen?_setCell];exact h2,A,n,c,by go_simp,⟨h4.len,h4.cap,h4.big,fun hr=>?_⟩,h5⟩;obtain ⟨b,off,e,hlt,hc⟩:=h4.at_ hr;have hb:=h5 hr b off e;refine ⟨b,off,e,by simp;exact hlt,fun j hj=>?_⟩;have:=hc j hj;go_simp
theorem r9 (x:Int):(x*65536).tdiv 2=x*32768:=by rw [show x*65536=x*32768*2 by omega,Int.mul_tdiv_cancel _ (by omega)]

structure LK (b : Bd) : Prop where
 px : -655360≤b.px∧b.px≤655360
 py : -655360≤b.py∧b.py≤655360
 ang:0≤b.ang∧b.ang≤65535
 zero:b.vx=0∧b.vy=0∧b.spin=0∧b.mass=0∧b.iner=0∧b.bounce=0∧b.rub=0∧b.asleep=false∧b.calm=0

structure jO (b : Bd) : Prop where
 px : -655360≤b.px∧b.px≤655360
 py : -655360≤b.py∧b.py≤655360
 ang:0≤b.ang∧b.ang≤65535
 bounce:0≤b.bounce∧b.bounce≤65536
 rub:0≤b.rub∧b.rub≤65536
 asleep:b.asleep=false
 calm:b.calm=0
 kind:(b.vx=0∧b.vy=0∧b.spin=0∧b.mass=0∧b.iner=0)∨((-327680≤b.vx∧b.vx≤327680)∧(-327680≤b.vy∧b.vy≤327680)∧(-32768≤b.spin∧b.spin≤32768)∧(65536≤b.mass∧b.mass≤524288)∧(65536≤b.iner∧b.iner≤1966080))
def Ky (g:Nat) (w:World) (e:Ending) (w':World):Prop:=∃ b l A n c,e = .returned (dK b A n c)∧jO b∧Made l∧Sl w' A n c l∧(∀ bx off,A=some ⟨bx,off,none⟩→w.heap.size≤bx)∧w.grownBy w' (some g)∧∃ r,iM w' g r
theorem BD (g:Nat) (r:List Int) (w:World) (hT:iM w g r):Calls Tryz.prog 56 #[.pointer (some ⟨g,0,none⟩)] w (Ky g w):=by
 have hgl:=hT.lt;obtain ⟨W,hW⟩:∃ W,W=w.alloc (.cells #[.int .i64 0,.int .i64 0,.int .i64 0,.int .i64 0,.int .i64 0,.int .i64 0,.int .i64 0,.int .i64 0,.int .i64 0,.int .i64 0,.slice none 0 0,.bool false,.int .i64 0] 27):=⟨_,rfl⟩;have HZ0:=hid (show fD W w.heap.size by rw [hW];have:=aL.here w mX none 0 0 27;simp only [mX] at this;exact fD.of this);have HT0:=hid (hT.below (by rw [hW];go_grown:Below w.heap.size w W));have hG0:w.grownBy W (some g):=by rw [hW];exact World.grownBy_alloc _ _ _
 have hsz:W.heap.size=w.heap.size+1:=by rw [hW];simp
 clear hT
 go_enter Tryz.func56,Tryz.ntmps56
 go_wp2_with fail
 rw [← hW];clear hW;refine (Dx g r _ HT0.out).mono ?_;rintro e w0 ⟨A,n,c,rfl,hs,hf,ht,hg⟩;have hnz:w.heap.size≠g:=by omega
 have HZa:=hid (HZ0.out.grown hg hnz);have hGa:=aS hG0 hg;have hsz0:=hg.size;have HML:=hid (Fp r);generalize Af r=l at *
 generalize G7 r=r at *
 have hz0:=HZa.out.lt;obtain ⟨gb,hgbe⟩:∃ gb,gb=w0.heap.size:=⟨_,rfl⟩;obtain ⟨w1,hw1⟩:∃ w1,w1=w0.alloc (.cells #[.int .i64 0,.int .i64 0,.int .i64 0,.int .i64 0,.int .i64 0,.int .i64 0,.int .i64 0,.int .i64 0,.int .i64 0,.int .i64 0,.slice A n c,.bool false,.int .i64 0] 27):=⟨_,rfl⟩;have HK1:=hid (show aL w1 gb mX A n c by rw [hw1,hgbe];have:=aL.here w0 mX A n c 27;simp only [mX] at this ⊢;exact this);have HZ1:=hid (show fD w1 w.heap.size by rw [hw1];exact HZa.out.alloc _);have HS1:=hid (show Sl w1 A n c l by rw [hw1];exact hs.alloc _);have HT1:=hid (show iM w1 g r by rw [hw1];exact ht.below (by go_grown));have hG1:w.grownBy w1 (some g):=by rw [hw1];exact aS hGa (World.grownBy_alloc _ _ _)
 have hne:gb≠g:=by omega
 have hgg:g<gb:=by omega
 have hgb:w.heap.size≤gb:=by omega
 have hgz:w.heap.size<gb:=by omega
 have HLT:Hid (∀ bx off,A=some ⟨bx,off,none⟩→bx<gb∨l=[]):=fun bx off e=>by
   by_cases h:l=[]
   ·exact .inr h
   ·obtain ⟨b',off',e',hc'⟩:=hs.at_ h;rw [e] at e';cases e';rw [hgbe];exact .inl hc'.lt
 have hlne:l≠[]:=by intro h;have:=(xV HML.out).1;rw [h] at this;simp at this
 have HN:Hid (∀ bx off,A=some ⟨bx,off,none⟩→bx≠g):=fun bx off e=>by have:=hf bx off e;omega
 have HNB:Hid (∀ bx off,A=some ⟨bx,off,none⟩→bx≠gb):=fun bx off e=>by rcases HLT.out bx off e with h | h;omega;exact absurd h hlne
 have HNZ:Hid (∀ bx off,A=some ⟨bx,off,none⟩→bx≠w.heap.size):=fun bx off e=>by have:=hf bx off e;omega
 have HNF:Hid (∀ bx off,A=some ⟨bx,off,none⟩→w.heap.size≤bx):=fun bx off e=>by have:=hf bx off e;omega
 go_upto_region 2 with fail
 rw [← hgbe,← hw1];clear hw1 HZ0 HT0 hG0 hs hf ht hg HZa hGa hgbe HLT hlne hsz0 hz0;obtain ⟨b0,hb0⟩:∃ b0,b0=mX:=⟨_,rfl⟩;rw [← hb0] at HK1;have E0:=hid hb0;clear hb0
 go_wp2_with fail
 refine (bV g 41 r (by omega) (by omega) _ HT1.out).mono ?_;rintro e w2 ⟨rfl,ht,hg⟩;have HT2:=hid ht;have HK2:=hid (HK1.out.grown hg hne);have HZ2:=hid (HZ1.out.grown hg hnz);have HS2:=hid (HS1.out.grown hg HN.out);have hG2:=aS hG1 hg;have hb:=dB (r) 41 (by omega);obtain ⟨va,hva⟩:∃ va,va=cK (r) 41:=⟨_,rfl⟩;rw [← hva] at hb ⊢;obtain ⟨va1,va2⟩:=hb;clear ht hg hva HT1 HK1 HZ1 HS1 hG1
 go_wp2_with fail
 refine (bV g 41 r.tail (by omega) (by omega) _ HT2.out).mono ?_;rintro e w3 ⟨rfl,ht,hg⟩;have HT3:=hid ht;have HK3:=hid (HK2.out.grown hg hne);have HZ3:=hid (HZ2.out.grown hg hnz);have HS3:=hid (HS2.out.grown hg HN.out);have hG3:=aS hG2 hg;have hb:=dB (r.tail) 41 (by omega);obtain ⟨vb,hvb⟩:∃ vb,vb=cK (r.tail) 41:=⟨_,rfl⟩;rw [← hvb] at hb ⊢;obtain ⟨vb1,vb2⟩:=hb;clear ht hg hvb HT2 HK2 HZ2 HS2 hG2;have ha1:IntKind.i64.wrap (va-20)=va-20:=IntWalk.i64_in _ (by omega);have ha2:IntKind.i64.wrap ((va-20)*65536)=(va-20)*65536:=IntWalk.i64_in _ (by omega);have ha3:=r9 (va-20);have hb1:IntKind.i64.wrap (vb-20)=vb-20:=IntWalk.i64_in _ (by omega);have hb2:IntKind.i64.wrap ((vb-20)*65536)=(vb-20)*65536:=IntWalk.i64_in _ (by omega);have hb3:=r9 (vb-20);have ha4:IntKind.i64.wrap ((va-20)*32768)=(va-20)*32768:=IntWalk.i64_in _ (by omega);have hb4:IntKind.i64.wrap ((vb-20)*32768)=(vb-20)*32768:=IntWalk.i64_in _ (by omega);obtain ⟨k0,k1,k2,k3,k4,k5,k6,k7,k8,k9,k10,k11,k12,kf⟩:=HK3.out;have hl2:=HK3.out.lt
 go_upto_region 3 with fail
 clear k0 k1 k2 k3 k4 k5 k6 k7 k8 k9 k10 k11 k12 kf hl2;have HK4:=hid ((HK3.out.set_px ((va-20)*32768)).set_py ((vb-20)*32768));have HS4:=hid (Sl.setAt (v:=.int .i64 ((vb-20)*32768)) (o:=1) (Sl.setAt (v:=.int .i64 ((va-20)*32768)) (o:=0) HS3.out HNB.out) HNB.out);have HZ4:=hid ((HZ3.out.set ⟨gb,0,none⟩ (.int .i64 ((va-20)*32768))).set ⟨gb,1,none⟩ (.int .i64 ((vb-20)*32768)));have hG4:=(fC (o:=1) (v:=.int .i64 ((vb-20)*32768)) (fC (o:=0) (v:=.int .i64 ((va-20)*32768)) hG3 hgb) hgb);have HT4:Hid (iM ((w3.setCell ⟨gb,0,none⟩ (.int .i64 ((va-20)*32768))).setCell ⟨gb,1,none⟩ (.int .i64 ((vb-20)*32768))) g (r.tail.tail)):=iM.set (iM.set (HT3.out) hgg) hgg;clear HK3 HS3 HZ3 hG3 HT3;generalize ((w3.setCell ⟨gb,0,none⟩ (.int .i64 ((va-20)*32768))).setCell ⟨gb,1,none⟩ (.int .i64 ((vb-20)*32768)))=w4 at *
 obtain ⟨b1,hb1⟩:∃ b1:Bd,b1={ b0 with px:=(va-20)*32768,py:=(vb-20)*32768 }:=⟨_,rfl⟩;rw [← hb1] at HK4;have Eb1:=hid hb1;clear hb1;clear ha1 ha2 ha3 ha4 hb1 hb2 hb3 hb4
 go_wp2_with fail
 refine (bV g 65536 r.tail.tail (by omega) (by omega) _ HT4.out).mono ?_;rintro e w5 ⟨rfl,ht,hg⟩;have HT5:=hid ht;have HK5:=hid (HK4.out.grown hg hne);have HZ5:=hid (HZ4.out.grown hg hnz);have HS5:=hid (HS4.out.grown hg HN.out);have hG5:=aS hG4 hg;have hb:=dB (r.tail.tail) 65536 (by omega);obtain ⟨vc,hvc⟩:∃ vc,vc=cK (r.tail.tail) 65536:=⟨_,rfl⟩;rw [← hvc] at hb ⊢;obtain ⟨vc1,vc2⟩:=hb;clear ht hg hvc HT4 HK4 HZ4 HS4 hG4;obtain ⟨k0,k1,k2,k3,k4,k5,k6,k7,k8,k9,k10,k11,k12,kf⟩:=HK5.out;have hl2:=HK5.out.lt
 go_upto_region 4 with fail
 clear k0 k1 k2 k3 k4 k5 k6 k7 k8 k9 k10 k11 k12 kf hl2;have HK6:=hid (HK5.out.set_ang (vc));have HS6:=hid (Sl.setAt (v:=.int .i64 (vc)) (o:=4) HS5.out HNB.out);have HZ6:=hid (HZ5.out.set ⟨gb,4,none⟩ (.int .i64 (vc)));have hG6:=(fC (o:=4) (v:=.int .i64 (vc)) hG5 hgb);have HT6:Hid (iM (w5.setCell ⟨gb,4,none⟩ (.int .i64 (vc))) g (r.tail.tail.tail)):=iM.set (HT5.out) hgg;clear HK5 HS5 HZ5 hG5 HT5;generalize (w5.setCell ⟨gb,4,none⟩ (.int .i64 (vc)))=w6 at *
 obtain ⟨b2,hb2⟩:∃ b2:Bd,b2={ b1 with ang:=vc }:=⟨_,rfl⟩;rw [← hb2] at HK6;have Eb2:=hid hb2;clear hb2
 go_wp2_with fail
 refine (bV g 3 r.tail.tail.tail (by omega) (by omega) _ HT6.out).mono ?_;rintro e w7 ⟨rfl,ht,hg⟩;have HT7:=hid ht;have HK7:=hid (HK6.out.grown hg hne);have HZ7:=hid (HZ6.out.grown hg hnz);have HS7:=hid (HS6.out.grown hg HN.out);have hG7:=aS hG6 hg;have hb:=dB (r.tail.tail.tail) 3 (by omega);obtain ⟨vd,hvd⟩:∃ vd,vd=cK (r.tail.tail.tail) 3:=⟨_,rfl⟩;rw [← hvd] at hb ⊢;obtain ⟨vd1,vd2⟩:=hb;clear ht hg hvd HT6 HK6 HZ6 HS6 hG6;have HPR:Hid (LK b2):=by show LK b2;rw [Eb2.out,Eb1.out,E0.out];exact ⟨by dsimp only [mX];omega,by dsimp only [mX];omega,by dsimp only [mX];omega,⟨rfl,rfl,rfl,rfl,rfl,rfl,rfl,rfl,rfl⟩⟩
 have HVC:=hid (And.intro vc1 vc2);clear Eb1 Eb2 E0 va1 va2 vb1 vb2 vc1 vc2
 go_upto_if 24 with fail
 go_cut [] from 25 (fun wx=>∃ bx:Bd,LK bx∧aL wx gb bx A n c∧fD wx w.heap.size∧Sl wx A n c l∧iM wx g (r.tail.tail.tail.tail)∧w.grownBy wx (some g))
 case first =>
  by_cases hd:vd=0
  ·have hdb : (vd == 0) = true := by simp [hd]
   obtain ⟨k0,k1,k2,k3,k4,k5,k6,k7,k8,k9,k10,k11,k12,kf⟩:=HK7.out;have hl2:=HK7.out.lt;clear hd;go_wp2;clear k0 k1 k2 k3 k4 k5 k6 k7 k8 k9 k10 k11 k12 kf hl2
   go_meet
   exact ⟨{ b2 with ang:=0 },⟨HPR.out.px,HPR.out.py,by dsimp only;omega,HPR.out.zero⟩,HK7.out.set_ang 0,HZ7.out.set _ _,Sl.setAt HS7.out HNB.out,iM.set HT7.out hgg,fC hG7 hgb⟩
  ·have hdb : (vd == 0) = false := by simp [hd]
   clear hd;go_wp2
   go_meet
   exact ⟨b2,HPR.out,HK7.out,HZ7.out,HS7.out,HT7.out,hG7⟩
 case rest =>
  obtain ⟨b3,hpr,hk,hz,hs,ht,hg⟩:=hcut;obtain ⟨w8,rfl⟩:∃ wx,wx=wc:=⟨_,rfl⟩;have HK8:=hid hk;have HZ8:=hid hz;have HS8:=hid hs;have HT8:=hid ht;have hG8:=hg;have HP3:=hid hpr;clear hk hz hs ht hg hpr HPR HK7 HZ7 HS7 HT7 hG7
  go_wp2_with fail
  refine (bV g 65537 r.tail.tail.tail.tail (by omega) (by omega) _ HT8.out).mono ?_;rintro e w9 ⟨rfl,ht,hg⟩;have HT9:=hid ht;have HK9:=hid (HK8.out.grown hg hne);have HZ9:=hid (HZ8.out.grown hg hnz);have HS9:=hid (HS8.out.grown hg HN.out);have hG9:=aS hG8 hg;have hb:=dB (r.tail.tail.tail.tail) 65537 (by omega);obtain ⟨ve,hve⟩:∃ ve,ve=cK (r.tail.tail.tail.tail) 65537:=⟨_,rfl⟩;rw [← hve] at hb ⊢;obtain ⟨ve1,ve2⟩:=hb;clear ht hg hve HT8 HK8 HZ8 HS8 hG8
  go_wp2_with fail
  refine (bV g 65537 r.tail.tail.tail.tail.tail (by omega) (by omega) _ HT9.out).mono ?_;rintro e w10 ⟨rfl,ht,hg⟩;have HT10:=hid ht;have HK10:=hid (HK9.out.grown hg hne);have HZ10:=hid (HZ9.out.grown hg hnz);have HS10:=hid (HS9.out.grown hg HN.out);have hG10:=aS hG9 hg;have hb:=dB (r.tail.tail.tail.tail.tail) 65537 (by omega);obtain ⟨vf,hvf⟩:∃ vf,vf=cK (r.tail.tail.tail.tail.tail) 65537:=⟨_,rfl⟩;rw [← hvf] at hb ⊢;obtain ⟨vf1,vf2⟩:=hb;clear ht hg hvf HT9 HK9 HZ9 HS9 hG9;obtain ⟨k0,k1,k2,k3,k4,k5,k6,k7,k8,k9,k10,k11,k12,kf⟩:=HK10.out;have hl2:=HK10.out.lt
  go_upto_region 7 with fail
  clear k0 k1 k2 k3 k4 k5 k6 k7 k8 k9 k10 k11 k12 kf hl2;have HK11:=hid ((HK10.out.set_bounce (ve)).set_rub (vf));have HS11:=hid (Sl.setAt (v:=.int .i64 (vf)) (o:=9) (Sl.setAt (v:=.int .i64 (ve)) (o:=8) HS10.out HNB.out) HNB.out);have HZ11:=hid ((HZ10.out.set ⟨gb,8,none⟩ (.int .i64 (ve))).set ⟨gb,9,none⟩ (.int .i64 (vf)));have hG11:=(fC (o:=9) (v:=.int .i64 (vf)) (fC (o:=8) (v:=.int .i64 (ve)) hG10 hgb) hgb);have HT11:Hid (iM ((w10.setCell ⟨gb,8,none⟩ (.int .i64 (ve))).setCell ⟨gb,9,none⟩ (.int .i64 (vf))) g (r.tail.tail.tail.tail.tail.tail)):=iM.set (iM.set (HT10.out) hgg) hgg;clear HK10 HS10 HZ10 hG10 HT10;generalize ((w10.setCell ⟨gb,8,none⟩ (.int .i64 (ve))).setCell ⟨gb,9,none⟩ (.int .i64 (vf)))=w11 at *
  obtain ⟨b4,hb4⟩:∃ b4:Bd,b4={ b3 with bounce:=ve,rub:=vf }:=⟨_,rfl⟩;rw [← hb4] at HK11;have Eb4:=hid hb4;clear hb4
  go_wp2_with fail
  refine (bV g 4 r.tail.tail.tail.tail.tail.tail (by omega) (by omega) _ HT11.out).mono ?_;rintro e w12 ⟨rfl,ht,hg⟩;have HT12:=hid ht;have HK12:=hid (HK11.out.grown hg hne);have HZ12:=hid (HZ11.out.grown hg hnz);have HS12:=hid (HS11.out.grown hg HN.out);have hG12:=aS hG11 hg;have hb:=dB (r.tail.tail.tail.tail.tail.tail) 4 (by omega);obtain ⟨vg,hvg⟩:∃ vg,vg=cK (r.tail.tail.tail.tail.tail.tail) 4:=⟨_,rfl⟩;rw [← hvg] at hb ⊢;obtain ⟨vg1,vg2⟩:=hb;clear ht hg hvg HT11 HK11 HZ11 HS11 hG11
  by_cases hv:vg=0
  ·have hvb : (vg == 0) = true := by simp [hv]
   clear hv;obtain ⟨k0,k1,k2,k3,k4,k5,k6,k7,k8,k9,k10,k11,k12,kf⟩:=HK12.out;have hl2:=HK12.out.lt;obtain ⟨z0,z1,z2,z3,z4,z5,z6,z7,z8,z9,z10,z11,z12,y0,y1,y2,y3,y4,y5,y6,y7,y8,y9,y10,y11,y12⟩:=HZ12.out.all;have yf:=HZ12.out.free;have hl1:=HZ12.out.lt
   have HMB:Hid (jO b4):=by
    show jO _;obtain ⟨p1,p2,p3,q1,q2,q3,q4,q5,q6,q7,q8,q9⟩:LK b3∧True∧True∧_:=⟨HP3.out,trivial,trivial,HP3.out.zero⟩;rw [Eb4.out];exact ⟨HP3.out.px,HP3.out.py,HP3.out.ang,by dsimp only;omega,by dsimp only;omega,q8,q9,.inl ⟨q1,q2,q3,q4,q5⟩⟩
   go_wp2;refine bodyPost_ret (v:=dK b4 A n c) (by simp [results,Tryz.results56,go_sem,y0,y1,y2,y3,y4,y5,y6,y7,y8,y9,y10,y11,y12,hl1]) rfl ⟨_,_,_,_,_,rfl,HMB.out,HML.out,?_,HNF.out,?_,?_⟩
   ·iterate 13 refine Sl.setAt ?_ HNZ.out
    exact HS12.out
   ·iterate 13 refine fC ?_ (Nat.le_refl _)
    exact hG12
   ·exact ⟨_,iM.set (iM.set (iM.set (iM.set (iM.set (iM.set (iM.set (iM.set (iM.set (iM.set (iM.set (iM.set (iM.set (HT12.out) hgl) hgl) hgl) hgl) hgl) hgl) hgl) hgl) hgl) hgl) hgl) hgl) hgl⟩
  ·have hvb : (vg == 0) = false := by simp [hv]
   clear hv
   go_wp2_with fail
   refine (bV g 21 r.tail.tail.tail.tail.tail.tail.tail (by omega) (by omega) _ HT12.out).mono ?_;rintro e w13 ⟨rfl,ht,hg⟩;have HT13:=hid ht;have HK13:=hid (HK12.out.grown hg hne);have HZ13:=hid (HZ12.out.grown hg hnz);have HS13:=hid (HS12.out.grown hg HN.out);have hG13:=aS hG12 hg;have hb:=dB (r.tail.tail.tail.tail.tail.tail.tail) 21 (by omega);obtain ⟨vh,hvh⟩:∃ vh,vh=cK (r.tail.tail.tail.tail.tail.tail.tail) 21:=⟨_,rfl⟩;rw [← hvh] at hb ⊢;obtain ⟨vh1,vh2⟩:=hb;clear ht hg hvh HT12 HK12 HZ12 HS12 hG12
   go_wp2_with fail
   refine (bV g 21 r.tail.tail.tail.tail.tail.tail.tail.tail (by omega) (by omega) _ HT13.out).mono ?_;rintro e w14 ⟨rfl,ht,hg⟩;have HT14:=hid ht;have HK14:=hid (HK13.out.grown hg hne);have HZ14:=hid (HZ13.out.grown hg hnz);have HS14:=hid (HS13.out.grown hg HN.out);have hG14:=aS hG13 hg;have hb:=dB (r.tail.tail.tail.tail.tail.tail.tail.tail) 21 (by omega);obtain ⟨vi,hvi⟩:∃ vi,vi=cK (r.tail.tail.tail.tail.tail.tail.tail.tail) 21:=⟨_,rfl⟩;rw [← hvi] at hb ⊢;obtain ⟨vi1,vi2⟩:=hb;clear ht hg hvi HT13 HK13 HZ13 HS13 hG13;have hvh1:IntKind.i64.wrap (vh-10)=vh-10:=IntWalk.i64_in _ (by omega);have hvh2:IntKind.i64.wrap ((vh-10)*65536)=(vh-10)*65536:=IntWalk.i64_in _ (by omega);have hvh3:=r9 (vh-10);have hvh4:IntKind.i64.wrap ((vh-10)*32768)=(vh-10)*32768:=IntWalk.i64_in _ (by omega);have hvi1:IntKind.i64.wrap (vi-10)=vi-10:=IntWalk.i64_in _ (by omega);have hvi2:IntKind.i64.wrap ((vi-10)*65536)=(vi-10)*65536:=IntWalk.i64_in _ (by omega);have hvi3:=r9 (vi-10);have hvi4:IntKind.i64.wrap ((vi-10)*32768)=(vi-10)*32768:=IntWalk.i64_in _ (by omega);obtain ⟨k0,k1,k2,k3,k4,k5,k6,k7,k8,k9,k10,k11,k12,kf⟩:=HK14.out;have hl2:=HK14.out.lt
   go_upto_region 10 with fail
   clear k0 k1 k2 k3 k4 k5 k6 k7 k8 k9 k10 k11 k12 kf hl2;have HK15:=hid ((HK14.out.set_vx ((vh-10)*32768)).set_vy ((vi-10)*32768));have HS15:=hid (Sl.setAt (v:=.int .i64 ((vi-10)*32768)) (o:=3) (Sl.setAt (v:=.int .i64 ((vh-10)*32768)) (o:=2) HS14.out HNB.out) HNB.out);have HZ15:=hid ((HZ14.out.set ⟨gb,2,none⟩ (.int .i64 ((vh-10)*32768))).set ⟨gb,3,none⟩ (.int .i64 ((vi-10)*32768)));have hG15:=(fC (o:=3) (v:=.int .i64 ((vi-10)*32768)) (fC (o:=2) (v:=.int .i64 ((vh-10)*32768)) hG14 hgb) hgb);have HT15:Hid (iM ((w14.setCell ⟨gb,2,none⟩ (.int .i64 ((vh-10)*32768))).setCell ⟨gb,3,none⟩ (.int .i64 ((vi-10)*32768))) g (r.tail.tail.tail.tail.tail.tail.tail.tail.tail)):=iM.set (iM.set (HT14.out) hgg) hgg;clear HK14 HS14 HZ14 hG14 HT14;generalize ((w14.setCell ⟨gb,2,none⟩ (.int .i64 ((vh-10)*32768))).setCell ⟨gb,3,none⟩ (.int .i64 ((vi-10)*32768)))=w15 at *
   obtain ⟨b5,hb5⟩:∃ b5:Bd,b5={ b4 with vx:=(vh-10)*32768,vy:=(vi-10)*32768 }:=⟨_,rfl⟩;rw [← hb5] at HK15;have Eb5:=hid hb5;clear hb5
   go_wp2_with fail
   refine (bV g 65536 r.tail.tail.tail.tail.tail.tail.tail.tail.tail (by omega) (by omega) _ HT15.out).mono ?_;rintro e w16 ⟨rfl,ht,hg⟩;have HT16:=hid ht;have HK16:=hid (HK15.out.grown hg hne);have HZ16:=hid (HZ15.out.grown hg hnz);have HS16:=hid (HS15.out.grown hg HN.out);have hG16:=aS hG15 hg;have hb:=dB (r.tail.tail.tail.tail.tail.tail.tail.tail.tail) 65536 (by omega);obtain ⟨vj,hvj⟩:∃ vj,vj=cK (r.tail.tail.tail.tail.tail.tail.tail.tail.tail) 65536:=⟨_,rfl⟩;rw [← hvj] at hb ⊢;obtain ⟨vj1,vj2⟩:=hb;clear ht hg hvj HT15 HK15 HZ15 HS15 hG15;have hj1:IntKind.i64.wrap (vj-32768)=vj-32768:=IntWalk.i64_in _ (by omega);obtain ⟨k0,k1,k2,k3,k4,k5,k6,k7,k8,k9,k10,k11,k12,kf⟩:=HK16.out;have hl2:=HK16.out.lt
   go_upto_region 11 with fail
   clear k0 k1 k2 k3 k4 k5 k6 k7 k8 k9 k10 k11 k12 kf hl2;have HK17:=hid (HK16.out.set_spin (vj-32768));have HS17:=hid (Sl.setAt (v:=.int .i64 (vj-32768)) (o:=5) HS16.out HNB.out);have HZ17:=hid (HZ16.out.set ⟨gb,5,none⟩ (.int .i64 (vj-32768)));have hG17:=(fC (o:=5) (v:=.int .i64 (vj-32768)) hG16 hgb);have HT17:Hid (iM (w16.setCell ⟨gb,5,none⟩ (.int .i64 (vj-32768))) g (r.tail.tail.tail.tail.tail.tail.tail.tail.tail.tail)):=iM.set (HT16.out) hgg;clear HK16 HS16 HZ16 hG16 HT16;generalize (w16.setCell ⟨gb,5,none⟩ (.int .i64 (vj-32768)))=w17 at *
   obtain ⟨b6,hb6⟩:∃ b6:Bd,b6={ b5 with spin:=vj-32768 }:=⟨_,rfl⟩;rw [← hb6] at HK17;have Eb6:=hid hb6;clear hb6
   go_wp2_with fail
   refine (bV g 8 r.tail.tail.tail.tail.tail.tail.tail.tail.tail.tail (by omega) (by omega) _ HT17.out).mono ?_;rintro e w18 ⟨rfl,ht,hg⟩;have HT18:=hid ht;have HK18:=hid (HK17.out.grown hg hne);have HZ18:=hid (HZ17.out.grown hg hnz);have HS18:=hid (HS17.out.grown hg HN.out);have hG18:=aS hG17 hg;have hb:=dB (r.tail.tail.tail.tail.tail.tail.tail.tail.tail.tail) 8 (by omega);obtain ⟨vk,hvk⟩:∃ vk,vk=cK (r.tail.tail.tail.tail.tail.tail.tail.tail.tail.tail) 8:=⟨_,rfl⟩;rw [← hvk] at hb ⊢;obtain ⟨vk1,vk2⟩:=hb;clear ht hg hvk HT17 HK17 HZ17 HS17 hG17;have hk1:IntKind.i64.wrap (1+vk)=1+vk:=IntWalk.i64_in _ (by omega);have hk2:IntKind.i64.wrap ((1+vk)*65536)=(1+vk)*65536:=IntWalk.i64_in _ (by omega);obtain ⟨k0,k1,k2,k3,k4,k5,k6,k7,k8,k9,k10,k11,k12,kf⟩:=HK18.out;have hl2:=HK18.out.lt
   go_upto_region 12 with fail
   clear k0 k1 k2 k3 k4 k5 k6 k7 k8 k9 k10 k11 k12 kf hl2;have HK19:=hid (HK18.out.set_mass ((1+vk)*65536));have HS19:=hid (Sl.setAt (v:=.int .i64 ((1+vk)*65536)) (o:=6) HS18.out HNB.out);have HZ19:=hid (HZ18.out.set ⟨gb,6,none⟩ (.int .i64 ((1+vk)*65536)));have hG19:=(fC (o:=6) (v:=.int .i64 ((1+vk)*65536)) hG18 hgb);have HT19:Hid (iM (w18.setCell ⟨gb,6,none⟩ (.int .i64 ((1+vk)*65536))) g (r.tail.tail.tail.tail.tail.tail.tail.tail.tail.tail.tail)):=iM.set (HT18.out) hgg;clear HK18 HS18 HZ18 hG18 HT18;generalize (w18.setCell ⟨gb,6,none⟩ (.int .i64 ((1+vk)*65536)))=w19 at *
   obtain ⟨b7,hb7⟩:∃ b7:Bd,b7={ b6 with mass:=(1+vk)*65536 }:=⟨_,rfl⟩;rw [← hb7] at HK19;have Eb7:=hid hb7;clear hb7
   go_wp2_with fail
   refine (bV g 30 r.tail.tail.tail.tail.tail.tail.tail.tail.tail.tail.tail (by omega) (by omega) _ HT19.out).mono ?_;rintro e w20 ⟨rfl,ht,hg⟩;have HT20:=hid ht;have HK20:=hid (HK19.out.grown hg hne);have HZ20:=hid (HZ19.out.grown hg hnz);have HS20:=hid (HS19.out.grown hg HN.out);have hG20:=aS hG19 hg;have hb:=dB (r.tail.tail.tail.tail.tail.tail.tail.tail.tail.tail.tail) 30 (by omega);obtain ⟨vl,hvl⟩:∃ vl,vl=cK (r.tail.tail.tail.tail.tail.tail.tail.tail.tail.tail.tail) 30:=⟨_,rfl⟩;rw [← hvl] at hb ⊢;obtain ⟨vl1,vl2⟩:=hb;clear ht hg hvl HT19 HK19 HZ19 HS19 hG19;have hm1:IntKind.i64.wrap (1+vl)=1+vl:=IntWalk.i64_in _ (by omega);have hm2:IntKind.i64.wrap ((1+vl)*65536)=(1+vl)*65536:=IntWalk.i64_in _ (by omega);obtain ⟨k0,k1,k2,k3,k4,k5,k6,k7,k8,k9,k10,k11,k12,kf⟩:=HK20.out;have hl2:=HK20.out.lt
   go_upto_region 13 with fail
   clear k0 k1 k2 k3 k4 k5 k6 k7 k8 k9 k10 k11 k12 kf hl2;have HK21:=hid (HK20.out.set_iner ((1+vl)*65536));have HS21:=hid (Sl.setAt (v:=.int .i64 ((1+vl)*65536)) (o:=7) HS20.out HNB.out);have HZ21:=hid (HZ20.out.set ⟨gb,7,none⟩ (.int .i64 ((1+vl)*65536)));have hG21:=(fC (o:=7) (v:=.int .i64 ((1+vl)*65536)) hG20 hgb);have HT21:Hid (iM (w20.setCell ⟨gb,7,none⟩ (.int .i64 ((1+vl)*65536))) g (r.tail.tail.tail.tail.tail.tail.tail.tail.tail.tail.tail.tail)):=iM.set (HT20.out) hgg;clear HK20 HS20 HZ20 hG20 HT20;generalize (w20.setCell ⟨gb,7,none⟩ (.int .i64 ((1+vl)*65536)))=w21 at *
   obtain ⟨b8,hb8⟩:∃ b8:Bd,b8={ b7 with iner:=(1+vl)*65536 }:=⟨_,rfl⟩;rw [← hb8] at HK21;have Eb8:=hid hb8;clear hb8;obtain ⟨k0,k1,k2,k3,k4,k5,k6,k7,k8,k9,k10,k11,k12,kf⟩:=HK21.out;have hl2:=HK21.out.lt;obtain ⟨z0,z1,z2,z3,z4,z5,z6,z7,z8,z9,z10,z11,z12,y0,y1,y2,y3,y4,y5,y6,y7,y8,y9,y10,y11,y12⟩:=HZ21.out.all;have yf:=HZ21.out.free;have hl1:=HZ21.out.lt
   have HMB:Hid (jO b8):=by
    show jO _;obtain ⟨p1,p2,p3,q1,q2,q3,q4,q5,q6,q7,q8,q9⟩:LK b3∧True∧True∧_:=⟨HP3.out,trivial,trivial,HP3.out.zero⟩;rw [Eb8.out,Eb7.out,Eb6.out,Eb5.out,Eb4.out];exact ⟨HP3.out.px,HP3.out.py,HP3.out.ang,by dsimp only;omega,by dsimp only;omega,q8,q9,.inr ⟨by dsimp only;omega,by dsimp only;omega,by dsimp only;omega,by dsimp only;omega,by dsimp only;omega⟩⟩
   go_wp2;refine bodyPost_ret (v:=dK b8 A n c) (by simp [results,Tryz.results56,go_sem,y0,y1,y2,y3,y4,y5,y6,y7,y8,y9,y10,y11,y12,hl1]) rfl ⟨_,_,_,_,_,rfl,HMB.out,HML.out,?_,HNF.out,?_,?_⟩
   ·iterate 13 refine Sl.setAt ?_ HNZ.out
    exact HS21.out
   ·iterate 13 refine fC ?_ (Nat.le_refl _)
    exact hG21
   ·exact ⟨_,iM.set (iM.set (iM.set (iM.set (iM.set (iM.set (iM.set (iM.set (iM.set (iM.set (iM.set (iM.set (iM.set (HT21.out) hgl) hgl) hgl) hgl) hgl) hgl) hgl) hgl) hgl) hgl) hgl) hgl) hgl⟩
end
end Go.Proofs.YtokgmcomgflloaaGreat
