/- The walk of TopPairs. -/
import Derived.Test.YtokgmcomgflloaaGreatQP37
import Derived.Test.YtokgmcomgflloaaGreatQP39
import Derived.Test.YtokgmcomgflloaaGreatQP47
import Derived.Test.YtokgmcomgflloaaGreatQP22
import Derived.Test.YtokgmcomgflloaaGreatQP48
import Derived.Test.YtokgmcomgflloaaGreatQP49
import Derived.Test.YtokgmcomgflloaaGreatQP36
import Derived.Test.YtokgmcomgflloaaGreatQP38
import Derived.Test.YtokgmcomgflloaaGreatQP34
import Derived.Test.YtokgmcomgflloaaGreatQP03
set_option maxRecDepth 100000
set_option maxHeartbeats 16000000
namespace Go.Proofs.YtokgmcomgflloaaGreat
section
set_option linter.unusedVariables false
set_option linter.unusedSimpArgs false
open Go.RowKit
variable {w0 w w':World}
theorem aN.outT {α:Type} {Ly:Lay α} {e:TypeId} {D:Nat→Prop} {w w':World} {B:Nat} {v:Value} {l:List α} (ho:Out D w w') (h:aN Ly e w B v l) (hn:∀ k,v.ownBlock=some k→¬ D k):aN Ly e w' B v l:=by
 obtain ⟨h1,h2 | ⟨g,cap,cur,rfl,hb,hg,rest⟩⟩:=h
 ·exact ⟨h1,.inl h2⟩
 ·exact ⟨h1,.inr ⟨g,cap,cur,rfl,hb,(ho.block g (Array.getElem?_eq_some_iff.1 hg).1 (hn g rfl)).trans hg,rest⟩⟩
theorem dz {A:Option Addr} {n c:Nat} {l:List (Nat × Nat)} (hb:Below w.heap.size w w') (h:dN aJ w A n c l):dN aJ w' A n c l:=h.below hb
theorem Ew (s j k:Value) (gx gy st:Int) (w:World):(Instr.field 33 (.agg #[s,j,k,.int .i64 gx,.int .i64 gy,.int .i64 st]) 0).run Tryz.prog w = .ok s w:=by kernel_rfl

structure LG (w0 : World) (gt : Nat) (B : List Bx) (k i : Nat) (s : Value) (wr : World) : Prop where
 own:aN dn 64 wr w0.heap.size s (B.take k)
 tr:∃ D,xO wr gt D (yD B i)∧∀ j,D j→w0.heap.size≤j∧some j≠s.ownBlock
 bel:Below w0.heap.size w0 wr
theorem LG.keep {gt:Nat} {B:List Bx} {k i:Nat} {s:Value} {wr w':World} (hb:Below wr.heap.size wr w') (h:LG w0 gt B k i s wr):LG w0 gt B k i s w':=by
 obtain ⟨h1,⟨D,h2,h3⟩,h4⟩:=h;exact ⟨h1.below hb,⟨D,xO.below hb h2,h3⟩,aj hb h4⟩
theorem LG.app {gt:Nat} {B:List Bx} {k:Nat} {s s':Value} {wa w':World} {x:Bx} (h:LG w0 gt B k k s wa) (hx:B.take (k+1)=B.take k ++ [x]) (ho:aN dn 64 w' w0.heap.size s' (B.take k ++ [x])) (hg:wa.grownBy w' s.ownBlock) (hat:s'.ownBlock=s.ownBlock∨s'.ownBlock=some wa.heap.size):LG w0 gt B (k+1) k s' w':=by
 obtain ⟨h1,⟨D,h2,h3⟩,h4⟩:=h;refine ⟨by rw [hx];exact ho,⟨D,h2.out (E:=fun j=>some j=s.ownBlock) ⟨hg.os,hg.tape,hg.output,hg.size,fun q hq hn=>hg.block q hq (fun e=>hn e)⟩ (fun j hj=>(h3 j hj).2),fun j hj=>⟨(h3 j hj).1,fun e=>?_⟩⟩,h4.grown hg h4.size (fun q hq=>(h1.lt hq).1)⟩
 rcases hat with q | q
 ·exact (h3 j hj).2 (e.trans q)
 ·rw [q] at e
  cases e
  have:=h2.lt _ hj;omega
theorem LG.put {gt:Nat} {B:List Bx} {k:Nat} {s:Value} {wr:World} (h:LG w0 gt B (k+1) k s wr) (hk:k<B.length) (h256:B.length≤256) (b1 b2 b3 b4:Int) (hx:aV B k=((b1,b2),(b3,b4))) (hv:fJ ((b1,b2),(b3,b4))=true) :
  Calls Tryz.prog 29 #[.pointer (some ⟨gt,0,none⟩),.int .i64 (k:Nat),pJ ((b1,b2),(b3,b4))] wr (fun e w'=>e = .returned (.int .i64 0)∧LG w0 gt B (k+1) (k+1) s w'):=by
 obtain ⟨h1,⟨D,h2,h3⟩,h4⟩:=h;refine (Gn h2 (show k<256 by omega) b1 b2 b3 b4 hv).mono ?_;rintro e w' ⟨rfl,D',hT,ho,hD⟩;rw [← hx,Qh hk] at hT;have hs4:=h4.size;refine ⟨rfl,aN.outT ho h1 (fun q hq e=>(h3 q e).2 hq.symm),⟨D',hT,fun j hj=>?_⟩,ho.toBelowD h4 hs4 (fun q hq=>(h3 q hq).1)⟩
 rcases hD j hj with q | q
 ·exact h3 j q
 ·refine ⟨by omega, fun e => ?_⟩;have:=(h1.lt e.symm).2;omega
theorem yh (A:Option Addr) (n c:Nat) (r:List Int) (w:World) (hS:J5 w A n c r):Calls Tryz.prog 7 #[.slice A n c] w (dS (.bool true) w):=by
 have HSI:=hid hS;clear hS
 go_enter Tryz.func7,Tryz.ntmps7
 go_wp2_with fail
 refine (Dq A n c r _ HSI.out).mono ?_;rintro e w1 ⟨s0,j0,L,J,gy,st,rfl,hok⟩;obtain ⟨A1,n1,c1,rfl,hs1,-⟩:=hok.own.sl;obtain ⟨A8,n8,c8,rfl,-,-⟩:=hok.jown.sl;obtain rfl:n1=L.length:=hs1.len;have HV:=hid (Np (fun x hx=>(hok.co x hx).2));have HBE:Hid (aX L=0):=hid (uo (by have:=hok.len;omega) HV.out);have HL:=hid (show kM w1 A1 L.length c1 L from ⟨hs1,fun x hx=>(hok.co x hx).1⟩);have HB:=hid hok.bel;have hlen:=hok.len;have hcap:=hs1.cap;have hbig:=hs1.big;have hfld:∀ w,(Instr.field 33 (.agg #[.slice A1 L.length c1,.slice A8 n8 c8,.slice none 0 0,.int .i64 0,.int .i64 gy,.int .i64 st]) 0).run Tryz.prog w = .ok (.slice A1 L.length c1) w:=fun w=>Ew _ _ _ _ _ _ w
 clear hok hs1
 go_wp2_with fail
 refine (GV _).mono ?_;rintro e w2 ⟨gt,rfl,hgt,hta,hb2⟩;obtain ⟨B,hB⟩:∃ B,B=L.map bxB:=⟨_,rfl⟩;have hBL:B.length=L.length:=by rw [hB,List.length_map]
 have HTP:Hid (LG w1 gt B 0 0 (.slice none 0 0) w2):=hid ⟨aN.nil _ _ _ _,⟨_,by rw [LK];exact hta,fun j (hj:j=gt)=>⟨by omega,by simp [Value.ownBlock]⟩⟩,hb2⟩;have HBQ:=hid hB;have HBL:=hid hBL;clear hta hb2 hB hBL hgt;go_wp2
 go_loopw [5,23] (fun s j wr=>∃ k:Nat,k≤L.length∧j = .int .i64 k∧Hid (LG w1 gt B k k s wr)) (fun _ j _=>L.length-(intOf j).toNat)
 case atStart=>exact ⟨0,Nat.zero_le _,rfl,HTP⟩
 case round =>
  clear HTP;obtain ⟨k,hk,rfl,HK⟩:=hrel;obtain ⟨wo,rfl⟩:∃ wo:World,wo=wr:=⟨_,rfl⟩
  by_cases hlt:k<L.length
  ·obtain ⟨x, hx⟩ : ∃ x, x = L[k] := ⟨_, rfl⟩;have hlt':(k:Int)<(L.length:Int):=by omega
   have hwk:IntKind.i64.wrap ((k:Int)+1)=(k:Int)+1:=IntWalk.i64_in _ (by omega);have hmem:x ∈ L:=by rw [hx];exact List.getElem_mem hlt
   have HSO:=HL.out.below HK.out.bel;obtain ⟨b,off,hA,hC⟩:=HSO.sl.at_ (by intro h;rw [h] at hlt;simp at hlt);subst hA;obtain ⟨x0,x1,x2,x3,x4,x5,x6,x7,x8,x9,x10,x11,x12⟩:=dP hC hlt hx;have hbl:=hC.lt;have hbk:aV B k=bxB x:=by rw [HBQ.out,hx];exact wZ hlt
   have hvl:fJ (bxB x)=true:=Oh (a:=Qj x) (by have:=(aU (oK (HV.out x hmem))).2.1;show 0<(bT x.b x.l).length;omega)
   have hTK:B.take (k+1)=B.take k ++ [bxB x]:=by
    have e:k<B.length:=by rw [HBL.out];exact hlt
    rw [List.take_succ_eq_append_getElem e]
    congr 2
    rw [← hbk];unfold aV;simp [e]
   have HTL:Hid ((B.take k).length=k∧(B.take (k+1)).length=k+1):=hid ⟨by rw [List.length_take,HBL.out];omega,by rw [List.length_take,HBL.out];omega⟩;obtain ⟨wp,hwp⟩:∃ w',w'=wo.alloc (.cells #[.int .i64 x.b.px,.int .i64 x.b.py,.int .i64 x.b.vx,.int .i64 x.b.vy,.int .i64 x.b.ang,.int .i64 x.b.spin,.int .i64 x.b.mass,.int .i64 x.b.iner,.int .i64 x.b.bounce,.int .i64 x.b.rub,.slice x.A x.n x.c,.bool x.b.asleep,.int .i64 x.b.calm] 27):=⟨_,rfl⟩;obtain ⟨gp,hgp⟩:∃ g,g=wo.heap.size:=⟨_,rfl⟩;have hbp:Below wo.heap.size wo wp:=by rw [hwp];go_grown
   have HP:=hid (HK.out.keep hbp);have HBD:=hid (jO x.b x.A x.n x.c x.l wp ((HSO.co x hmem).below hbp));rw [MK rfl rfl (HV.out x hmem)] at HBD;obtain ⟨⟨⟨z0,z1⟩,z2,z3⟩,hbx⟩:∃ q,bxB x=q:=⟨_,rfl⟩;rw [hbx] at HBD hbk hvl hTK;dsimp only at HBD;have HBK:=hid hbk;have HVL:=hid hvl;have HTK:=hid hTK;have p0:wp.cell? ⟨gp,0,none⟩=some (.int .i64 x.b.px):=by rw [hwp,hgp];go_simp
   have p1:wp.cell? ⟨gp,1,none⟩=some (.int .i64 x.b.py):=by rw [hwp,hgp];go_simp
   have p2:wp.cell? ⟨gp,2,none⟩=some (.int .i64 x.b.vx):=by rw [hwp,hgp];go_simp
   have p3:wp.cell? ⟨gp,3,none⟩=some (.int .i64 x.b.vy):=by rw [hwp,hgp];go_simp
   have p4:wp.cell? ⟨gp,4,none⟩=some (.int .i64 x.b.ang):=by rw [hwp,hgp];go_simp
   have p5:wp.cell? ⟨gp,5,none⟩=some (.int .i64 x.b.spin):=by rw [hwp,hgp];go_simp
   have p6:wp.cell? ⟨gp,6,none⟩=some (.int .i64 x.b.mass):=by rw [hwp,hgp];go_simp
   have p7:wp.cell? ⟨gp,7,none⟩=some (.int .i64 x.b.iner):=by rw [hwp,hgp];go_simp
   have p8:wp.cell? ⟨gp,8,none⟩=some (.int .i64 x.b.bounce):=by rw [hwp,hgp];go_simp
   have p9:wp.cell? ⟨gp,9,none⟩=some (.int .i64 x.b.rub):=by rw [hwp,hgp];go_simp
   have p10:wp.cell? ⟨gp,10,none⟩=some (.slice x.A x.n x.c):=by rw [hwp,hgp];go_simp
   have p11:wp.cell? ⟨gp,11,none⟩=some (.bool x.b.asleep):=by rw [hwp,hgp];go_simp
   have p12:wp.cell? ⟨gp,12,none⟩=some (.int .i64 x.b.calm):=by rw [hwp,hgp];go_simp
   clear hC hbp hmem HSO hx hbx HK hbk hvl hTK
   go_upto_region 7 with fail
   rw [← hwp,← hgp];clear hwp hgp x0 x1 x2 x3 x4 x5 x6 x7 x8 x9 x10 x11 x12 hbl
   go_wp2_with fail
   refine HBD.out.mono ?_;rintro e w3 ⟨rfl,hb3⟩;replace HP:=hid (HP.out.keep hb3);clear hb3 HBD p0 p1 p2 p3 p4 p5 p6 p7 p8 p9 p10 p11 p12
   go_wp2_with (at_builtin;refine fq FR rfl _ _ rfl w1.heap.size _ _ rfl (HP.out.own.alloc _) w3.heap.size 0 1 1 [((z0,z1),(z2,z3))] rfl rfl (qz (by go_simp) (by go_simp) (by go_simp) (by go_simp)) (by have:=HTL.out;simp;omega) (by have:=HTL.out;simp;omega) (by have:=HP.out.bel.size;simp;omega) ?_;intro v' w7 ho1 hg1 hat;have HP7:=hid ((HP.out.keep Ba).app HTK.out ho1 hg1 hat);clear ho1 hg1 hat;obtain ⟨A5,n5,c5,rfl,hsl5,-⟩:=HP7.out.own.sl;have hk1:(k:Int)<(n5:Int):=(by have h1:=hsl5.len;have h2:=HTL.out.2;omega);have hk5:k<(B.take (k+1)).length:=(by rw [HTL.out.2];omega);obtain ⟨b5,o5,hA5,hC5⟩:=hsl5.at_ (by intro h;rw [h] at hk5;simp at hk5);subst hA5;have hbk5:aV (B.take (k+1)) k=((z0,z1),(z2,z3)):=(by rw [← HBK.out];unfold aV;simp [List.getD_eq_getElem?_getD,List.getElem?_take]);obtain ⟨d0,d1,d2,d3⟩:=hC5.box hk5;rw [hbk5] at d0 d1 d2 d3;dsimp only at d0 d1 d2 d3;have ld:=lt_of_cell d0;have HPT:=hid (HP7.out.put (by rw [HBL.out];exact hlt) (by rw [HBL.out];omega) z0 z1 z2 z3 HBK.out HVL.out);clear HP HP7 hsl5 hk5 hC5 hbk5)
   refine HPT.out.mono ?_;rintro e w8 ⟨rfl,hn⟩;have HN:=hid hn;clear hn HPT d0 d1 d2 d3 ld;go_wp2;go_roundw
   case rel=>exact ⟨k+1,hlt,by go_num,HN⟩
   case measure=>simp [intOf];omega
  ·have hke : k = L.length := by omega
   subst hke;obtain ⟨A5,n5,c5,rfl,hsl5,-⟩:=HK.out.own.sl;rw [show B.take L.length=B by rw [← HBL.out];exact List.take_length] at hsl5;obtain ⟨D,hT,-⟩:=HK.out.tr;have HT:=hid hT;have HL2:=hid (HL.out.below HK.out.bel);have HBW:=hid (aj HK.out.bel HB.out);have HSP:=hid (mI A5 n5 c5 B wo hsl5 (by rw [HBL.out];omega));clear hsl5 hT HK hlt
   go_wp2_with fail
   refine HSP.out.mono ?_;rintro e w3 ⟨s3,rfl,ho3,hb3⟩;obtain ⟨A6,n6,c6,rfl,hsl6,-⟩:=ho3.sl;have HP6:=hid hsl6;replace HT:=hid (xO.below hb3 HT.out);replace HL2:=hid (HL2.out.below hb3);replace HBW:=hid (aj hb3 HBW.out);clear HSP ho3 hsl6 hb3;have HKP:=hid (qW A1 L.length c1 L _ HL2.out)
   go_wp2_with fail
   refine HKP.out.mono ?_;rintro e w4 ⟨A7,n7,c7,rfl,hsl7,hb4⟩;rw [HBE.out];have HP7:Hid (dN aJ w4 A7 n7 c7 (iU L)):=hid (by have h:=hsl7;unfold zV at h;rw [if_pos HBE.out] at h;exact h);replace HP6:=hid (HP6.out.below hb4);replace HT:=hid (xO.below hb4 HT.out);replace HL2:=hid (HL2.out.below hb4);replace HBW:=hid (aj hb4 HBW.out);clear HKP hsl7 hb4
   go_wp2_with fail
   refine (yE _).mono ?_;rintro e w5 ⟨rfl,hb5⟩;replace HP7:=hid (HP7.out.below hb5);replace HP6:=hid (HP6.out.below hb5);replace HT:=hid (xO.below hb5 HT.out);replace HL2:=hid (HL2.out.below hb5);replace HBW:=hid (aj hb5 HBW.out);clear hb5;have HTP:=hid (Aa HT.out);rw [show ji (yD B L.length) dY 256=dM B by rw [← HBL.out,Oo];exact KI (fun i=>rfl) (by rw [HBL.out];omega)] at HTP
   go_wp2_with fail
   refine HTP.out.mono ?_;rintro e w6 ⟨A9,n9,c9,rfl,hsl9,hb6⟩;replace HP7:=hid (HP7.out.below hb6);replace HP6:=hid (HP6.out.below hb6);replace HL2:=hid (HL2.out.below hb6);replace HBW:=hid (aj hb6 HBW.out);have HEQ:=hid (BK A6 A9 n6 c6 n9 c9 _ _ _ HP6.out hsl9);rw [decide_eq_true rfl] at HEQ;clear HTP HT hsl9 hb6
   go_wp2_with fail
   refine HEQ.out.mono ?_;rintro e w7 ⟨rfl,hb7⟩;replace HP7:=hid (HP7.out.below hb7);replace HP6:=hid (HP6.out.below hb7);replace HL2:=hid (HL2.out.below hb7);replace HBW:=hid (aj hb7 HBW.out);clear HEQ hb7;go_wp2
   go_loopw [64] (fun j wr=>∃ i:Nat,i≤L.length∧j = .int .i64 i∧Hid (Below w7.heap.size w7 wr)) (fun j _=>L.length-(intOf j).toNat)
   case atStart=>exact ⟨0,Nat.zero_le _,rfl,hid (Below.refl _ _)⟩
   case round =>
    obtain ⟨i,hi,rfl,HK⟩:=hrel;obtain ⟨wo,rfl⟩:∃ wo:World,wo=wr:=⟨_,rfl⟩
    by_cases hlt:i<L.length
    ·have hlt' : (i : Int) < (L.length : Int) := by omega
     have hwk:IntKind.i64.wrap ((i:Int)+1)=(i:Int)+1:=IntWalk.i64_in _ (by omega);go_wp2
     go_loopw [12] (fun j wr=>∃ k:Nat,i<k∧k≤L.length∧j = .int .i64 k∧Hid (Below w7.heap.size w7 wr)) (fun j _=>L.length-(intOf j).toNat)
     case atStart=>exact ⟨i+1,by omega,by omega,by go_num,HK⟩
     case round =>
      clear HK;obtain ⟨k,hik,hk,rfl,HK⟩:=hrel;obtain ⟨wi,rfl⟩:∃ wi:World,wi=wr:=⟨_,rfl⟩
      by_cases hlk:k<L.length
      ·have hlk' : (k : Int) < (L.length : Int) := by omega
       have hwk2:IntKind.i64.wrap ((k:Int)+1)=(k:Int)+1:=IntWalk.i64_in _ (by omega);obtain ⟨x,hx⟩:∃ x,x=L[i]:=⟨_,rfl⟩;obtain ⟨y,hy⟩:∃ y,y=L[k]:=⟨_,rfl⟩;have hmx:x ∈ L:=by rw [hx];exact List.getElem_mem hlt
       have hmy:y ∈ L:=by rw [hy];exact List.getElem_mem hlk
       have HSI2:=hid (HL2.out.below HK.out);obtain ⟨bl,off,hA,hC⟩:=HSI2.out.sl.at_ (by intro h;rw [h] at hlt;simp at hlt);subst hA;obtain ⟨p,hp⟩:∃ p,p=Qj x:=⟨_,rfl⟩;obtain ⟨q,hq⟩:∃ q,q=Qj y:=⟨_,rfl⟩;have hcp:aP p=0:=by rw [hp];exact oK (HV.out x hmx)
       have hcq:aP q=0:=by rw [hq];exact oK (HV.out y hmy)
       obtain ⟨m,hm⟩:∃ m,m=sN p q:=⟨_,rfl⟩;obtain ⟨ca,hca⟩:∃ z,z=decide ((i,k) ∈ dM B):=⟨_,rfl⟩;obtain ⟨cp,hcpp⟩:∃ z,z=decide ((i,k) ∈ iU L):=⟨_,rfl⟩;obtain ⟨m1,hm1⟩:∃ z,z=(x.b.mass == 0):=⟨_,rfl⟩;obtain ⟨m2,hm2⟩:∃ z,z=(y.b.mass == 0):=⟨_,rfl⟩
       have HMC:Hid (m=true→ca=true):=hid (fun h=>by
        rw [hca,decide_eq_true_iff,kJ];refine ⟨hik,by show k<B.length;rw [HBL.out];exact hlk,?_⟩;show dY (aV B i) (aV B k)=true;rw [HBQ.out,wZ hlt,wZ hlk,← hx,← hy];have e:=NA hcp hcq (by rw [← hm];exact h);rw [hp,hq] at e
        exact e)
       have HCP:Hid (cp=(ca && !(m1 && m2))):=hid (by
        have e:((i,k) ∈ iU L)↔((i,k) ∈ dM B∧¬ (m1 && m2)=true):=by
         unfold iU;rw [List.mem_filter,← HBQ.out]
         have e2:og L (i,k)=(m1 && m2):=by
          unfold og;rw [rT hlt,rT hlk,← hx,← hy,hm1,hm2];rfl
         rw [e2]
         cases m1 <;> cases m2 <;> simp
        rw [hcpp,hca,Bool.eq_iff_iff];simp only [decide_eq_true_iff,Bool.and_eq_true,e]
        cases m1 <;> cases m2 <;> simp)
       have HCA:Hid (∀ w',dN aJ w' A6 n6 c6 (dM B)→Calls Tryz.prog 36 #[.slice A6 n6 c6,.agg #[.int .i64 (i:Nat),.int .i64 (k:Nat)]] w' (dS (.bool ca) w')):=hid (fun w' h=>by rw [hca];exact tZ A6 n6 c6 _ (i,k) w' h);have HCB:Hid (∀ w',dN aJ w' A7 n7 c7 (iU L)→Calls Tryz.prog 36 #[.slice A7 n7 c7,.agg #[.int .i64 (i:Nat),.int .i64 (k:Nat)]] w' (dS (.bool cp) w')):=hid (fun w' h=>by rw [hcpp];exact tZ A7 n7 c7 _ (i,k) w' h);have HPX:Hid (∀ w',Sl w' x.A x.n x.c x.l→Calls Tryz.prog 35 #[gH x.b x.A x.n x.c] w' (Nl p w')):=hid (fun w' h=>by have:=kH x.b x.A x.n x.c x.l w' h;rw [show jH x.b x.l=p from by unfold jH;rw [if_neg (by simp [HV.out x hmx]),hp];rfl] at this;exact this);have HPY:Hid (∀ w',Sl w' y.A y.n y.c y.l→Calls Tryz.prog 35 #[gH y.b y.A y.n y.c] w' (Nl q w')):=hid (fun w' h=>by have:=kH y.b y.A y.n y.c y.l w' h;rw [show jH y.b y.l=q from by unfold jH;rw [if_neg (by simp [HV.out y hmy]),hq];rfl] at this;exact this);have HNM:Hid (∀ w' A3 n3 c3 A4 n4 c4,Sl w' A3 n3 c3 p→Sl w' A4 n4 c4 q→Calls Tryz.prog 34 #[.slice A3 n3 c3,.slice A4 n4 c4] w' (dS (.tuple #[.bool m,.int .i64 0]) w')):=hid (fun w' A3 n3 c3 A4 n4 c4 h1 h2=>by have:=DU A3 A4 n3 c3 n4 c4 p q w' h1 h2;rw [← hm,GA.2 ⟨hcp,hcq⟩] at this;exact this);have HXI:=hid hx;have HYI:=hid hy;have hsx:=HSI2.out.co x hmx;have hsy:=HSI2.out.co y hmy;obtain ⟨x0,x1,x2,x3,x4,x5,x6,x7,x8,x9,x10,x11,x12⟩:=dP hC hlt hx;obtain ⟨y0,y1,y2,y3,y4,y5,y6,y7,y8,y9,y10,y11,y12⟩:=dP hC hlk hy;obtain ⟨gx,hgx⟩:∃ g,g=wi.heap.size:=⟨_,rfl⟩;obtain ⟨wa,hwa⟩:∃ z,z=wi.alloc (.cells #[.int .i64 (i:Nat),.int .i64 (k:Nat)] 72):=⟨_,rfl⟩;have hba:Below wi.heap.size wi wa:=by rw [hwa];exact (Below.refl _ _).alloc (Nat.le_refl _) _
       have HG0:Hid (wa.cell? ⟨gx,0,none⟩=some (.int .i64 (i:Nat))∧wa.cell? ⟨gx,1,none⟩=some (.int .i64 (k:Nat))):=hid ⟨by rw [hwa,hgx];go_simp,by rw [hwa,hgx];go_simp⟩;have HBA:=hid hba;have HC:=hid (aM.keepS hba hC);have HSX:=hid (dX hba hsx);have HSY:=hid (dX hba hsy);have HKA:=hid (aj hba HK.out);have HP6A:=hid ((HP6.out.below HK.out).below hba);have HP7A:=hid ((HP7.out.below HK.out).below hba);have HBWI:=hid (aj HK.out HBW.out);replace x6:=keepCell hba x6;replace y6:=keepCell hba y6;clear x0 x1 x2 x3 x4 x5 x7 x8 x9 x10 x11 x12 y0 y1 y2 y3 y4 y5 y7 y8 y9 y10 y11 y12;clear hx hy hmx hmy hC hp hq hcp hcq hm hca hcpp hsx hsy hba HSI2 HK
       go_upto_region 22 with fail
       rw [← hgx,← hwa];clear hgx hwa;have lbx:=lt_of_cell x6;have hq1:=hm1.symm;have hq2:=hm2.symm;clear hm1 hm2
       cases m1 with
       | true =>
        go_upto_region 23 with fail
        refine wp_region_noPanic ?_;refine au (S:=(S2 (fun w'=>aM jc w' bl off L∧aM jc w' bl off L∧Sl w' x.A x.n x.c x.l∧Sl w' y.A y.n y.c y.l∧Bq wa w'))) (T:=(fun _=>0)) (by kernel_rfl) (aK ⟨aM.below (Below.refl _ _).drew HC.out,aM.below (Below.refl _ _).drew HC.out,dX (Below.refl _ _).drew HSX.out,dX (Below.refl _ _).drew HSY.out,⟨(Below.refl _ _).drew⟩⟩) (fun hH=>?_);have hWr1:aG (S2 (fun w'=>aM jc w' bl off L∧aM jc w' bl off L∧Sl w' x.A x.n x.c x.l∧Sl w' y.A y.n y.c y.l∧Bq wa w')):=aI _;refine dG [(0,93),(1,94),(2,95),(3,96),(5,98),(6,99),(7,100),(8,101)] 8 0 0 (L':=?Lr1_1) hWr1 hH ?yr1_1 ?_
        case yr1_1=>((iterate 8 apply dF;rfl;kernel_rfl;intro w' hSw;replace hSw:=aB hSw;(try dsimp only at hSw);have q0:=hSw.1;have q1:=hSw.2.1;have q2:=hSw.2.2.1;have q3:=hSw.2.2.2.1;have q4:=hSw.2.2.2.2;obtain ⟨qa0_0,qa0_1,qa0_2,qa0_3,qa0_4,qa0_5,qa0_6,qa0_7,qa0_8,qa0_9,qa0_10,qa0_11,qa0_12⟩:=dP (q0) hlt HXI.out;obtain ⟨qa1_0,qa1_1,qa1_2,qa1_3,qa1_4,qa1_5,qa1_6,qa1_7,qa1_8,qa1_9,qa1_10,qa1_11,qa1_12⟩:=dP (q1) hlk HYI.out;(try simp only [sB,sC]);go_simp;(try with_reducible rfl));exact dD)
        simp only [sB,sC];refine U1 4 0 rfl (fun K hK=>?_)
        try clear hb
        have hG:=hH;replace hG:=aB hG;(try dsimp only at hG);have fq0:=hG.1;have fq1:=hG.2.1;have fq2:=hG.2.2.1;have fq3:=hG.2.2.2.1;have fq4:=hG.2.2.2.2;go_simp
        (go_at_call 35;refine (HPX.out _ fq2).mono ?_;rintro e wn ⟨A3,n3,c3,rfl,hp1,-,-,hb⟩)
        refine hK.out _ _ (aK (by have hG:=hH;replace hG:=aB hG;(try dsimp only at hG);have q0:=hG.1;have q1:=hG.2.1;have q2:=hG.2.2.1;have q3:=hG.2.2.2.1;have q4:=hG.2.2.2.2;exact ⟨aM.keepS hb q0,aM.keepS hb q1,dX hb q2,dX hb q3,eU hb q4⟩)) (fun hH2=>?_);clear hK K hH
        rename _=>hH
        try simp only [Act.put,sA,sB,sC]
        clear hG fq0 fq1 fq2 fq3 fq4;refine U1 9 0 rfl (fun K hK=>?_)
        try clear hb
        have hG:=hH;replace hG:=aB hG;(try dsimp only at hG);have fq0:=hG.1;have fq1:=hG.2.1;have fq2:=hG.2.2.1;have fq3:=hG.2.2.2.1;have fq4:=hG.2.2.2.2;go_simp
        (go_at_call 35;refine (HPY.out _ fq3).mono ?_;rintro e wm ⟨A4,n4,c4,rfl,hp2,-,-,hb⟩;replace hp1:=hp1.below hb)
        refine hK.out _ _ (aK (by have hG:=hH;replace hG:=aB hG;(try dsimp only at hG);have q0:=hG.1;have q1:=hG.2.1;have q2:=hG.2.2.1;have q3:=hG.2.2.2.1;have q4:=hG.2.2.2.2;exact ⟨aM.keepS hb q0,aM.keepS hb q1,dX hb q2,dX hb q3,eU hb q4⟩)) (fun hH2=>?_);clear hK K hH
        rename _=>hH
        try simp only [Act.put,sA,sB,sC]
        clear hG fq0 fq1 fq2 fq3 fq4;refine U1 10 0 rfl (fun K hK=>?_)
        try clear hb
        go_simp
        (go_at_call 34;refine (HNM.out _ _ _ _ _ _ _ hp1 hp2).mono ?_;rintro e wk ⟨rfl,hb⟩)
        refine hK.out _ _ (aK (by have hG:=hH;replace hG:=aB hG;(try dsimp only at hG);have q0:=hG.1;have q1:=hG.2.1;have q2:=hG.2.2.1;have q3:=hG.2.2.2.1;have q4:=hG.2.2.2.2;exact ⟨aM.keepS hb q0,aM.keepS hb q1,dX hb q2,dX hb q3,eU hb q4⟩)) (fun hH2=>?_);clear hK K hH
        rename _=>hH
        try simp only [Act.put,sA,sB,sC]
        clear hp1 hp2;refine dG [(11,92),(12,104),(13,105),(14,15),(15,16)] 0 0 0 (L':=?Lr1_12) hWr1 hH ?yr1_12 ?_
        case yr1_12=>((iterate 5 apply dF;rfl;kernel_rfl;intro w' hSw;clear hSw;(try simp only [sB,sC]);go_simp;(try with_reducible rfl));exact dD)
        simp only [sB,sC];refine ak (by kernel_rfl) ?_ _ _;refine NoPanic.normal ?_;replace hH:=aB hH
        (try dsimp only at hH)
        have q0:=hH.1;have q1:=hH.2.1;have q2:=hH.2.2.1;have q3:=hH.2.2.2.1;have q4:=hH.2.2.2.2;have HB2:=hid q4.b;clear q0 q1 q2 q3 q4 hH;have HG1:=hid (And.intro (keepCell HB2.out HG0.out.1) (keepCell HB2.out HG0.out.2));have HQ6:=hid (HP6A.out.below HB2.out);have HQ7:=hid (HP7A.out.below HB2.out);have HK4:=hid (aj HB2.out HKA.out);clear HB2 HG0 HBA HC HSX HSY HKA HP6A HP7A HBWI HPX HPY HNM
        cases ca with
        | false =>
         obtain rfl:m=false:=by
          cases m
          ·rfl
          ·exact absurd (HMC.out rfl) (by simp)
         obtain rfl:cp=false:=by rw [HCP.out];rfl
         clear HMC HCP
         go_upto_region 24 with fail
         refine wp_region_noPanic ?_;refine au (S:=(S2 (fun w'=>w'.cell? ⟨gx,0,none⟩=some (.int .i64 (i:Nat))∧w'.cell? ⟨gx,1,none⟩=some (.int .i64 (k:Nat))∧dN aJ w' A6 n6 c6 (dM B)∧dN aJ w' A7 n7 c7 (iU L)∧Bq w7 w'))) (T:=(fun _=>0)) (by kernel_rfl) (aK ⟨HG1.out.1,HG1.out.2,HQ6.out.drew,HQ7.out.drew,⟨HK4.out.drew⟩⟩) (fun hH=>?_);have hWr2:aG (S2 (fun w'=>w'.cell? ⟨gx,0,none⟩=some (.int .i64 (i:Nat))∧w'.cell? ⟨gx,1,none⟩=some (.int .i64 (k:Nat))∧dN aJ w' A6 n6 c6 (dM B)∧dN aJ w' A7 n7 c7 (iU L)∧Bq w7 w')):=aI _;refine dG [(0,106),(1,107)] 18 0 0 (L':=?Lr2_1) hWr2 hH ?yr2_1 ?_
         case yr2_1=>((iterate 2 apply dF;rfl;kernel_rfl;intro w' hSw;clear hSw;(try simp only [sB,sC]);go_simp;(try with_reducible rfl));exact dD)
         simp only [sB,sC];refine iD (by kernel_rfl) (fun _ _ _ _ h=>h) hWr2 0 0 (by omega) hH [(2,108),(3,109),(4,110),(5,111)] 14 _ _ _ (by kernel_rfl) (by kernel_rfl) ?_;simp only [dV,List.set_cons_zero,List.set_cons_succ];refine dG [(6,112),(7,113),(8,114),(9,115),(11,117),(12,118)] 8 0 0 (L':=?Lr2_3) hWr2 hH ?yr2_3 ?_
         case yr2_3=>((iterate 6 apply dF;rfl;kernel_rfl;intro w' hSw;replace hSw:=aB hSw;(try dsimp only at hSw);have q0:=hSw.1;have q1:=hSw.2.1;have q2:=hSw.2.2.1;have q3:=hSw.2.2.2.1;have q4:=hSw.2.2.2.2;(try simp only [sB,sC]);go_simp;(try with_reducible rfl));exact dD)
         simp only [sB,sC];refine U1 10 0 rfl (fun K hK=>?_)
         try clear hb
         have hG:=hH;replace hG:=aB hG;(try dsimp only at hG);have fq0:=hG.1;have fq1:=hG.2.1;have fq2:=hG.2.2.1;have fq3:=hG.2.2.2.1;have fq4:=hG.2.2.2.2;go_simp
         (go_at_call 36;refine (HCB.out _ fq3).mono ?_;rintro e wn10 ⟨rfl,hb⟩)
         refine hK.out _ _ (aK (by have hG:=hH;replace hG:=aB hG;(try dsimp only at hG);have q0:=hG.1;have q1:=hG.2.1;have q2:=hG.2.2.1;have q3:=hG.2.2.2.1;have q4:=hG.2.2.2.2;exact ⟨keepCell hb q0,keepCell hb q1,dz hb q2,dz hb q3,eU hb q4⟩)) (fun hH2=>?_);clear hK K hH
         rename _=>hH
         try simp only [Act.put,sA,sB,sC]
         clear hG fq0 fq1 fq2 fq3 fq4;refine U1 13 0 rfl (fun K hK=>?_)
         try clear hb
         have hG:=hH;replace hG:=aB hG;(try dsimp only at hG);have fq0:=hG.1;have fq1:=hG.2.1;have fq2:=hG.2.2.1;have fq3:=hG.2.2.2.1;have fq4:=hG.2.2.2.2;go_simp
         (go_at_call 36;refine (HCA.out _ fq2).mono ?_;rintro e wn13 ⟨rfl,hb⟩)
         refine hK.out _ _ (aK (by have hG:=hH;replace hG:=aB hG;(try dsimp only at hG);have q0:=hG.1;have q1:=hG.2.1;have q2:=hG.2.2.1;have q3:=hG.2.2.2.1;have q4:=hG.2.2.2.2;exact ⟨keepCell hb q0,keepCell hb q1,dz hb q2,dz hb q3,eU hb q4⟩)) (fun hH2=>?_);clear hK K hH
         rename _=>hH
         try simp only [Act.put,sA,sB,sC]
         clear hG fq0 fq1 fq2 fq3 fq4;refine Ut 14 120 5 0 0 (v:=?vr2_11) rfl hWr2 hH ?yr2_11 ?_
         case yr2_11=>(intro w' hSw;clear hSw;go_simp;try (with_reducible rfl))
         simp only [sB,sC];refine iD (by kernel_rfl) (fun _ _ _ _ h=>h) hWr2 0 0 (by omega) hH [(15,121),(16,122)] 3 _ _ _ (by kernel_rfl) (by kernel_rfl) ?_;simp only [dV,List.set_cons_zero,List.set_cons_succ];refine dG [(17,123),(18,124),(19,125)] 0 0 0 (L':=?Lr2_12) hWr2 hH ?yr2_12 ?_
         case yr2_12=>((iterate 3 apply dF;rfl;kernel_rfl;intro w' hSw;clear hSw;(try simp only [sB,sC]);go_simp;(try with_reducible rfl));exact dD)
         simp only [sB,sC];refine ak (by kernel_rfl) ?_ _ _;refine NoPanic.normal ?_;replace hH:=aB hH
         (try dsimp only at hH)
         have q0:=hH.1;have q1:=hH.2.1;have q2:=hH.2.2.1;have q3:=hH.2.2.2.1;have q4:=hH.2.2.2.2;have HB4:=hid q4.b;clear q0 q1 q2 q3 q4 hH;clear HK4;go_wp2;go_roundw
         case rel=>exact ⟨k+1,by omega,by omega,by go_num,HB4⟩
         case measure=>simp [intOf];omega
        | true =>
         obtain rfl:cp = !m2:=by rw [HCP.out];rfl
         clear HMC HCP
         cases m with
         | true =>
          go_upto_region 24 with fail
          refine wp_region_noPanic ?_;refine au (S:=(S2 (fun w'=>w'.cell? ⟨gx,0,none⟩=some (.int .i64 (i:Nat))∧w'.cell? ⟨gx,1,none⟩=some (.int .i64 (k:Nat))∧dN aJ w' A6 n6 c6 (dM B)∧dN aJ w' A7 n7 c7 (iU L)∧Bq w7 w'))) (T:=(fun _=>0)) (by kernel_rfl) (aK ⟨HG1.out.1,HG1.out.2,HQ6.out.drew,HQ7.out.drew,⟨HK4.out.drew⟩⟩) (fun hH=>?_);have hWr3:aG (S2 (fun w'=>w'.cell? ⟨gx,0,none⟩=some (.int .i64 (i:Nat))∧w'.cell? ⟨gx,1,none⟩=some (.int .i64 (k:Nat))∧dN aJ w' A6 n6 c6 (dM B)∧dN aJ w' A7 n7 c7 (iU L)∧Bq w7 w')):=aI _;refine dG [(0,106),(1,107),(2,108),(3,109)] 16 0 0 (L':=?Lr3_1) hWr3 hH ?yr3_1 ?_
          case yr3_1=>((iterate 4 apply dF;rfl;kernel_rfl;intro w' hSw;replace hSw:=aB hSw;(try dsimp only at hSw);have q0:=hSw.1;have q1:=hSw.2.1;have q2:=hSw.2.2.1;have q3:=hSw.2.2.2.1;have q4:=hSw.2.2.2.2;(try simp only [sB,sC]);go_simp;(try with_reducible rfl));exact dD)
          simp only [sB,sC];refine U1 4 0 rfl (fun K hK=>?_)
          try clear hb
          have hG:=hH;replace hG:=aB hG;(try dsimp only at hG);have fq0:=hG.1;have fq1:=hG.2.1;have fq2:=hG.2.2.1;have fq3:=hG.2.2.2.1;have fq4:=hG.2.2.2.2;go_simp
          (go_at_call 36;refine (HCA.out _ fq2).mono ?_;rintro e wn4 ⟨rfl,hb⟩)
          refine hK.out _ _ (aK (by have hG:=hH;replace hG:=aB hG;(try dsimp only at hG);have q0:=hG.1;have q1:=hG.2.1;have q2:=hG.2.2.1;have q3:=hG.2.2.2.1;have q4:=hG.2.2.2.2;exact ⟨keepCell hb q0,keepCell hb q1,dz hb q2,dz hb q3,eU hb q4⟩)) (fun hH2=>?_);clear hK K hH
          rename _=>hH
          try simp only [Act.put,sA,sB,sC]
          clear hG fq0 fq1 fq2 fq3 fq4;refine dG [(5,111),(6,112),(7,113),(8,114),(9,115),(11,117),(12,118)] 8 0 0 (L':=?Lr3_6) hWr3 hH ?yr3_6 ?_
          case yr3_6=>((iterate 7 apply dF;rfl;kernel_rfl;intro w' hSw;replace hSw:=aB hSw;(try dsimp only at hSw);have q0:=hSw.1;have q1:=hSw.2.1;have q2:=hSw.2.2.1;have q3:=hSw.2.2.2.1;have q4:=hSw.2.2.2.2;(try simp only [sB,sC]);go_simp;(try with_reducible rfl));exact dD)
          simp only [sB,sC];refine U1 10 0 rfl (fun K hK=>?_)
          try clear hb
          have hG:=hH;replace hG:=aB hG;(try dsimp only at hG);have fq0:=hG.1;have fq1:=hG.2.1;have fq2:=hG.2.2.1;have fq3:=hG.2.2.2.1;have fq4:=hG.2.2.2.2;go_simp
          (go_at_call 36;refine (HCB.out _ fq3).mono ?_;rintro e wn10 ⟨rfl,hb⟩)
          refine hK.out _ _ (aK (by have hG:=hH;replace hG:=aB hG;(try dsimp only at hG);have q0:=hG.1;have q1:=hG.2.1;have q2:=hG.2.2.1;have q3:=hG.2.2.2.1;have q4:=hG.2.2.2.2;exact ⟨keepCell hb q0,keepCell hb q1,dz hb q2,dz hb q3,eU hb q4⟩)) (fun hH2=>?_);clear hK K hH
          rename _=>hH
          try simp only [Act.put,sA,sB,sC]
          clear hG fq0 fq1 fq2 fq3 fq4;refine U1 13 0 rfl (fun K hK=>?_)
          try clear hb
          have hG:=hH;replace hG:=aB hG;(try dsimp only at hG);have fq0:=hG.1;have fq1:=hG.2.1;have fq2:=hG.2.2.1;have fq3:=hG.2.2.2.1;have fq4:=hG.2.2.2.2;go_simp
          (go_at_call 36;refine (HCA.out _ fq2).mono ?_;rintro e wn13 ⟨rfl,hb⟩)
          refine hK.out _ _ (aK (by have hG:=hH;replace hG:=aB hG;(try dsimp only at hG);have q0:=hG.1;have q1:=hG.2.1;have q2:=hG.2.2.1;have q3:=hG.2.2.2.1;have q4:=hG.2.2.2.2;exact ⟨keepCell hb q0,keepCell hb q1,dz hb q2,dz hb q3,eU hb q4⟩)) (fun hH2=>?_);clear hK K hH
          rename _=>hH
          try simp only [Act.put,sA,sB,sC]
          clear hG fq0 fq1 fq2 fq3 fq4;refine dG [(14,120),(15,121),(16,122),(17,123),(18,124),(19,125)] 0 0 0 (L':=?Lr3_15) hWr3 hH ?yr3_15 ?_
          case yr3_15=>((iterate 6 apply dF;rfl;kernel_rfl;intro w' hSw;clear hSw;(try simp only [sB,sC]);go_simp;(try with_reducible rfl));exact dD)
          simp only [sB,sC];refine ak (by kernel_rfl) ?_ _ _;refine NoPanic.normal ?_;replace hH:=aB hH
          (try dsimp only at hH)
          have q0:=hH.1;have q1:=hH.2.1;have q2:=hH.2.2.1;have q3:=hH.2.2.2.1;have q4:=hH.2.2.2.2;have HB4:=hid q4.b;clear q0 q1 q2 q3 q4 hH;clear HK4;go_wp2;go_roundw
          case rel=>exact ⟨k+1,by omega,by omega,by go_num,HB4⟩
          case measure=>simp [intOf];omega
         | false =>
          go_upto_region 24 with fail
          refine wp_region_noPanic ?_;refine au (S:=(S2 (fun w'=>w'.cell? ⟨gx,0,none⟩=some (.int .i64 (i:Nat))∧w'.cell? ⟨gx,1,none⟩=some (.int .i64 (k:Nat))∧dN aJ w' A6 n6 c6 (dM B)∧dN aJ w' A7 n7 c7 (iU L)∧Bq w7 w'))) (T:=(fun _=>0)) (by kernel_rfl) (aK ⟨HG1.out.1,HG1.out.2,HQ6.out.drew,HQ7.out.drew,⟨HK4.out.drew⟩⟩) (fun hH=>?_);have hWr4:aG (S2 (fun w'=>w'.cell? ⟨gx,0,none⟩=some (.int .i64 (i:Nat))∧w'.cell? ⟨gx,1,none⟩=some (.int .i64 (k:Nat))∧dN aJ w' A6 n6 c6 (dM B)∧dN aJ w' A7 n7 c7 (iU L)∧Bq w7 w')):=aI _;refine dG [(0,106),(1,107)] 18 0 0 (L':=?Lr4_1) hWr4 hH ?yr4_1 ?_
          case yr4_1=>((iterate 2 apply dF;rfl;kernel_rfl;intro w' hSw;clear hSw;(try simp only [sB,sC]);go_simp;(try with_reducible rfl));exact dD)
          simp only [sB,sC];refine iD (by kernel_rfl) (fun _ _ _ _ h=>h) hWr4 0 0 (by omega) hH [(2,108),(3,109),(4,110),(5,111)] 14 _ _ _ (by kernel_rfl) (by kernel_rfl) ?_;simp only [dV,List.set_cons_zero,List.set_cons_succ];refine dG [(6,112),(7,113),(8,114),(9,115),(11,117),(12,118)] 8 0 0 (L':=?Lr4_3) hWr4 hH ?yr4_3 ?_
          case yr4_3=>((iterate 6 apply dF;rfl;kernel_rfl;intro w' hSw;replace hSw:=aB hSw;(try dsimp only at hSw);have q0:=hSw.1;have q1:=hSw.2.1;have q2:=hSw.2.2.1;have q3:=hSw.2.2.2.1;have q4:=hSw.2.2.2.2;(try simp only [sB,sC]);go_simp;(try with_reducible rfl));exact dD)
          simp only [sB,sC];refine U1 10 0 rfl (fun K hK=>?_)
          try clear hb
          have hG:=hH;replace hG:=aB hG;(try dsimp only at hG);have fq0:=hG.1;have fq1:=hG.2.1;have fq2:=hG.2.2.1;have fq3:=hG.2.2.2.1;have fq4:=hG.2.2.2.2;go_simp
          (go_at_call 36;refine (HCB.out _ fq3).mono ?_;rintro e wn10 ⟨rfl,hb⟩)
          refine hK.out _ _ (aK (by have hG:=hH;replace hG:=aB hG;(try dsimp only at hG);have q0:=hG.1;have q1:=hG.2.1;have q2:=hG.2.2.1;have q3:=hG.2.2.2.1;have q4:=hG.2.2.2.2;exact ⟨keepCell hb q0,keepCell hb q1,dz hb q2,dz hb q3,eU hb q4⟩)) (fun hH2=>?_);clear hK K hH
          rename _=>hH
          try simp only [Act.put,sA,sB,sC]
          clear hG fq0 fq1 fq2 fq3 fq4;refine U1 13 0 rfl (fun K hK=>?_)
          try clear hb
          have hG:=hH;replace hG:=aB hG;(try dsimp only at hG);have fq0:=hG.1;have fq1:=hG.2.1;have fq2:=hG.2.2.1;have fq3:=hG.2.2.2.1;have fq4:=hG.2.2.2.2;go_simp
          (go_at_call 36;refine (HCA.out _ fq2).mono ?_;rintro e wn13 ⟨rfl,hb⟩)
          refine hK.out _ _ (aK (by have hG:=hH;replace hG:=aB hG;(try dsimp only at hG);have q0:=hG.1;have q1:=hG.2.1;have q2:=hG.2.2.1;have q3:=hG.2.2.2.1;have q4:=hG.2.2.2.2;exact ⟨keepCell hb q0,keepCell hb q1,dz hb q2,dz hb q3,eU hb q4⟩)) (fun hH2=>?_);clear hK K hH
          rename _=>hH
          try simp only [Act.put,sA,sB,sC]
          clear hG fq0 fq1 fq2 fq3 fq4;refine dG [(14,120),(15,121),(16,122),(17,123),(18,124),(19,125)] 0 0 0 (L':=?Lr4_11) hWr4 hH ?yr4_11 ?_
          case yr4_11=>((iterate 6 apply dF;rfl;kernel_rfl;intro w' hSw;clear hSw;(try simp only [sB,sC]);go_simp;(try with_reducible rfl));exact dD)
          simp only [sB,sC];refine ak (by kernel_rfl) ?_ _ _;refine NoPanic.normal ?_;replace hH:=aB hH
          (try dsimp only at hH)
          have q0:=hH.1;have q1:=hH.2.1;have q2:=hH.2.2.1;have q3:=hH.2.2.2.1;have q4:=hH.2.2.2.2;have HB4:=hid q4.b;clear q0 q1 q2 q3 q4 hH;clear HK4;go_wp2;go_roundw
          case rel=>exact ⟨k+1,by omega,by omega,by go_num,HB4⟩
          case measure=>simp [intOf];omega
       | false =>
        go_upto_region 23 with fail
        refine wp_region_noPanic ?_;refine au (S:=(S2 (fun w'=>aM jc w' bl off L∧aM jc w' bl off L∧Sl w' x.A x.n x.c x.l∧Sl w' y.A y.n y.c y.l∧Bq wa w'))) (T:=(fun _=>0)) (by kernel_rfl) (aK ⟨aM.below (Below.refl _ _).drew HC.out,aM.below (Below.refl _ _).drew HC.out,dX (Below.refl _ _).drew HSX.out,dX (Below.refl _ _).drew HSY.out,⟨(Below.refl _ _).drew⟩⟩) (fun hH=>?_);have hWr5:aG (S2 (fun w'=>aM jc w' bl off L∧aM jc w' bl off L∧Sl w' x.A x.n x.c x.l∧Sl w' y.A y.n y.c y.l∧Bq wa w')):=aI _;refine dG [(0,93),(1,94),(2,95),(3,96),(5,98),(6,99),(7,100),(8,101)] 8 0 0 (L':=?Lr5_1) hWr5 hH ?yr5_1 ?_
        case yr5_1=>((iterate 8 apply dF;rfl;kernel_rfl;intro w' hSw;replace hSw:=aB hSw;(try dsimp only at hSw);have q0:=hSw.1;have q1:=hSw.2.1;have q2:=hSw.2.2.1;have q3:=hSw.2.2.2.1;have q4:=hSw.2.2.2.2;obtain ⟨qa0_0,qa0_1,qa0_2,qa0_3,qa0_4,qa0_5,qa0_6,qa0_7,qa0_8,qa0_9,qa0_10,qa0_11,qa0_12⟩:=dP (q0) hlt HXI.out;obtain ⟨qa1_0,qa1_1,qa1_2,qa1_3,qa1_4,qa1_5,qa1_6,qa1_7,qa1_8,qa1_9,qa1_10,qa1_11,qa1_12⟩:=dP (q1) hlk HYI.out;(try simp only [sB,sC]);go_simp;(try with_reducible rfl));exact dD)
        simp only [sB,sC];refine U1 4 0 rfl (fun K hK=>?_)
        try clear hb
        have hG:=hH;replace hG:=aB hG;(try dsimp only at hG);have fq0:=hG.1;have fq1:=hG.2.1;have fq2:=hG.2.2.1;have fq3:=hG.2.2.2.1;have fq4:=hG.2.2.2.2;go_simp
        (go_at_call 35;refine (HPX.out _ fq2).mono ?_;rintro e wn ⟨A3,n3,c3,rfl,hp1,-,-,hb⟩)
        refine hK.out _ _ (aK (by have hG:=hH;replace hG:=aB hG;(try dsimp only at hG);have q0:=hG.1;have q1:=hG.2.1;have q2:=hG.2.2.1;have q3:=hG.2.2.2.1;have q4:=hG.2.2.2.2;exact ⟨aM.keepS hb q0,aM.keepS hb q1,dX hb q2,dX hb q3,eU hb q4⟩)) (fun hH2=>?_);clear hK K hH
        rename _=>hH
        try simp only [Act.put,sA,sB,sC]
        clear hG fq0 fq1 fq2 fq3 fq4;refine U1 9 0 rfl (fun K hK=>?_)
        try clear hb
        have hG:=hH;replace hG:=aB hG;(try dsimp only at hG);have fq0:=hG.1;have fq1:=hG.2.1;have fq2:=hG.2.2.1;have fq3:=hG.2.2.2.1;have fq4:=hG.2.2.2.2;go_simp
        (go_at_call 35;refine (HPY.out _ fq3).mono ?_;rintro e wm ⟨A4,n4,c4,rfl,hp2,-,-,hb⟩;replace hp1:=hp1.below hb)
        refine hK.out _ _ (aK (by have hG:=hH;replace hG:=aB hG;(try dsimp only at hG);have q0:=hG.1;have q1:=hG.2.1;have q2:=hG.2.2.1;have q3:=hG.2.2.2.1;have q4:=hG.2.2.2.2;exact ⟨aM.keepS hb q0,aM.keepS hb q1,dX hb q2,dX hb q3,eU hb q4⟩)) (fun hH2=>?_);clear hK K hH
        rename _=>hH
        try simp only [Act.put,sA,sB,sC]
        clear hG fq0 fq1 fq2 fq3 fq4;refine U1 10 0 rfl (fun K hK=>?_)
        try clear hb
        go_simp
        (go_at_call 34;refine (HNM.out _ _ _ _ _ _ _ hp1 hp2).mono ?_;rintro e wk ⟨rfl,hb⟩)
        refine hK.out _ _ (aK (by have hG:=hH;replace hG:=aB hG;(try dsimp only at hG);have q0:=hG.1;have q1:=hG.2.1;have q2:=hG.2.2.1;have q3:=hG.2.2.2.1;have q4:=hG.2.2.2.2;exact ⟨aM.keepS hb q0,aM.keepS hb q1,dX hb q2,dX hb q3,eU hb q4⟩)) (fun hH2=>?_);clear hK K hH
        rename _=>hH
        try simp only [Act.put,sA,sB,sC]
        clear hp1 hp2;refine dG [(11,92),(12,104),(13,105),(14,15),(15,16)] 0 0 0 (L':=?Lr5_12) hWr5 hH ?yr5_12 ?_
        case yr5_12=>((iterate 5 apply dF;rfl;kernel_rfl;intro w' hSw;clear hSw;(try simp only [sB,sC]);go_simp;(try with_reducible rfl));exact dD)
        simp only [sB,sC];refine ak (by kernel_rfl) ?_ _ _;refine NoPanic.normal ?_;replace hH:=aB hH
        (try dsimp only at hH)
        have q0:=hH.1;have q1:=hH.2.1;have q2:=hH.2.2.1;have q3:=hH.2.2.2.1;have q4:=hH.2.2.2.2;have HB2:=hid q4.b;clear q0 q1 q2 q3 q4 hH;have HG1:=hid (And.intro (keepCell HB2.out HG0.out.1) (keepCell HB2.out HG0.out.2));have HQ6:=hid (HP6A.out.below HB2.out);have HQ7:=hid (HP7A.out.below HB2.out);have HK4:=hid (aj HB2.out HKA.out);clear HB2 HG0 HBA HC HSX HSY HKA HP6A HP7A HBWI HPX HPY HNM
        cases ca with
        | false =>
         obtain rfl:m=false:=by
          cases m
          ·rfl
          ·exact absurd (HMC.out rfl) (by simp)
         obtain rfl:cp=false:=by rw [HCP.out];rfl
         clear HMC HCP
         go_upto_region 24 with fail
         refine wp_region_noPanic ?_;refine au (S:=(S2 (fun w'=>w'.cell? ⟨gx,0,none⟩=some (.int .i64 (i:Nat))∧w'.cell? ⟨gx,1,none⟩=some (.int .i64 (k:Nat))∧dN aJ w' A6 n6 c6 (dM B)∧dN aJ w' A7 n7 c7 (iU L)∧Bq w7 w'))) (T:=(fun _=>0)) (by kernel_rfl) (aK ⟨HG1.out.1,HG1.out.2,HQ6.out.drew,HQ7.out.drew,⟨HK4.out.drew⟩⟩) (fun hH=>?_);have hWr6:aG (S2 (fun w'=>w'.cell? ⟨gx,0,none⟩=some (.int .i64 (i:Nat))∧w'.cell? ⟨gx,1,none⟩=some (.int .i64 (k:Nat))∧dN aJ w' A6 n6 c6 (dM B)∧dN aJ w' A7 n7 c7 (iU L)∧Bq w7 w')):=aI _;refine dG [(0,106),(1,107)] 18 0 0 (L':=?Lr6_1) hWr6 hH ?yr6_1 ?_
         case yr6_1=>((iterate 2 apply dF;rfl;kernel_rfl;intro w' hSw;clear hSw;(try simp only [sB,sC]);go_simp;(try with_reducible rfl));exact dD)
         simp only [sB,sC];refine iD (by kernel_rfl) (fun _ _ _ _ h=>h) hWr6 0 0 (by omega) hH [(2,108),(3,109),(4,110),(5,111)] 14 _ _ _ (by kernel_rfl) (by kernel_rfl) ?_;simp only [dV,List.set_cons_zero,List.set_cons_succ];refine dG [(6,112),(7,113),(8,114),(9,115),(11,117),(12,118)] 8 0 0 (L':=?Lr6_3) hWr6 hH ?yr6_3 ?_
         case yr6_3=>((iterate 6 apply dF;rfl;kernel_rfl;intro w' hSw;replace hSw:=aB hSw;(try dsimp only at hSw);have q0:=hSw.1;have q1:=hSw.2.1;have q2:=hSw.2.2.1;have q3:=hSw.2.2.2.1;have q4:=hSw.2.2.2.2;(try simp only [sB,sC]);go_simp;(try with_reducible rfl));exact dD)
         simp only [sB,sC];refine U1 10 0 rfl (fun K hK=>?_)
         try clear hb
         have hG:=hH;replace hG:=aB hG;(try dsimp only at hG);have fq0:=hG.1;have fq1:=hG.2.1;have fq2:=hG.2.2.1;have fq3:=hG.2.2.2.1;have fq4:=hG.2.2.2.2;go_simp
         (go_at_call 36;refine (HCB.out _ fq3).mono ?_;rintro e wn10 ⟨rfl,hb⟩)
         refine hK.out _ _ (aK (by have hG:=hH;replace hG:=aB hG;(try dsimp only at hG);have q0:=hG.1;have q1:=hG.2.1;have q2:=hG.2.2.1;have q3:=hG.2.2.2.1;have q4:=hG.2.2.2.2;exact ⟨keepCell hb q0,keepCell hb q1,dz hb q2,dz hb q3,eU hb q4⟩)) (fun hH2=>?_);clear hK K hH
         rename _=>hH
         try simp only [Act.put,sA,sB,sC]
         clear hG fq0 fq1 fq2 fq3 fq4;refine U1 13 0 rfl (fun K hK=>?_)
         try clear hb
         have hG:=hH;replace hG:=aB hG;(try dsimp only at hG);have fq0:=hG.1;have fq1:=hG.2.1;have fq2:=hG.2.2.1;have fq3:=hG.2.2.2.1;have fq4:=hG.2.2.2.2;go_simp
         (go_at_call 36;refine (HCA.out _ fq2).mono ?_;rintro e wn13 ⟨rfl,hb⟩)
         refine hK.out _ _ (aK (by have hG:=hH;replace hG:=aB hG;(try dsimp only at hG);have q0:=hG.1;have q1:=hG.2.1;have q2:=hG.2.2.1;have q3:=hG.2.2.2.1;have q4:=hG.2.2.2.2;exact ⟨keepCell hb q0,keepCell hb q1,dz hb q2,dz hb q3,eU hb q4⟩)) (fun hH2=>?_);clear hK K hH
         rename _=>hH
         try simp only [Act.put,sA,sB,sC]
         clear hG fq0 fq1 fq2 fq3 fq4;refine Ut 14 120 5 0 0 (v:=?vr6_11) rfl hWr6 hH ?yr6_11 ?_
         case yr6_11=>(intro w' hSw;clear hSw;go_simp;try (with_reducible rfl))
         simp only [sB,sC];refine iD (by kernel_rfl) (fun _ _ _ _ h=>h) hWr6 0 0 (by omega) hH [(15,121),(16,122)] 3 _ _ _ (by kernel_rfl) (by kernel_rfl) ?_;simp only [dV,List.set_cons_zero,List.set_cons_succ];refine dG [(17,123),(18,124),(19,125)] 0 0 0 (L':=?Lr6_12) hWr6 hH ?yr6_12 ?_
         case yr6_12=>((iterate 3 apply dF;rfl;kernel_rfl;intro w' hSw;clear hSw;(try simp only [sB,sC]);go_simp;(try with_reducible rfl));exact dD)
         simp only [sB,sC];refine ak (by kernel_rfl) ?_ _ _;refine NoPanic.normal ?_;replace hH:=aB hH
         (try dsimp only at hH)
         have q0:=hH.1;have q1:=hH.2.1;have q2:=hH.2.2.1;have q3:=hH.2.2.2.1;have q4:=hH.2.2.2.2;have HB4:=hid q4.b;clear q0 q1 q2 q3 q4 hH;clear HK4;go_wp2;go_roundw
         case rel=>exact ⟨k+1,by omega,by omega,by go_num,HB4⟩
         case measure=>simp [intOf];omega
        | true =>
         obtain rfl:cp=true:=by rw [HCP.out];rfl
         clear HMC HCP
         cases m with
         | true =>
          go_upto_region 24 with fail
          refine wp_region_noPanic ?_;refine au (S:=(S2 (fun w'=>w'.cell? ⟨gx,0,none⟩=some (.int .i64 (i:Nat))∧w'.cell? ⟨gx,1,none⟩=some (.int .i64 (k:Nat))∧dN aJ w' A6 n6 c6 (dM B)∧dN aJ w' A7 n7 c7 (iU L)∧Bq w7 w'))) (T:=(fun _=>0)) (by kernel_rfl) (aK ⟨HG1.out.1,HG1.out.2,HQ6.out.drew,HQ7.out.drew,⟨HK4.out.drew⟩⟩) (fun hH=>?_);have hWr7:aG (S2 (fun w'=>w'.cell? ⟨gx,0,none⟩=some (.int .i64 (i:Nat))∧w'.cell? ⟨gx,1,none⟩=some (.int .i64 (k:Nat))∧dN aJ w' A6 n6 c6 (dM B)∧dN aJ w' A7 n7 c7 (iU L)∧Bq w7 w')):=aI _;refine dG [(0,106),(1,107),(2,108),(3,109)] 16 0 0 (L':=?Lr7_1) hWr7 hH ?yr7_1 ?_
          case yr7_1=>((iterate 4 apply dF;rfl;kernel_rfl;intro w' hSw;replace hSw:=aB hSw;(try dsimp only at hSw);have q0:=hSw.1;have q1:=hSw.2.1;have q2:=hSw.2.2.1;have q3:=hSw.2.2.2.1;have q4:=hSw.2.2.2.2;(try simp only [sB,sC]);go_simp;(try with_reducible rfl));exact dD)
          simp only [sB,sC];refine U1 4 0 rfl (fun K hK=>?_)
          try clear hb
          have hG:=hH;replace hG:=aB hG;(try dsimp only at hG);have fq0:=hG.1;have fq1:=hG.2.1;have fq2:=hG.2.2.1;have fq3:=hG.2.2.2.1;have fq4:=hG.2.2.2.2;go_simp
          (go_at_call 36;refine (HCA.out _ fq2).mono ?_;rintro e wn4 ⟨rfl,hb⟩)
          refine hK.out _ _ (aK (by have hG:=hH;replace hG:=aB hG;(try dsimp only at hG);have q0:=hG.1;have q1:=hG.2.1;have q2:=hG.2.2.1;have q3:=hG.2.2.2.1;have q4:=hG.2.2.2.2;exact ⟨keepCell hb q0,keepCell hb q1,dz hb q2,dz hb q3,eU hb q4⟩)) (fun hH2=>?_);clear hK K hH
          rename _=>hH
          try simp only [Act.put,sA,sB,sC]
          clear hG fq0 fq1 fq2 fq3 fq4;refine dG [(5,111),(6,112),(7,113),(8,114),(9,115),(11,117),(12,118)] 8 0 0 (L':=?Lr7_6) hWr7 hH ?yr7_6 ?_
          case yr7_6=>((iterate 7 apply dF;rfl;kernel_rfl;intro w' hSw;replace hSw:=aB hSw;(try dsimp only at hSw);have q0:=hSw.1;have q1:=hSw.2.1;have q2:=hSw.2.2.1;have q3:=hSw.2.2.2.1;have q4:=hSw.2.2.2.2;(try simp only [sB,sC]);go_simp;(try with_reducible rfl));exact dD)
          simp only [sB,sC];refine U1 10 0 rfl (fun K hK=>?_)
          try clear hb
          have hG:=hH;replace hG:=aB hG;(try dsimp only at hG);have fq0:=hG.1;have fq1:=hG.2.1;have fq2:=hG.2.2.1;have fq3:=hG.2.2.2.1;have fq4:=hG.2.2.2.2;go_simp
          (go_at_call 36;refine (HCB.out _ fq3).mono ?_;rintro e wn10 ⟨rfl,hb⟩)
          refine hK.out _ _ (aK (by have hG:=hH;replace hG:=aB hG;(try dsimp only at hG);have q0:=hG.1;have q1:=hG.2.1;have q2:=hG.2.2.1;have q3:=hG.2.2.2.1;have q4:=hG.2.2.2.2;exact ⟨keepCell hb q0,keepCell hb q1,dz hb q2,dz hb q3,eU hb q4⟩)) (fun hH2=>?_);clear hK K hH
          rename _=>hH
          try simp only [Act.put,sA,sB,sC]
          clear hG fq0 fq1 fq2 fq3 fq4;refine U1 13 0 rfl (fun K hK=>?_)
          try clear hb
          have hG:=hH;replace hG:=aB hG;(try dsimp only at hG);have fq0:=hG.1;have fq1:=hG.2.1;have fq2:=hG.2.2.1;have fq3:=hG.2.2.2.1;have fq4:=hG.2.2.2.2;go_simp
          (go_at_call 36;refine (HCA.out _ fq2).mono ?_;rintro e wn13 ⟨rfl,hb⟩)
          refine hK.out _ _ (aK (by have hG:=hH;replace hG:=aB hG;(try dsimp only at hG);have q0:=hG.1;have q1:=hG.2.1;have q2:=hG.2.2.1;have q3:=hG.2.2.2.1;have q4:=hG.2.2.2.2;exact ⟨keepCell hb q0,keepCell hb q1,dz hb q2,dz hb q3,eU hb q4⟩)) (fun hH2=>?_);clear hK K hH
          rename _=>hH
          try simp only [Act.put,sA,sB,sC]
          clear hG fq0 fq1 fq2 fq3 fq4;refine dG [(14,120),(15,121),(16,122),(17,123),(18,124),(19,125)] 0 0 0 (L':=?Lr7_15) hWr7 hH ?yr7_15 ?_
          case yr7_15=>((iterate 6 apply dF;rfl;kernel_rfl;intro w' hSw;clear hSw;(try simp only [sB,sC]);go_simp;(try with_reducible rfl));exact dD)
          simp only [sB,sC];refine ak (by kernel_rfl) ?_ _ _;refine NoPanic.normal ?_;replace hH:=aB hH
          (try dsimp only at hH)
          have q0:=hH.1;have q1:=hH.2.1;have q2:=hH.2.2.1;have q3:=hH.2.2.2.1;have q4:=hH.2.2.2.2;have HB4:=hid q4.b;clear q0 q1 q2 q3 q4 hH;clear HK4;go_wp2;go_roundw
          case rel=>exact ⟨k+1,by omega,by omega,by go_num,HB4⟩
          case measure=>simp [intOf];omega
         | false =>
          go_upto_region 24 with fail
          refine wp_region_noPanic ?_;refine au (S:=(S2 (fun w'=>w'.cell? ⟨gx,0,none⟩=some (.int .i64 (i:Nat))∧w'.cell? ⟨gx,1,none⟩=some (.int .i64 (k:Nat))∧dN aJ w' A6 n6 c6 (dM B)∧dN aJ w' A7 n7 c7 (iU L)∧Bq w7 w'))) (T:=(fun _=>0)) (by kernel_rfl) (aK ⟨HG1.out.1,HG1.out.2,HQ6.out.drew,HQ7.out.drew,⟨HK4.out.drew⟩⟩) (fun hH=>?_);have hWr8:aG (S2 (fun w'=>w'.cell? ⟨gx,0,none⟩=some (.int .i64 (i:Nat))∧w'.cell? ⟨gx,1,none⟩=some (.int .i64 (k:Nat))∧dN aJ w' A6 n6 c6 (dM B)∧dN aJ w' A7 n7 c7 (iU L)∧Bq w7 w')):=aI _;refine dG [(0,106),(1,107)] 18 0 0 (L':=?Lr8_1) hWr8 hH ?yr8_1 ?_
          case yr8_1=>((iterate 2 apply dF;rfl;kernel_rfl;intro w' hSw;clear hSw;(try simp only [sB,sC]);go_simp;(try with_reducible rfl));exact dD)
          simp only [sB,sC];refine iD (by kernel_rfl) (fun _ _ _ _ h=>h) hWr8 0 0 (by omega) hH [(2,108),(3,109),(4,110),(5,111)] 14 _ _ _ (by kernel_rfl) (by kernel_rfl) ?_;simp only [dV,List.set_cons_zero,List.set_cons_succ];refine dG [(6,112),(7,113),(8,114),(9,115),(11,117),(12,118)] 8 0 0 (L':=?Lr8_3) hWr8 hH ?yr8_3 ?_
          case yr8_3=>((iterate 6 apply dF;rfl;kernel_rfl;intro w' hSw;replace hSw:=aB hSw;(try dsimp only at hSw);have q0:=hSw.1;have q1:=hSw.2.1;have q2:=hSw.2.2.1;have q3:=hSw.2.2.2.1;have q4:=hSw.2.2.2.2;(try simp only [sB,sC]);go_simp;(try with_reducible rfl));exact dD)
          simp only [sB,sC];refine U1 10 0 rfl (fun K hK=>?_)
          try clear hb
          have hG:=hH;replace hG:=aB hG;(try dsimp only at hG);have fq0:=hG.1;have fq1:=hG.2.1;have fq2:=hG.2.2.1;have fq3:=hG.2.2.2.1;have fq4:=hG.2.2.2.2;go_simp
          (go_at_call 36;refine (HCB.out _ fq3).mono ?_;rintro e wn10 ⟨rfl,hb⟩)
          refine hK.out _ _ (aK (by have hG:=hH;replace hG:=aB hG;(try dsimp only at hG);have q0:=hG.1;have q1:=hG.2.1;have q2:=hG.2.2.1;have q3:=hG.2.2.2.1;have q4:=hG.2.2.2.2;exact ⟨keepCell hb q0,keepCell hb q1,dz hb q2,dz hb q3,eU hb q4⟩)) (fun hH2=>?_);clear hK K hH
          rename _=>hH
          try simp only [Act.put,sA,sB,sC]
          clear hG fq0 fq1 fq2 fq3 fq4;refine U1 13 0 rfl (fun K hK=>?_)
          try clear hb
          have hG:=hH;replace hG:=aB hG;(try dsimp only at hG);have fq0:=hG.1;have fq1:=hG.2.1;have fq2:=hG.2.2.1;have fq3:=hG.2.2.2.1;have fq4:=hG.2.2.2.2;go_simp
          (go_at_call 36;refine (HCA.out _ fq2).mono ?_;rintro e wn13 ⟨rfl,hb⟩)
          refine hK.out _ _ (aK (by have hG:=hH;replace hG:=aB hG;(try dsimp only at hG);have q0:=hG.1;have q1:=hG.2.1;have q2:=hG.2.2.1;have q3:=hG.2.2.2.1;have q4:=hG.2.2.2.2;exact ⟨keepCell hb q0,keepCell hb q1,dz hb q2,dz hb q3,eU hb q4⟩)) (fun hH2=>?_);clear hK K hH
          rename _=>hH
          try simp only [Act.put,sA,sB,sC]
          clear hG fq0 fq1 fq2 fq3 fq4;refine dG [(14,120),(15,121),(16,122),(17,123),(18,124),(19,125)] 0 0 0 (L':=?Lr8_11) hWr8 hH ?yr8_11 ?_
          case yr8_11=>((iterate 6 apply dF;rfl;kernel_rfl;intro w' hSw;clear hSw;(try simp only [sB,sC]);go_simp;(try with_reducible rfl));exact dD)
          simp only [sB,sC];refine ak (by kernel_rfl) ?_ _ _;refine NoPanic.normal ?_;replace hH:=aB hH
          (try dsimp only at hH)
          have q0:=hH.1;have q1:=hH.2.1;have q2:=hH.2.2.1;have q3:=hH.2.2.2.1;have q4:=hH.2.2.2.2;have HB4:=hid q4.b;clear q0 q1 q2 q3 q4 hH;clear HK4;go_wp2;go_roundw
          case rel=>exact ⟨k+1,by omega,by omega,by go_num,HB4⟩
          case measure=>simp [intOf];omega
      ·have hke : k = L.length := by omega
       subst hke;go_wp2;go_roundw
       case rel=>exact ⟨i+1,hlt,by go_num,HK⟩
       case measure=>simp [intOf];omega
    ·have HR := hid (aj HK.out HBW.out);go_wp2
     go_returns
     exact bg rfl HR.out
end
end Go.Proofs.YtokgmcomgflloaaGreat
