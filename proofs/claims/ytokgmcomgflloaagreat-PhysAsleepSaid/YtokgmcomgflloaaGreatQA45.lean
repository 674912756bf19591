/- Parts of a proof: contracts and laws. -/
import Derived.Test.YtokgmcomgflloaaGreatQA21
import Derived.Test.YtokgmcomgflloaaGreatQA44
import Derived.Test.YtokgmcomgflloaaGreatQA02
import Derived.Test.YtokgmcomgflloaaGreatQA38
set_option maxRecDepth 100000
set_option maxHeartbeats 16000000
namespace Go.Proofs.YtokgmcomgflloaaGreat
section
set_option linter.unusedVariables false
set_option linter.unusedSimpArgs false
open Go.RowKit
theorem vD (A B:Option Addr) (n c n' c':Nat) (L:List BE) (J:List Jt) (st r:Int) (w:World) (hS:iH w A n c L) (hJ:dW gZ w B n' c' J) (hst:∀ x ∈ J,∀ y ∈ L,stB y.b) :
  Calls Tryz.prog 48 #[.slice A n c,.slice B n' c',.int .i64 st,.int .i64 r] w (wW (vW L J st r) (BS L J st r) w):=by
 have HST0:=hid hst;clear hst;have hn:=hS.sl.len;have hcap:=hS.sl.cap;have hbig:=hS.sl.big;have hn':=hJ.len;have hcap':=hJ.cap;have hbig':=hJ.big;subst hn hn';have HS:=hid hS;have HJ:=hid hJ;have HCK:=hid (nV A B L.length c J.length c' L J w hS hJ);clear hS hJ
 go_enter Tryz.func48,Tryz.ntmps48
 go_wp2_with fail
 refine HCK.out.mono ?_;rintro e w1 ⟨rfl,hB1⟩;clear HCK
 have HNIL:Hid (∀ (z:Int) (wx:World),z≠0→vW L J st r=z→Below w.heap.size w wx→wW (vW L J st r) (BS L J st r) w (.returned (.tuple #[.slice none 0 0,.int .i64 z])) wx):=fun z wx hz he hb =>
  ⟨none,0,0,[],by rw [he],⟨dW.nil _ _,fun x hx=>by cases hx⟩,by unfold BS;rw [if_neg (by rw [he];exact hz)];rfl,hb⟩
 by_cases hE:bS L J=0
 case neg =>
  have HR:=hid (HNIL.out (bS L J) w1 hE (by unfold vW;rw [if_pos hE]) hB1);have hne:(bS L J != 0)=true:=by simp [hE]
  generalize bS L J=z at *
  go_wp2;exact bodyPost_ret (v:=.tuple #[.slice none 0 0,.int .i64 z]) (by simp [results,Tryz.results48,go_sem]) rfl HR.out
 obtain ⟨hbe,hj32,hjs⟩:=iK hE;obtain ⟨h64,hval⟩:=eY hbe;have HV:=hid hval;have HJS:=hid hjs
 by_cases hbad:st<1∨65536<st∨r<0∨32<r
 ·have HR := hid (HNIL.out 1 w1 (by decide) (by unfold vW; rw [if_neg (by simp [hE]), if_pos hbad]) hB1);rw [hE];clear hE hbe hval hjs HNIL
  by_cases c1:st<1
  ·go_wp2;exact bodyPost_ret (v:=.tuple #[.slice none 0 0,.int .i64 1]) (by simp [results,Tryz.results48,go_sem]) rfl HR.out
  by_cases c2:65536<st
  ·go_wp2;exact bodyPost_ret (v:=.tuple #[.slice none 0 0,.int .i64 1]) (by simp [results,Tryz.results48,go_sem]) rfl HR.out
  by_cases c3:r<0
  ·go_wp2;exact bodyPost_ret (v:=.tuple #[.slice none 0 0,.int .i64 1]) (by simp [results,Tryz.results48,go_sem]) rfl HR.out
  have c4:32<r:=by omega
  go_wp2;exact bodyPost_ret (v:=.tuple #[.slice none 0 0,.int .i64 1]) (by simp [results,Tryz.results48,go_sem]) rfl HR.out
 have c1:¬ st<1:=fun h=>hbad (.inl h)
 have c2:¬ 65536<st:=fun h=>hbad (.inr (.inl h))
 have c3:¬ r<0:=fun h=>hbad (.inr (.inr (.inl h)))
 have c4:¬ 32<r:=fun h=>hbad (.inr (.inr (.inr h)))
 have HRE:Hid (vW L J st r=0):=by show _=_;unfold vW;rw [if_neg (by simp [hE]),if_neg hbad]
 have HRQ:Hid (BS L J st r=jV (L.map aF) J st r.toNat):=by show _=_;unfold BS;rw [if_pos HRE.out]
 have HFJ:Hid (∀ x ∈ J,F8 (L.map aF).length x):=fun x hx=>by rw [List.length_map];exact (nC (hjs x hx)).1
 rw [hE];clear hE hbe hval hjs HNIL hbad;go_wp2;have HC1:=hid c1;have HC2:=hid c2;clear c1 c2;obtain ⟨rn,rfl⟩:∃ rn:Nat,r=rn:=⟨r.toNat,by omega⟩;rw [Int.toNat_natCast] at HRQ;have hrn:rn≤32:=by omega
 clear c3 c4
 go_loopw [11,43] (fun o i wr=>∃ (k:Nat) (L':List BE),k≤L.length∧i = .int .i64 k∧RJ w o L' wr∧L'.map aF=(L.map aF).take k) (fun _ i _=>L.length-(intOf i).toNat)
 case atStart=>exact ⟨0,[],Nat.zero_le _,rfl,⟨aU.nil _ _ _ _,fun x hx=>(by cases hx),hB1⟩,rfl⟩
 case round =>
  clear hB1;obtain ⟨k,L',hk,rfl,hrj,hmp⟩:=hrel;obtain ⟨wo,rfl⟩:∃ wo:World,wo=wr:=⟨_,rfl⟩;obtain ⟨s0,rfl⟩:∃ s0:Value,s0=u11:=⟨_,rfl⟩;have HRJ:=hid hrj;have HMP:=hid hmp;clear hrj hmp
  by_cases hlt:k<L.length
  ·obtain ⟨ba, off, hA, hC⟩ := (HS.out.below HRJ.out.bel).sl.at_ (by intro h; subst h; simp at hlt);subst hA;obtain ⟨x,hx⟩:∃ x,x=L[k]:=⟨_,rfl⟩;have hxm:x ∈ L:=by rw [hx];exact List.getElem_mem hlt
   have hxs:Sl wo x.A x.n x.c x.l:=(HS.out.below HRJ.out.bel).co x hxm;have hxv:=(bJ (HV.out x hxm)).1;have hx3:=pO (gY hxv);have HXN:Hid (x.l≠[]):=fun e=>by rw [e] at hxv;exact absurd hxv (by decide)
   obtain ⟨d0,d1,d2,d3,d4,d5,d6,d7,d8,d9,d10,d11,d12⟩:=dD hC hlt hx;have hbo:=hC.lt;have hlt':(k:Int)<(L.length:Int):=by omega
   have hkw:IntKind.i64.wrap ((k:Int)+1)=(k:Int)+1:=IntWalk.i64_in _ (by omega);obtain ⟨wj,hwj⟩:∃ wj,wj=wo.alloc (.cells #[.int .i64 x.b.px,.int .i64 x.b.py,.int .i64 x.b.vx,.int .i64 x.b.vy,.int .i64 x.b.ang,.int .i64 x.b.spin,.int .i64 x.b.mass,.int .i64 x.b.iner,.int .i64 x.b.bounce,.int .i64 x.b.rub,.slice x.A x.n x.c,.bool x.b.asleep,.int .i64 x.b.calm] 27):=⟨_,rfl⟩;have HBJ:=hid (show Below wo.heap.size wo wj by rw [hwj];go_grown);have HK:=hid (show aL wj wo.heap.size x.b x.A x.n x.c by rw [hwj];exact aL.here wo x.b x.A x.n x.c _);have HCL:=hid (qw x.A x.n x.c x.l wj (hxs.below HBJ.out) (by omega))
   have HTK:Hid (L'.map aF ++ [aF x]=(L.map aF).take (k+1)):=by
    show _=_;rw [HMP.out,List.take_add_one,List.getElem?_map,List.getElem?_eq_getElem hlt,← hx];rfl
   have HLL:Hid (L'.length≤64):=by
    have:=congrArg List.length HMP.out;simp at this;show _≤_;omega
   clear hC hx hxs hxv hx3
   go_upto_region 10 with fail
   rw [← hwj];clear hwj d0 d1 d2 d3 d4 d5 d6 d7 d8 d9 d10 d11 d12 hbo;obtain ⟨k0,k1,k2,k3,k4,k5,k6,k7,k8,k9,k10,k11,k12,kf⟩:=HK.out
   go_wp2_with fail
   refine HCL.out.mono ?_;rintro e w3 ⟨A1,n1,c1,rfl,hs1,hf1,hb1⟩;clear k0 k1 k2 k3 k4 k5 k6 k7 k8 k9 k10 k11 k12 kf HCL;have HK3:=hid (aM hb1 HK.out);obtain ⟨w4,hw4⟩:∃ w4,w4=w3.setCell ⟨wo.heap.size,10,none⟩ (.slice A1 n1 c1):=⟨_,rfl⟩;have hjo:wo.heap.size<wj.heap.size:=HK.out.lt;have HF1:Hid (∀ bx off,A1=some ⟨bx,off,none⟩→wo.heap.size<bx):=fun bx off e=>by have:=hf1 bx off e;omega
   have HK4:=hid (show aL w4 wo.heap.size x.b A1 n1 c1 by rw [hw4];exact HK3.out.set_slice);have HS4:=hid (show Sl w4 A1 n1 c1 x.l by rw [hw4];exact hs1.setAt (fun bx off e=>by have:=HF1.out bx off e;omega));have HR4:=hid (show RJ w s0 L' w4 by rw [hw4];exact RJ.set HRJ.out (LC hb1 (LC HBJ.out HRJ.out)) (Nat.le_refl _));obtain ⟨k0,k1,k2,k3,k4,k5,k6,k7,k8,k9,k10,k11,k12,kf⟩:=HK3.out;clear hs1 hf1 hb1 hjo HK HBJ
   go_upto_region 11 with fail
   rw [← hw4];clear hw4 k0 k1 k2 k3 k4 k5 k6 k7 k8 k9 k10 k11 k12 kf HK3;obtain ⟨k0,k1,k2,k3,k4,k5,k6,k7,k8,k9,k10,k11,k12,kf⟩:=HK4.out;clear HK4
   go_wp2_with (at_builtin;refine Hid.out ?_)
   refine hid ?_;refine dS xX rfl _ _ rfl w.heap.size _ _ rfl (HR4.out.own.alloc _) w4.heap.size 0 1 1 [⟨x.b,A1,n1,c1,x.l⟩] rfl rfl (kU (aL.here w4 x.b A1 n1 c1 _)) ?c4 ?c5 ?c6 ?c7
   case c4=>have:=HLL.out;simp;omega
   case c5=>have:=HLL.out;simp;omega
   case c6=>have:=HR4.out.bel.size;simp;omega
   case c7 =>
    intro v' w7 ho1 hg1 hat;have HR7:=hid (RJ.push HRJ.out HR4.out (y:=⟨x.b,A1,n1,c1,x.l⟩) HS4.out HXN.out (fun bx off e=>by have:=HF1.out bx off e;omega) ho1 hg1 hat);clear ho1 hg1 hat k0 k1 k2 k3 k4 k5 k6 k7 k8 k9 k10 k11 k12 kf HS4 HR4;go_wp2;go_roundw
    case rel=>exact ⟨k+1,_,by omega,by go_num,HR7.out,by rw [List.map_append];exact HTK.out⟩
    case measure=>simp [intOf] <;> omega
  ·have hkn : k = L.length := by omega
   subst hkn
   have HRV:Hid (RV w s0 (L.map aF) wo):=by
    have:=HRJ.out.rv;rw [HMP.out,List.take_of_length_le (by simp)] at this;exact this
   clear HRJ HMP hlt hk;go_wp2
   go_loopw [57] (fun i wr=>∃ k:Nat,k≤rn∧i = .int .i64 k∧RV w s0 (jV (L.map aF) J st k) wr) (fun i _=>rn-(intOf i).toNat)
   case atStart=>exact ⟨0,Nat.zero_le _,rfl,HRV.out⟩
   case round =>
    clear HRV;obtain ⟨k,hk,rfl,hrv⟩:=hrel;have HRV:=hid hrv;clear hrv;obtain ⟨wa,rfl⟩:∃ wa:World,wa=wr:=⟨_,rfl⟩;have hkw:IntKind.i64.wrap ((k:Int)+1)=(k:Int)+1:=IntWalk.i64_in _ (by omega);have HLK:=hid (sV HFJ.out st k)
    by_cases hlt:k<rn
    ·have hlt' : (k : Int) < (rn : Int) := by omega
     have HRS:Hid (jV (L.map aF) J st (k+1)=fA (jV (L.map aF) J st k) J st J.length):=rfl;obtain ⟨QK,hQK⟩:∃ q,q=jV (L.map aF) J st k:=⟨_,rfl⟩;rw [← hQK] at HRV HLK HRS;have HQS:Hid (∀ x ∈ J,QK=L.map aF):=hid (fun x hx=>by rw [hQK];exact rM (mG.2 (HST0.out x hx)) J st k);clear hQK;go_wp2
     go_loopw [61] (fun i wr=>∃ m:Nat,m≤J.length∧i = .int .i64 m∧RV w s0 (fA QK J st m) wr) (fun i _=>J.length-(intOf i).toNat)
     case atStart=>exact ⟨0,Nat.zero_le _,rfl,HRV.out⟩
     case round =>
      clear HRV;obtain ⟨m,hm,rfl,hrv⟩:=hrel;obtain ⟨wi,rfl⟩:∃ wi:World,wi=wr:=⟨_,rfl⟩;have hmw:IntKind.i64.wrap ((m:Int)+1)=(m:Int)+1:=IntWalk.i64_in _ (by omega)
      by_cases hlt2:m<J.length
      ·have hlt2' : (m : Int) < (J.length : Int) := by omega
       obtain ⟨L1,hq,hB,hform⟩:=hrv;have HLM:=hid (HLK.out.trans (oH (fun x hx=>by rw [HLK.out.len];exact HFJ.out x hx) st m));obtain ⟨bj,oj,hA,hCj⟩:=(HJ.out.below hB).at_ (by intro h;subst h;simp at hlt2);subst hA;obtain ⟨x,hx⟩:∃ x,x=J[m]:=⟨_,rfl⟩;have HST:Hid (fA QK J st (m+1)=gG (fA QK J st m) x st):=sN (by rw [List.getElem?_eq_getElem hlt2,hx]);have hxm:x ∈ J:=by rw [hx];exact List.getElem_mem hlt2
       obtain ⟨t0,t1,t2,t3,t4,t5,t6⟩:=yB hCj hlt2 hx;have hbj:=hCj.lt;rw [← hq] at HLM HST;have hL1:L1.length=L.length:=by have:=HLM.out.len;simpa using this
       have HLE:Hid (∀ L2:List BE,L2.length=L1.length→L2.length≤64):=fun L2 h=>by omega
       obtain ⟨⟨hf1,hf2,hf3⟩,-,-,⟨hf4,hf5⟩,-⟩:=nC (HJS.out x hxm);have HEZ:Hid (bS L1 [x]=0):=Gp HLM.out h64 HV.out (HJS.out x hxm);have HV1:=hid (lJ HLM.out HV.out);have HS1:Hid (∀ y ∈ L1,stB y.b):=hid (mG.1 (by rw [hq,HQS.out x hxm,qV (mG.2 (HST0.out x hxm))];exact mG.2 (HST0.out x hxm)));obtain ⟨ka,hka'⟩:∃ ka:Nat,x.a=ka:=⟨x.a.toNat,by omega⟩;obtain ⟨kb,hkb'⟩:∃ kb:Nat,x.b=kb:=⟨x.b.toNat,by omega⟩;have hka:ka<L1.length:=by omega
       have hkb:kb<L1.length:=by omega
       have hab:ka<kb:=by omega
       have HL1:=hid hL1;clear hL1
       rcases hform with ⟨-,hnil⟩ | ⟨g,cap,rfl,hg0,hc1,hc2,hbl⟩
       ·exfalso;rw [hnil] at hka;simp at hka
       have hxa:=hka';have hxb:=hkb';obtain ⟨Bz,hBz⟩:∃ Bz,Bz=wi.heap.size:=⟨_,rfl⟩;have HRJ:=hid (Rj.of hbl hB hg0 HV1.out);rw [← hBz] at HRJ;have HQQ:=hid hq;clear hbl hq;obtain ⟨e1,he1⟩:∃ z,z=wX (qB (L1.map aF) x.a) x.p1 x.p2:=⟨_,rfl⟩;obtain ⟨e2,he2⟩:∃ z,z=wY (qB (L1.map aF) x.a) x.p1 x.p2:=⟨_,rfl⟩;obtain ⟨e3,he3⟩:∃ z,z=wX (qB (L1.map aF) x.b) x.q1 x.q2:=⟨_,rfl⟩;obtain ⟨e4,he4⟩:∃ z,z=wY (qB (L1.map aF) x.b) x.q1 x.q2:=⟨_,rfl⟩;have HEN:Hid (yC L1 x = .tuple #[aR e1 e2,aR e3 e4,.int .i64 0]):=by show _=_;unfold yC;rw [if_neg (by rw [HEZ.out];simp),Ei,Ei,← he1,← he2,← he3,← he4]
       obtain ⟨wj,hwj⟩:∃ wj,wj=wi.alloc (.cells #[.int .i64 x.a,.int .i64 x.b,.int .i64 x.p1,.int .i64 x.p2,.int .i64 x.q1,.int .i64 x.q2,.int .i64 x.len] 37):=⟨_,rfl⟩;have HRJ2:=hid (show Rj w Bz g L1 wj by rw [hwj];exact HRJ.out.alloc _);obtain ⟨gx,hgx⟩:∃ gx,gx=wi.heap.size:=⟨_,rfl⟩;have HJG:=hid (show Jg wj gx x by rw [hwj,hgx];exact ⟨by go_simp,by go_simp,by go_simp,by go_simp,by go_simp,by go_simp,by go_simp⟩);have hgg:g<gx:=by rw [hgx,← hBz];exact HRJ.out.gB
       have HEC:=hid (En (some ⟨g,0,none⟩) L1.length cap L1 x wj (HRJ2.out.slb hc1 hc2));obtain ⟨d1,hd1⟩:∃ z,z=dI e3 e1:=⟨_,rfl⟩;obtain ⟨d2,hd2⟩:∃ z,z=dI e4 e2:=⟨_,rfl⟩;have HSUB:=hid (je e3 e4 e1 e2);rw [← hd1,← hd2] at HSUB;have HD1:Hid (GX (L1.map aF) x=d1):=by show _=_;unfold GX;rw [hd1,he1,he3]
       have HD2:Hid (IW (L1.map aF) x=d2):=by show _=_;unfold IW;rw [hd2,he2,he4]
       obtain ⟨u1,hu1⟩:∃ z,z=ko d1 d2:=⟨_,rfl⟩;obtain ⟨u2,hu2⟩:∃ z,z=ku d1 d2:=⟨_,rfl⟩;have HUN:=hid (qY d1 d2);rw [← hu1,← hu2] at HUN;have HU1:=hid hu1.symm;have HU2:=hid hu2.symm;obtain ⟨lz,hlz⟩:∃ z,z=rE d1 d2:=⟨_,rfl⟩;have HLE2:Hid (∀ w',Calls Tryz.prog 10 #[aR d1 d2] w' (dG (.int .i64 lz) w')):=fun w'=>by have:=rG d1 d2 w';rw [hlz];exact this
       have HLZ:=hid hlz.symm;have hlzb : -1099511627776≤lz∧lz≤1099511627776:=by rw [hlz];exact eD _
       have hwl:IntKind.i64.wrap (lz-x.len)=lz-x.len:=IntWalk.i64_in _ (by omega);have h64':L1.length≤64:=HLE.out _ rfl;have HFX:Hid (F8 (L1.map aF).length x):=by show F8 _ _;rw [List.length_map];exact ⟨by omega,by omega,by omega⟩
       have HLK2:Hid (∀ v1 v2 gap:Int,eU (L1.map aF) (jE (L1.map aF) x v1 v2 gap st)):=fun v1 v2 gap=>nZ HFX.out _ _ _ _
       have HLL:Hid (∀ {v1 v2 gap:Int} (L2:List BE),L2.map aF=jE (L1.map aF) x v1 v2 gap st→L2.length=L1.length):=fun {v1 v2 gap} L2 h=>by have:=congrArg List.length h;rw [List.length_map,(HLK2.out v1 v2 gap).len,List.length_map] at this;exact this
       have HPX:Hid (∀ Q',eU (L1.map aF) Q'→∀ v1 v2 gap:Int,jE Q' x v1 v2 gap st=qO Q' ka kb e1 e2 e3 e4 v1 v2 gap st):=fun Q' hl v1 v2 gap=>by
        unfold jE;rw [hl.wX,hl.wY,hl.wX,hl.wY,← he1,← he2,← he3,← he4,hka',hkb',Int.toNat_natCast,Int.toNat_natCast]
       have HPL:Hid (∀ (w':World),Rj w Bz g L1 w'→∀ v1 v2 gap:Int,Calls Tryz.prog 112 #[.slice (some ⟨g,0,none⟩) L1.length cap,P7 x,aR e1 e2,aR e3 e4,aR v1 v2,.int .i64 gap,.int .i64 st] w' (G5 g L1 (jE (L1.map aF) x v1 v2 gap st) w')):=fun w' hr v1 v2 gap=>by
        rw [HPX.out _ (.refl _)];exact vv cap g ka kb L1 x e1 e2 e3 e4 v1 v2 gap st w' hr.bl (fun y hy bx off e=>Nat.lt_of_lt_of_le (hr.hi y hy bx off e) hr.Bw) HV1.out hab hka hkb hxa hxb h64' _ _ rfl rfl HS1.out
       have HXI:=hid (And.intro hxa hxb);clear HRJ hCj hx he1 he2 he3 he4 hd1 hd2 hu1 hu2 hlz hlzb hxa hxb hka' hkb'
       go_upto_region 18 with fail
       rw [← hwj,← hgx];clear hwj hgx hBz t0 t1 t2 t3 t4 t5 t6 hbj;obtain ⟨j0,j1,j2,j3,j4,j5,j6⟩:=HJG.out
       go_wp2_with fail
       refine HEC.out.mono ?_;rintro e w3 ⟨rfl,hb⟩;rw [HEN.out];replace HRJ2:=hid (mJ hb HRJ2.out);replace HJG:=hid (mK hb HJG.out);clear hb j0 j1 j2 j3 j4 j5 j6 HEC;obtain ⟨gp,hgp⟩:∃ gp,gp=w3.heap.size:=⟨_,rfl⟩;obtain ⟨w5,hw5⟩:∃ w5,w5=(w3.alloc (.cells #[.int .i64 e1,.int .i64 e2] 24)).alloc (.cells #[.int .i64 e3,.int .i64 e4] 24):=⟨_,rfl⟩;have HB5:=hid (show Below w3.heap.size w3 w5 by rw [hw5];go_grown);have HVP9:=hid (show Vg w5 gp e1 e2 by rw [hw5,hgp];exact ⟨by go_simp,by go_simp⟩);have HVQ9:=hid (show Vg w5 (gp+1) e3 e4 by rw [hw5,hgp];exact ⟨by go_simp,by go_simp⟩);have HRJ9:=hid (mJ HB5.out HRJ2.out);have HJG9:=hid (mK HB5.out HJG.out);have hxp:gx<gp:=by have:=lt_of_cell HJG.out.c0;rw [hgp];exact this
       have hBp:Bz≤gp:=by rw [hgp];exact HRJ2.out.Bw
       clear HRJ2 HJG HB5
       go_upto_region 19 with fail
       rw [← hw5,← hgp];clear hw5 hgp;obtain ⟨j0,j1,j2,j3,j4,j5,j6⟩:=HJG9.out;obtain ⟨k0,k1⟩:=HVP9.out;obtain ⟨k2,k3⟩:=HVQ9.out
       go_wp2_with fail
       refine (HSUB.out _).mono ?_;rintro e w6 ⟨rfl,hb⟩;replace HRJ9:=hid (mJ hb HRJ9.out);replace HJG9:=hid (mK hb HJG9.out);replace HVP9:=hid (dL hb HVP9.out);replace HVQ9:=hid (dL hb HVQ9.out);clear hb HSUB j0 j1 j2 j3 j4 j5 j6 k0 k1 k2 k3;obtain ⟨gd,hgd⟩:∃ gd,gd=w6.heap.size:=⟨_,rfl⟩;obtain ⟨w7,hw7⟩:∃ w7,w7=w6.alloc (.cells #[.int .i64 d1,.int .i64 d2] 24):=⟨_,rfl⟩;have HB7:=hid (show Below w6.heap.size w6 w7 by rw [hw7];go_grown);have HVD9:=hid (show Vg w7 gd d1 d2 by rw [hw7,hgd];exact ⟨by go_simp,by go_simp⟩);have hpd:gp+1<gd:=by have:=lt_of_cell HVQ9.out.a;rw [hgd];exact this
       replace HRJ9:=hid (mJ HB7.out HRJ9.out);replace HJG9:=hid (mK HB7.out HJG9.out);replace HVP9:=hid (dL HB7.out HVP9.out);replace HVQ9:=hid (dL HB7.out HVQ9.out);clear HB7
       go_upto_region 20 with fail
       rw [← hw7,← hgd];clear hw7 hgd;obtain ⟨j0,j1,j2,j3,j4,j5,j6⟩:=HJG9.out;obtain ⟨k0,k1⟩:=HVP9.out;obtain ⟨k2,k3⟩:=HVQ9.out;obtain ⟨k4,k5⟩:=HVD9.out
       by_cases hz:x.len=0
       ·have hq9 : gG (L1.map aF) x st = jE (jE (L1.map aF) x 65536 0 d1 st) x 0 65536 d2 st := by have h9 := CU (Q := L1.map aF) (st := st) hz; rw [h9, HD1.out, HD2.out]
        have HQ9:=hid hq9;clear hq9;have hzb:(x.len == 0)=true:=by simp [hz]
        clear hz
        go_wp2_with fail
        refine (HPL.out _ HRJ9.out 65536 0 d1).mono ?_;rintro e w8 ⟨L2,rfl,hbl2,hm2,hg2⟩;have HB2:=hid hbl2;have HM2:=hid hm2;have HBE:=hid (HRJ9.out.next hg2);have HL2:Hid (L2.length=L1.length):=HLL.out _ hm2;have HS2:Hid (∀ y ∈ L2,stB y.b):=hid (mG.1 (by rw [hm2,sU (mG.2 HS1.out)];exact mG.2 HS1.out));have HVV2:Hid (∀ y ∈ L2,aT y.b y.l=0):=by have:=HLK2.out 65536 0 d1;rw [← hm2] at this;exact lJ this HV1.out
        have HPX2:Hid (jE (L2.map aF) x 0 65536 d2 st=qO (L2.map aF) ka kb e1 e2 e3 e4 0 65536 d2 st):=by have:=HLK2.out 65536 0 d1;rw [← hm2] at this;exact HPX.out _ this 0 65536 d2
        replace HJG9:=hid (HJG9.out.next hg2 (by omega));replace HVP9:=hid (HVP9.out.next hg2 (by omega));replace HVQ9:=hid (HVQ9.out.next hg2 (by omega));replace HVD9:=hid (HVD9.out.next hg2 (by omega));have HRX6:=hid (Rj.of hbl2 HBE.out hg0 HVV2.out);clear hbl2 hm2 hg2 j0 j1 j2 j3 j4 j5 j6 k0 k1 k2 k3 k4 k5 HBE HRJ9;obtain ⟨j0,j1,j2,j3,j4,j5,j6⟩:=HJG9.out;obtain ⟨k0,k1⟩:=HVP9.out;obtain ⟨k2,k3⟩:=HVQ9.out;obtain ⟨k4,k5⟩:=HVD9.out;have HPL2:=hid (vv cap g ka kb L2 x e1 e2 e3 e4 0 65536 d2 st w8 HB2.out HRX6.out.hi HVV2.out hab (by rw [HL2.out];exact hka) (by rw [HL2.out];exact hkb) HXI.out.1 HXI.out.2 (HLE.out _ HL2.out) _ _ rfl rfl HS2.out);rw [HL2.out] at HPL2
        go_wp2_with fail
        refine HPL2.out.mono ?_;rintro e w9 ⟨L3,rfl,hbl3,hm3,hg3⟩;have HBE3:=hid (HRX6.out.next hg3);have HB3:=hid hbl3;have HM3:Hid (L3.map aF=gG (L1.map aF) x st):=by show _=_;rw [HQ9.out,← HM2.out,HPX2.out];exact hm3
        have HL3:Hid (L3.length=L1.length):=by have:=congrArg List.length HM3.out;rw [List.length_map,(uR HFX.out st).len,List.length_map] at this;exact this
        clear hbl3 hm3 hg3 j0 j1 j2 j3 j4 j5 j6 k0 k1 k2 k3 k4 k5 HJG9 HVP9 HVQ9 HVD9 HRX6 HPL2;go_wp2;go_roundw
        case rel=>exact ⟨m+1,by omega,by go_num,L3,by rw [HST.out];exact HM3.out,HBE3.out,.inr ⟨g,cap,by rw [HL3.out],hg0,by rw [HL3.out];exact hc1,hc2,HB3.out⟩⟩
        case measure=>simp [intOf] <;> omega
       have hzb:(x.len == 0)=false:=by simp [hz]
       go_wp2_with fail
       refine (HUN.out _).mono ?_;rintro e w8 ⟨rfl,hb⟩;replace HRJ9:=hid (mJ hb HRJ9.out);replace HJG9:=hid (mK hb HJG9.out);replace HVP9:=hid (dL hb HVP9.out);replace HVQ9:=hid (dL hb HVQ9.out);replace HVD9:=hid (dL hb HVD9.out);clear hb HUN j0 j1 j2 j3 j4 j5 j6 k0 k1 k2 k3 k4 k5;obtain ⟨gw,hgw⟩:∃ gw,gw=w8.heap.size:=⟨_,rfl⟩;obtain ⟨w9,hw9⟩:∃ w9,w9=w8.alloc (.cells #[.int .i64 u1,.int .i64 u2] 24):=⟨_,rfl⟩;have HB9:=hid (show Below w8.heap.size w8 w9 by rw [hw9];go_grown);have HVW9:=hid (show Vg w9 gw u1 u2 by rw [hw9,hgw];exact ⟨by go_simp,by go_simp⟩);have hfw:∀ j,w9.frozen? ⟨gw,j,none⟩=false:=by rw [hw9,hgw];intro j;go_simp
       have hdw:gd<gw:=by have:=lt_of_cell HVD9.out.a;rw [hgw];exact this
       replace HRJ9:=hid (mJ HB9.out HRJ9.out);replace HJG9:=hid (mK HB9.out HJG9.out);replace HVP9:=hid (dL HB9.out HVP9.out);replace HVQ9:=hid (dL HB9.out HVQ9.out);replace HVD9:=hid (dL HB9.out HVD9.out);clear HB9
       go_upto_region 24 with fail
       rw [← hw9,← hgw];clear hw9 hgw;obtain ⟨j0,j1,j2,j3,j4,j5,j6⟩:=HJG9.out;obtain ⟨k0,k1⟩:=HVP9.out;obtain ⟨k2,k3⟩:=HVQ9.out;obtain ⟨k4,k5⟩:=HVD9.out;obtain ⟨k6,k7⟩:=HVW9.out;obtain ⟨ev,hev⟩:∃ ev,ev=(d1 == 0 && d2 == 0):=⟨_,rfl⟩;have HEQ:=L9 d1 d2 0 0;rw [← hev] at HEQ
       cases ev with
       | true =>
        have hd0:d1=0∧d2=0:=by simpa using hev.symm
        have hq9:gG (L1.map aF) x st=jE (L1.map aF) x 65536 0 (lz-x.len) st:=by have h9:=DX (Q:=L1.map aF) (st:=st) hz (by rw [HD1.out,HD2.out];exact hd0);rw [h9,HD1.out,HD2.out,HLZ.out]
        have HQ9:=hid hq9;clear hq9;clear hd0 hev hz;obtain ⟨wa1,hwa1⟩:∃ wa1,wa1=(w9.setCell ⟨gw,0,none⟩ (.int .i64 65536)).setCell ⟨gw,1,none⟩ (.int .i64 0):=⟨_,rfl⟩;have HVWa:=hid (show Vg wa1 gw 65536 0 by rw [hwa1];exact ⟨by go_simp,by go_simp⟩);replace HRJ9:=hid ((HRJ9.out.set (o:=0) (v:=.int .i64 65536) (show Bz≤gw by omega)).set (o:=1) (v:=.int .i64 0) (show Bz≤gw by omega));rw [← hwa1] at HRJ9;replace HJG9:=hid ((HJG9.out.next (aN _ gw 0 (.int .i64 65536)) (by omega)).next (aN _ gw 1 (.int .i64 0)) (by omega));replace HVP9:=hid ((HVP9.out.next (aN _ gw 0 (.int .i64 65536)) (by omega)).next (aN _ gw 1 (.int .i64 0)) (by omega));replace HVQ9:=hid ((HVQ9.out.next (aN _ gw 0 (.int .i64 65536)) (by omega)).next (aN _ gw 1 (.int .i64 0)) (by omega));replace HVD9:=hid ((HVD9.out.next (aN _ gw 0 (.int .i64 65536)) (by omega)).next (aN _ gw 1 (.int .i64 0)) (by omega));rw [← hwa1] at HJG9 HVP9 HVQ9 HVD9
        go_upto_region 26 with fail
        rw [← hwa1];clear hwa1 j0 j1 j2 j3 j4 j5 j6 k0 k1 k2 k3 k4 k5 k6 k7 HVW9 hfw HEQ;have HVW9:=HVWa;clear HVWa;refine wp_region_noPanic ?_;refine au (S:=(S2 (fun w'=>Rj w Bz g L1 w'∧Jg w' gx x∧Vg w' gp e1 e2∧Vg w' (gp+1) e3 e4∧Vg w' gd d1 d2∧Vg w' gw 65536 0))) (T:=(fun j=>[0,0,0,0,0,0,0,0,0,0,0,1].getD j 0)) (by kernel_rfl) (aC ⟨HRJ9.out.drew,HJG9.out.drew,HVP9.out.drew,HVQ9.out.drew,HVD9.out.drew,HVW9.out.drew⟩) (fun hH=>?_);have hWr4:aH (S2 (fun w'=>Rj w Bz g L1 w'∧Jg w' gx x∧Vg w' gp e1 e2∧Vg w' (gp+1) e3 e4∧Vg w' gd d1 d2∧Vg w' gw 65536 0)):=aK _;refine dn [(0,102),(1,103),(2,104),(3,105),(4,106),(5,107),(7,109),(8,110),(10,112)] 3 0 0 (L':=?Lr4_1) hWr4 hH ?hyr4_1 ?_
        case hyr4_1=>((iterate 9 apply dA;rfl;kernel_rfl;intro w' hSw;replace hSw:=aA hSw;(try dsimp only at hSw);have q0:=hSw.1;have q1:=hSw.2.1;have q2:=hSw.2.2.1;have q3:=hSw.2.2.2.1;have q4:=hSw.2.2.2.2.1;have q5:=hSw.2.2.2.2.2;skip;obtain ⟨qa1_0,qa1_1,qa1_2,qa1_3,qa1_4,qa1_5,qa1_6⟩:=id q1;obtain ⟨qa2_0,qa2_1⟩:=id q2;obtain ⟨qa3_0,qa3_1⟩:=id q3;obtain ⟨qa4_0,qa4_1⟩:=id q4;obtain ⟨qa5_0,qa5_1⟩:=id q5;(try simp only [sB,sC]);go_simp;(try with_reducible rfl));exact dw)
        simp only [sB,sC];refine U1 6 0 rfl (fun K hK=>?_)
        try clear hb
        go_simp
        (go_at_call 10;refine (HLE2.out _).mono ?_;rintro e wn ⟨rfl,hb⟩)
        refine hK.out _ _ ?hsr4_10 (fun hH2=>?hrr4_10)
        case hsr4_10=>exact aC (by have hG:=hH;replace hG:=aA hG;(try dsimp only at hG);have q0:=hG.1;have q1:=hG.2.1;have q2:=hG.2.2.1;have q3:=hG.2.2.2.1;have q4:=hG.2.2.2.2.1;have q5:=hG.2.2.2.2.2;exact ⟨mJ hb q0,mK hb q1,dL hb q2,dL hb q3,dL hb q4,dL hb q5⟩)
        clear hK K hH;have hH:=hH2;clear hH2
        try simp only [Act.put,sA,sB,sC]
        refine Ut 9 111 1 0 0 (v:=?vr4_11) rfl hWr4 hH ?hyr4_11 ?_
        case hyr4_11=>(intro w' hSw;clear hSw;go_simp;try (with_reducible rfl))
        simp only [sB,sC];refine U1 11 1 rfl (fun K hK=>?_)
        try clear hb
        have hG:=hH;replace hG:=aA hG;(try dsimp only at hG);have q0:=hG.1;have q1:=hG.2.1;have q2:=hG.2.2.1;have q3:=hG.2.2.2.1;have q4:=hG.2.2.2.2.1;have q5:=hG.2.2.2.2.2;have HRX:=hid q0;clear hG q0 q1 q2 q3 q4 q5;go_simp
        (go_at_call 112;refine (HPL.out _ HRX.out _ _ _).mono ?_;rintro e wn ⟨L2,rfl,hbl2,hm2,hg2⟩)
        refine hK.out _ _ ?hsr4_12 (fun hH2=>?hrr4_12)
        case hsr4_12=>exact dY
        clear hK K hH;have hH:=hH2;clear hH2
        try simp only [Act.put,sA,sB,sC]
        have HB2:=hid hbl2;have HM2:=hid hm2;have HBE:=hid (HRX.out.next hg2);clear hbl2 hm2 hg2 HRX;refine ak (by kernel_rfl) ?_ _ _;refine NoPanic.normal ?_;go_wp2;go_roundw
        case rel=>exact ⟨m+1,by omega,by go_num,L2,by rw [HST.out];exact HM2.out.trans HQ9.out.symm,HBE.out,.inr ⟨g,cap,by rw [HLL.out _ HM2.out],hg0,by rw [HLL.out _ HM2.out];exact hc1,hc2,HB2.out⟩⟩
        case measure=>simp [intOf] <;> omega
       | false =>
        have hd0:¬ (d1=0∧d2=0):=by simpa using hev.symm
        have hq9:gG (L1.map aF) x st=jE (L1.map aF) x u1 u2 (lz-x.len) st:=by have h9:=FX (Q:=L1.map aF) (st:=st) hz (by rw [HD1.out,HD2.out];exact hd0);rw [h9,HD1.out,HD2.out,HU1.out,HU2.out,HLZ.out]
        have HQ9:=hid hq9;clear hq9;clear hd0 hev hz
        go_upto_region 26 with fail
        clear j0 j1 j2 j3 j4 j5 j6 k0 k1 k2 k3 k4 k5 k6 k7 hfw HEQ;refine wp_region_noPanic ?_;refine au (S:=(S2 (fun w'=>Rj w Bz g L1 w'∧Jg w' gx x∧Vg w' gp e1 e2∧Vg w' (gp+1) e3 e4∧Vg w' gd d1 d2∧Vg w' gw u1 u2))) (T:=(fun j=>[0,0,0,0,0,0,0,0,0,0,0,1].getD j 0)) (by kernel_rfl) (aC ⟨HRJ9.out.drew,HJG9.out.drew,HVP9.out.drew,HVQ9.out.drew,HVD9.out.drew,HVW9.out.drew⟩) (fun hH=>?_);have hWr5:aH (S2 (fun w'=>Rj w Bz g L1 w'∧Jg w' gx x∧Vg w' gp e1 e2∧Vg w' (gp+1) e3 e4∧Vg w' gd d1 d2∧Vg w' gw u1 u2)):=aK _;refine dn [(0,102),(1,103),(2,104),(3,105),(4,106),(5,107),(7,109),(8,110),(10,112)] 3 0 0 (L':=?Lr5_1) hWr5 hH ?hyr5_1 ?_
        case hyr5_1=>((iterate 9 apply dA;rfl;kernel_rfl;intro w' hSw;replace hSw:=aA hSw;(try dsimp only at hSw);have q0:=hSw.1;have q1:=hSw.2.1;have q2:=hSw.2.2.1;have q3:=hSw.2.2.2.1;have q4:=hSw.2.2.2.2.1;have q5:=hSw.2.2.2.2.2;skip;obtain ⟨qa1_0,qa1_1,qa1_2,qa1_3,qa1_4,qa1_5,qa1_6⟩:=id q1;obtain ⟨qa2_0,qa2_1⟩:=id q2;obtain ⟨qa3_0,qa3_1⟩:=id q3;obtain ⟨qa4_0,qa4_1⟩:=id q4;obtain ⟨qa5_0,qa5_1⟩:=id q5;(try simp only [sB,sC]);go_simp;(try with_reducible rfl));exact dw)
        simp only [sB,sC];refine U1 6 0 rfl (fun K hK=>?_)
        try clear hb
        go_simp
        (go_at_call 10;refine (HLE2.out _).mono ?_;rintro e wn ⟨rfl,hb⟩)
        refine hK.out _ _ ?hsr5_10 (fun hH2=>?hrr5_10)
        case hsr5_10=>exact aC (by have hG:=hH;replace hG:=aA hG;(try dsimp only at hG);have q0:=hG.1;have q1:=hG.2.1;have q2:=hG.2.2.1;have q3:=hG.2.2.2.1;have q4:=hG.2.2.2.2.1;have q5:=hG.2.2.2.2.2;exact ⟨mJ hb q0,mK hb q1,dL hb q2,dL hb q3,dL hb q4,dL hb q5⟩)
        clear hK K hH;have hH:=hH2;clear hH2
        try simp only [Act.put,sA,sB,sC]
        refine Ut 9 111 1 0 0 (v:=?vr5_11) rfl hWr5 hH ?hyr5_11 ?_
        case hyr5_11=>(intro w' hSw;clear hSw;go_simp;try (with_reducible rfl))
        simp only [sB,sC];refine U1 11 1 rfl (fun K hK=>?_)
        try clear hb
        have hG:=hH;replace hG:=aA hG;(try dsimp only at hG);have q0:=hG.1;have q1:=hG.2.1;have q2:=hG.2.2.1;have q3:=hG.2.2.2.1;have q4:=hG.2.2.2.2.1;have q5:=hG.2.2.2.2.2;have HRX:=hid q0;clear hG q0 q1 q2 q3 q4 q5;go_simp
        (go_at_call 112;refine (HPL.out _ HRX.out _ _ _).mono ?_;rintro e wn ⟨L2,rfl,hbl2,hm2,hg2⟩)
        refine hK.out _ _ ?hsr5_12 (fun hH2=>?hrr5_12)
        case hsr5_12=>exact dY
        clear hK K hH;have hH:=hH2;clear hH2
        try simp only [Act.put,sA,sB,sC]
        have HB2:=hid hbl2;have HM2:=hid hm2;have HBE:=hid (HRX.out.next hg2);clear hbl2 hm2 hg2 HRX;refine ak (by kernel_rfl) ?_ _ _;refine NoPanic.normal ?_;go_wp2;go_roundw
        case rel=>exact ⟨m+1,by omega,by go_num,L2,by rw [HST.out];exact HM2.out.trans HQ9.out.symm,HBE.out,.inr ⟨g,cap,by rw [HLL.out _ HM2.out],hg0,by rw [HLL.out _ HM2.out];exact hc1,hc2,HB2.out⟩⟩
        case measure=>simp [intOf] <;> omega
      ·have hmn : m = J.length := by omega
       subst hmn;have HRW:=hid hrv;clear hrv;go_wp2;go_roundw
       case rel=>exact ⟨k+1,by omega,by go_num,by rw [HRS.out];exact HRW.out⟩
       case measure=>simp [intOf] <;> omega
    ·have hkn : k = rn := by omega
     subst hkn;obtain ⟨A2,n2,c2,L2,rfl,hs2,hm2,hB2⟩:=HRV.out.ret (by rw [HLK.out.len,List.length_map];exact h64);clear HRV;go_wp2;exact bodyPost_ret (v:=.tuple #[.slice A2 n2 c2,.int .i64 0]) (by simp [results,Tryz.results48,go_sem]) rfl ⟨A2,n2,c2,L2,by rw [HRE.out],hs2,by rw [HRQ.out];exact hm2,hB2⟩
def OQ (B:Nat) (L:List BE):Prop:=∀ y ∈ L,∀ bx off,y.A=some ⟨bx,off,none⟩→B≤bx

def MH (w0:World) (gs g gc gq cap cc cq:Nat) (L:List BE) (C:List Ct) (R:List Rw) (i:Nat) (S:List QB × Ct) (e:Ending) (w':World):Prop:=∃ (L':List BE) (C':List Ct),e = .returned (.tuple #[])∧Sr w0 gs g gc gq cap cc cq L' C' R w'∧L'.map aF=S.1∧C'=C.set i S.2∧∀ y ∈ L',y ∈ L∨∀ bx off,y.A=some ⟨bx,off,none⟩→w0.heap.size≤bx
theorem zh (gs g gc gq cap cc cq i ka kb:Nat) (L:List BE) (C:List Ct) (R:List Rw) (x:Ct) (r:Rw) (w:World) (h:Sr w gs g gc gq cap cc cq L C R w) (hv:∀ y ∈ L,aT y.b y.l=0) (h64:L.length≤64) (hok:fT L.length x) (hi:i<C.length) (hx:C[i]? = some x) (hir:i<R.length) (hr:r=R[i]'hir) (hb:0≤r.bound) (hxa:x.a=ka) (hxb:x.b=kb) (hcc:C.length≤cc) (hcq:R.length≤cq) (hrz:r.slip=0∧r.ease=0) :
  Calls Tryz.prog 118 #[.pointer (some ⟨gs,0,none⟩),.int .i64 i] w (MH w gs g gc gq cap cc cq L C R i (jA (L.map aF) x r)):=by
 have HRS0:=hid hrz;clear hrz;have hab:ka<kb:=by have:=hok.1;omega
 have HKL:Hid (ka<L.length∧kb<L.length∧L.length≤64):=by have:=hok.1;show _∧_∧_;omega
 have HGS:=hid h.ne.2.1;have HVL:=hid hv;have HOKx:=hid hok;have HXx:Hid (x.a=ka∧x.b=kb):=⟨hxa,hxb⟩;have HIx:Hid (i<C.length∧C[i]? = some x):=⟨hi,hx⟩;have HR:=hid hr;have HBN:=hid hb
 have HC0:Hid (C=C.set i x):=by
  have hxi:C[i]=x:=by rw [List.getElem?_eq_getElem hi] at hx;exact Option.some.inj hx
  show _=_;rw [← hxi,List.set_getElem_self]
 have hxl:∀ {y:BE},y ∈ L→y.l≠[]:=fun {y} hy e=>by have:=hv y hy;rw [e] at this;exact absurd (bJ this).1 (by decide)
 have HLO:Hid (∀ y ∈ L,∀ bx off,y.A=some ⟨bx,off,none⟩→bx<w.heap.size):=fun y hy=>kI (h.bl.co y hy) (hxl hy)
 have HSR:=hid h;have hic:(i:Int)<(C.length:Int):=by omega
 have hirc:(i:Int)<(R.length:Int):=by omega
 clear h hv hok hx hr hb hxa hxb hxl hi h64
 go_enter Tryz.func118,Tryz.ntmps118
 go_upto_region 0 with fail
 refine wp_region_noPanic ?_;refine au (S:=(S2 (fun w'=>Sr w gs g gc gq cap cc cq L C R w'))) (T:=(fun j=>[0,0,0,0,0,0,0,0,0,0,0,0,0,0,0,1].getD j 0)) (by kernel_rfl) (aC HSR.out.drew) (fun hH=>?_);have hWr11:aH (S2 (fun w'=>Sr w gs g gc gq cap cc cq L C R w')):=aK _;refine dn [(0,9),(1,10),(2,11),(3,12),(4,13),(5,14),(6,15),(7,16),(8,17),(9,18),(10,19),(11,20),(12,21)] 3 0 0 (L':=?Lr11_1) hWr11 hH ?hyr11_1 ?_
 case hyr11_1=>((iterate 13 apply dA;rfl;kernel_rfl;intro w' hSw;replace hSw:=aA hSw;(try dsimp only at hSw);have q0:=hSw;have qa0_s0:=(q0).s0;have qa0_s1:=(q0).s1;have qa0_s2:=(q0).s2;obtain ⟨qa0_0,qa0_1,qa0_2,qa0_3,qa0_4,qa0_5,qa0_6,qa0_7,qa0_8,qa0_9⟩:=uo (q0).cl HIx.out.1 HIx.out.2;obtain ⟨b0_0,b0_1,b0_2,b0_3,b0_4,b0_5⟩:=C8 (q0).rl hir HR.out;(try simp only [sB,sC]);go_simp;(try with_reducible rfl));exact dw)
 simp only [sB,sC];refine U1 13 0 rfl (fun K hK=>?_)
 try clear hb
 have hG:=hH;replace hG:=aA hG;(try dsimp only at hG);have q0:=hG;go_simp;refine hK.out _ _ ?hsr11_14 (fun hH2=>?hrr11_14)
 case hsr11_14=>exact aC (by have hG:=hH;replace hG:=aA hG;(try dsimp only at hG);have q0:=hG;exact q0.alloc _)
 clear hK K hH;have hH:=hH2;clear hH2
 try simp only [Act.put,sA,sB,sC]
 have hR:Rz ((w.alloc (.cells #[.int .i64 0,.int .i64 0,.int .i64 0,.int .i64 0,.int .i64 0,.int .i64 0] 173)).drew) w.heap.size:=Rz.drew (Rz.here w 173);obtain ⟨gR,hgR⟩:∃ g,g=w.heap.size:=⟨_,rfl⟩;have hlR:w.heap.size≤gR:=by rw [hgR];have h9:=q0.gr.size;exact h9
 rw [← hgR] at hR
 try rw [← hgR]
 clear hgR q0;generalize (w.alloc (.cells #[.int .i64 0,.int .i64 0,.int .i64 0,.int .i64 0,.int .i64 0,.int .i64 0] 173)).drew=wx13 at *
 refine Ut 14 4 1 0 0 (v:=?vr11_15) rfl hWr11 hH ?hyr11_15 ?_
 case hyr11_15=>(intro w' hSw;clear hSw;go_simp;try (with_reducible rfl))
 simp only [sB,sC];refine U1 15 1 rfl (fun K hK=>?_)
 try clear hb
 have hG:=hH;replace hG:=aA hG;(try dsimp only at hG);have fq0:=hG;have HSR:=hid fq0;obtain ⟨z0,z1,z2,z3,z4,z5,y0,y1,y2,y3,y4,y5⟩:=hR.all;have yf:=hR.free;clear hG fq0;go_simp;refine hK.out _ _ ?hsr11_16 (fun hH2=>?hrr11_16)
 case hsr11_16=>exact dY
 clear hK K hH;have hH:=hH2;clear hH2
 try simp only [Act.put,sA,sB,sC]
 refine ak (by kernel_rfl) ?_ _ _;refine NoPanic.normal ?_;obtain ⟨w5,hw5⟩:∃ w5,w5=(((((wx13.setCell ⟨gR,0,none⟩ (.int .i64 r.t1)).setCell ⟨gR,1,none⟩ (.int .i64 r.t2)).setCell ⟨gR,2,none⟩ (.int .i64 r.ease)).setCell ⟨gR,3,none⟩ (.int .i64 r.slip)).setCell ⟨gR,4,none⟩ (.int .i64 r.lift)).setCell ⟨gR,5,none⟩ (.int .i64 r.bound):=⟨_,rfl⟩;have HNR:∀ y ∈ L,∀ bx off,y.A=some ⟨bx,off,none⟩→bx≠gR:=fun y hy bx off e=>by have h9:=HLO.out y hy bx off e;omega
 have HSR5:=hid ((((((HSR.out.off (o:=0) (v:=.int .i64 r.t1) hlR HNR).off (o:=1) (v:=.int .i64 r.t2) hlR HNR).off (o:=2) (v:=.int .i64 r.ease) hlR HNR).off (o:=3) (v:=.int .i64 r.slip) hlR HNR).off (o:=4) (v:=.int .i64 r.lift) hlR HNR).off (o:=5) (v:=.int .i64 r.bound) hlR HNR);have HRG:=hid (show Rg w5 gR r.t1 r.t2 r.ease r.slip r.lift r.bound by rw [hw5];exact ⟨by go_simp,by go_simp,by go_simp,by go_simp,by go_simp,by go_simp,fun j=>by go_simp⟩);rw [← hw5] at HSR5;clear HSR y0 y1 y2 y3 y4 y5 yf;have HSR:=HSR5;clear HSR5
 try clear hH
 go_upto_region 1 with fail
 rw [← hw5];clear hw5;obtain ⟨rr0,rr1,rr2,rr3,rr4,rr5,rrf⟩:=HRG.out;have hz:=HRS0.out.1;have HS9:Hid (pU (L.map aF) x r=(L.map aF,x)):=by show pU _ _ _=_;unfold pU;rw [if_pos hz]
 have hzb0:(r.slip != 0)=false:=by simp [hz]
 clear hz
 go_upto_region 6 with fail
 clear rr0 rr1 rr2 rr3 rr4 rr5 rrf hzb0;obtain ⟨rr0,rr1,rr2,rr3,rr4,rr5,rrf⟩:=HRG.out;have hz:=HRS0.out.2;have HQ9:Hid (jA (L.map aF) x r=(L.map aF,x)):=by show jA _ _ _=_;unfold jA;rw [HS9.out];show uX (L.map aF) x r=_;unfold uX;rw [if_pos hz]
 have hzb:(r.ease != 0)=false:=by simp [hz]
 clear hz;have HB9:=hid HSR.out;clear HRG HSR;go_wp2;exact bodyPost_ret (v:=.tuple #[]) (by simp [results,Tryz.results118,go_sem]) rfl ⟨L,C,rfl,HB9.out,by rw [HQ9.out],by rw [HQ9.out];exact HC0.out,fun y hy=>.inl hy⟩
end
end Go.Proofs.YtokgmcomgflloaaGreat
