/- Parts of a proof: contracts and laws. -/
import Derived.Test.YtokgmcomgflloaaGreatQX20
import Derived.Test.YtokgmcomgflloaaGreatQX12
import Derived.Test.YtokgmcomgflloaaGreatQX16
import Derived.Test.YtokgmcomgflloaaGreatQX04
import Derived.Test.YtokgmcomgflloaaGreatQX14
set_option maxRecDepth 100000
set_option maxHeartbeats 16000000
namespace Go.Proofs.YtokgmcomgflloaaGreat
section
set_option linter.unusedVariables false
set_option linter.unusedSimpArgs false
open Go.RowKit
variable {w0 w w':World}

structure Rq (w0 : World) (g : Nat) (L : List BE) (w : World) : Prop where
 bl:BL w g L
 gr:w0.grownBy w (some g)
 lt:g<w0.heap.size
 lo:∀ y ∈ L,∀ bx off,y.A=some ⟨bx,off,none⟩→bx<w0.heap.size
 sz:w0.heap.size≤w.heap.size
theorem EM {g:Nat} {L:List BE} {w w':World} (hb:Below w.heap.size w w') (h:Rq w0 g L w):Rq w0 g L w':=⟨eX hb h.bl,fA h.gr (dz hb),h.lt,h.lo,Nat.le_trans h.sz hb.size⟩
theorem Rq.drew {g:Nat} {L:List BE} {w:World} (h:Rq w0 g L w):Rq w0 g L w.drew:=EM (Below.refl _ _).drew h
theorem Rq.alloc {g:Nat} {L:List BE} {w:World} (h:Rq w0 g L w) (o:Obj):Rq w0 g L (w.alloc o):=EM Ba h
theorem Rq.set {g:Nat} {L:List BE} {w:World} (h:Rq w0 g L w) {k o:Nat} {v:Value} (hk:w0.heap.size≤k):Rq w0 g L (w.setCell ⟨k,o,none⟩ v) :=
 have hlt:=h.lt
 ⟨h.bl.off (by omega) (fun y hy bx off e=>by have:=h.lo y hy bx off e;omega),⟨h.gr.os,h.gr.tape,h.gr.output,by simp;exact h.gr.size,fun j hj hne=>by
  have e:=(aX w k o v).block j (Nat.lt_of_lt_of_le hj h.sz) (by simp;omega)
  exact e.trans (h.gr.block j hj hne)⟩,h.lt,h.lo,by simp;exact h.sz⟩

theorem r9 (A:Option Addr) (n c:Nat) (l:List BE) (w:World) (hS:dD jH w A n c l) (hl:l.length≤100000):Calls Tryz.prog 44 #[.slice A n c] w fun e w'=>∃ s,e = .returned s∧aN jH 27 w' w.heap.size s l∧Below w.heap.size w w':=by
 have hcmp:∀ w':World,(binOp .eql 29 (.slice A n c) (.slice none 0 0)).run Tryz.prog w' = .ok (.bool A.isNone) w':=fun w'=>Lib.run_eql_slice_nil w' 29 _ A n c 0 0 Tryz.underlying29
 cases A with
 | none =>
  have hl0:l=[]:=by
   rcases l with _ | ⟨a,r⟩
   ·rfl
   ·obtain ⟨b,off,h,_⟩:=hS.at_ (by simp);cases h
  subst hl0;clear hS
  go_enter Tryz.func44,Tryz.ntmps44
  go_wp2;refine bodyPost_ret (v:=.slice none 0 0) (by simp [results,Tryz.results44,go_sem]) rfl ⟨_,rfl,aN.nil _ _ _ _,Below.refl _ _⟩
 | some ad =>
  have hn:=hS.len;have HS:=hid hS;clear hS;subst hn;have HO:Hid (aN jH 27 (w.alloc (.cells #[] 27)) w.heap.size (.slice (some ⟨w.heap.size,0,none⟩) 0 0) []):=⟨by simp [dF],.inr ⟨w.heap.size,0,#[],rfl,Nat.le_refl _,heap_alloc_new w _,Nat.le_refl _,Nat.zero_le _,by simp,by simp [dF]⟩⟩;have hb0:Below w.heap.size w (w.alloc (.cells #[] 27)):=by go_grown
  go_enter Tryz.func44,Tryz.ntmps44
  go_wp2_with (at_builtin;refine iQ vv rfl _ _ rfl w.heap.size _ [] rfl HO.out _ _ _ l rfl (HS.out.below hb0) (by first | omega | (simp;omega)) (by first | omega | (simp;omega)) (by simp) ?_;intro v' w1 ho1 hg1 hat;have HO1:=hid ho1;have hb1:=hid (hb0.grown hg1 (by simp) (fun k hk=>(HO.out.lt hk).1));clear ho1 hg1 hat)
  obtain ⟨A',n',c',rfl,-,-⟩:=HO1.out.sl;refine bodyPost_ret (v:=.slice A' n' c') (by simp [results,Tryz.results44,go_sem]) rfl ⟨_,rfl,by simpa using HO1.out,hb1.out⟩

theorem RV.own {w w1:World} {s:Value} {L:List BE} (ho:aN jH 27 w1 w.heap.size s L) (hb:Below w.heap.size w w1) (hc:∀ x ∈ L,Sl w x.A x.n x.c x.l) (hv:∀ x ∈ L,aJ x.b x.l=0):RV w s (L.map bK) w1:=by
 refine ⟨L,rfl,hb,?_⟩
 rcases ho.form with ⟨h1,h2⟩ | ⟨g,cap,hs,h1,h2,h3,h4,h5,h6⟩
 ·exact .inl ⟨h1,h2⟩
 ·refine .inr ⟨g, cap, hs, h1, h3, h4, ⟨h6, h5, fun x hx => (hc x hx).below hb, fun x hx bx off e => fun e2 => ?_⟩⟩;have:=lX (hc x hx) (fun e=>by have:=hv x hx;rw [e] at this;exact absurd (bU this).1 (by decide)) bx off e;omega
theorem lW (A B:Option Addr) (n c n' c':Nat) (L:List BE) (J:List Jt) (w:World) (hS:iE w A n c L) (hJ:dD gV w B n' c' J) (hJ0:J=[]) :
  Calls Tryz.prog 59 #[.slice A n c,.slice B n' c'] w (dw (.int .i64 (aQ L J)) w):=by
 have HJ0:Hid (J.length=0):=hid (by rw [hJ0];rfl);clear hJ0;have hn:=hS.sl.len;have hcap:=hS.sl.cap;have hbig:=hS.sl.big;have hn':=hJ.len;have hcap':=hJ.cap;have hbig':=hJ.big;subst hn hn';have HSL:=hid (fun (w':World) (hb:Below w.heap.size w w')=>hS.below hb);have HSJ:=hid (fun (w':World) (hb:Below w.heap.size w w')=>hJ.below hb);have HCK:=hid (gZ A L.length c L w hS);clear hS hJ
 go_enter Tryz.func59,Tryz.ntmps59
 go_wp2_with fail
 refine HCK.out.mono ?_;rintro e w1 ⟨rfl,hB⟩;clear HCK
 by_cases hE:aG L=0
 case neg =>
  have HR:Hid (aQ L J=aG L):=by show _=_;unfold aQ;rw [if_pos hE]
  have hne:(aG L != 0)=true:=by simp [hE]
  generalize aG L=z at *
  go_wp2
  go_returns
  exact aj HR.out.symm hB
 obtain ⟨h64,hval⟩:=bZ hE;have HV:=hid hval
 by_cases h32:32<J.length
 ·have HR : Hid (aQ L J = 2) := by show _ = _; unfold aQ; rw [if_neg (by simp [hE]), if_pos h32]
  rw [hE];clear hE hval;go_wp2
  go_returns
  exact aj HR.out.symm hB
 have HJ:Hid (aQ L J=lV L J J.length):=by show _=_;unfold aQ;rw [if_neg (by simp [hE]),if_neg h32]
 rw [hE];clear hE hval;go_wp2
 go_loopw [19] (fun i wr=>∃ k:Nat,k≤J.length∧i = .int .i64 k∧lV L J k=0∧Below w.heap.size w wr) (fun i _=>J.length-(intOf i).toNat)
 case atStart=>exact ⟨0,Nat.zero_le _,rfl,rfl,hB⟩
 case round =>
  clear hB;obtain ⟨k,hk,rfl,hz,hB⟩:=hrel;obtain ⟨wo,rfl⟩:∃ wo:World,wo=wr:=⟨_,rfl⟩
  by_cases hlt:k<J.length
  ·exact absurd hlt (by have:=HJ0.out;omega)
  ·have hkn : k = J.length := by omega
   subst hkn;have HR:Hid (aQ L J=0):=by show _=_;rw [HJ.out];exact hz
   clear hz;go_wp2
   go_returns
   exact aj HR.out.symm hB
theorem yc (A B:Option Addr) (n c n' c':Nat) (L:List BE) (J:List Jt) (st r:Int) (w:World) (hS:iE w A n c L) (hJ:dD gV w B n' c' J) (hJ0:J=[]) :
  Calls Tryz.prog 48 #[.slice A n c,.slice B n' c',.int .i64 st,.int .i64 r] w (zI (sN L J st r) (Ae L J st r) w):=by
 have HJ0:Hid (J.length=0):=hid (by rw [hJ0];rfl);have hn:=hS.sl.len;have hcap:=hS.sl.cap;have hbig:=hS.sl.big;have hn':=hJ.len;have hcap':=hJ.cap;have hbig':=hJ.big;subst hn hn';have HS:=hid hS;have HJ:=hid hJ;have HCK:=hid (lW A B L.length c J.length c' L J w hS hJ hJ0);clear hJ0;clear hS hJ
 go_enter Tryz.func48,Tryz.ntmps48
 go_wp2_with fail
 refine HCK.out.mono ?_;rintro e w1 ⟨rfl,hB1⟩;clear HCK
 have HNIL:Hid (∀ (z:Int) (wx:World),z≠0→sN L J st r=z→Below w.heap.size w wx→zI (sN L J st r) (Ae L J st r) w (.returned (.tuple #[.slice none 0 0,.int .i64 z])) wx):=fun z wx hz he hb =>
  ⟨none,0,0,[],by rw [he],⟨dD.nil _ _,fun x hx=>by cases hx⟩,by unfold Ae;rw [if_neg (by rw [he];exact hz)];rfl,hb⟩
 by_cases hE:aQ L J=0
 case neg =>
  have HR:=hid (HNIL.out (aQ L J) w1 hE (by unfold sN;rw [if_pos hE]) hB1);have hne:(aQ L J != 0)=true:=by simp [hE]
  generalize aQ L J=z at *
  go_wp2;exact bodyPost_ret (v:=.tuple #[.slice none 0 0,.int .i64 z]) (by simp [results,Tryz.results48,go_sem]) rfl HR.out
 obtain ⟨hbe,hj32,hjs⟩:=iU hE;obtain ⟨h64,hval⟩:=bZ hbe;have HV:=hid hval;have HJS:=hid hjs
 by_cases hbad:st<1∨65536<st∨r<0∨32<r
 ·have HR := hid (HNIL.out 1 w1 (by decide) (by unfold sN; rw [if_neg (by simp [hE]), if_pos hbad]) hB1);rw [hE];clear hE hbe hval hjs HNIL
  by_cases c1:st<1
  ·go_wp2;exact bodyPost_ret (v:=.tuple #[.slice none 0 0,.int .i64 1]) (by simp [results,Tryz.results48,go_sem]) rfl HR.out
  by_cases c2:65536<st
  ·go_wp2;exact bodyPost_ret (v:=.tuple #[.slice none 0 0,.int .i64 1]) (by simp [results,Tryz.results48,go_sem]) rfl HR.out
  by_cases c3:r<0
  ·go_wp2;exact bodyPost_ret (v:=.tuple #[.slice none 0 0,.int .i64 1]) (by simp [results,Tryz.results48,go_sem]) rfl HR.out
  have c4:32<r:=by omega
  go_wp2;exact bodyPost_ret (v:=.tuple #[.slice none 0 0,.int .i64 1]) (by simp [results,Tryz.results48,go_sem]) rfl HR.out
 have c1:¬ st<1:=fun h=>hbad (.inl h)
 have c2:¬ 65536<st:=fun h=>hbad (.inr (.inl h))
 have c3:¬ r<0:=fun h=>hbad (.inr (.inr (.inl h)))
 have c4:¬ 32<r:=fun h=>hbad (.inr (.inr (.inr h)))
 have HRE:Hid (sN L J st r=0):=by show _=_;unfold sN;rw [if_neg (by simp [hE]),if_neg hbad]
 have HRQ:Hid (Ae L J st r=jB (L.map bK) J st r.toNat):=by show _=_;unfold Ae;rw [if_pos HRE.out]
 have HFJ:Hid (∀ x ∈ J,EX (L.map bK).length x):=fun x hx=>by rw [List.length_map];exact (qX (hjs x hx)).1
 rw [hE];clear hE hbe hval hjs HNIL hbad;go_wp2;have HC1:=hid c1;have HC2:=hid c2;clear c1 c2;obtain ⟨rn,rfl⟩:∃ rn:Nat,r=rn:=⟨r.toNat,by omega⟩;rw [Int.toNat_natCast] at HRQ;have hrn:rn≤32:=by omega
 clear c3 c4
 go_loopw [11,43] (fun o i wr=>∃ (k:Nat) (L':List BE),k≤L.length∧i = .int .i64 k∧RJ w o L' wr∧L'.map bK=(L.map bK).take k) (fun _ i _=>L.length-(intOf i).toNat)
 case atStart=>exact ⟨0,[],Nat.zero_le _,rfl,⟨aN.nil _ _ _ _,fun x hx=>(by cases hx),hB1⟩,rfl⟩
 case round =>
  clear hB1;obtain ⟨k,L',hk,rfl,hrj,hmp⟩:=hrel;obtain ⟨wo,rfl⟩:∃ wo:World,wo=wr:=⟨_,rfl⟩;obtain ⟨s0,rfl⟩:∃ s0:Value,s0=u11:=⟨_,rfl⟩;have HRJ:=hid hrj;have HMP:=hid hmp;clear hrj hmp
  by_cases hlt:k<L.length
  ·obtain ⟨ba, off, hA, hC⟩ := (HS.out.below HRJ.out.bel).sl.at_ (by intro h; subst h; simp at hlt);subst hA;obtain ⟨x,hx⟩:∃ x,x=L[k]:=⟨_,rfl⟩;have hxm:x ∈ L:=by rw [hx];exact List.getElem_mem hlt
   have hxs:Sl wo x.A x.n x.c x.l:=(HS.out.below HRJ.out.bel).co x hxm;have hxv:=(bU (HV.out x hxm)).1;have hx3:=pI (iL hxv);have HXN:Hid (x.l≠[]):=fun e=>by rw [e] at hxv;exact absurd hxv (by decide)
   obtain ⟨d0,d1,d2,d3,d4,d5,d6,d7,d8,d9,d10,d11,d12⟩:=dB hC hlt hx;have hbo:=hC.lt;have hlt':(k:Int)<(L.length:Int):=by omega
   have hkw:IntKind.i64.wrap ((k:Int)+1)=(k:Int)+1:=IntWalk.i64_in _ (by omega);obtain ⟨wj,hwj⟩:∃ wj,wj=wo.alloc (.cells #[.int .i64 x.b.px,.int .i64 x.b.py,.int .i64 x.b.vx,.int .i64 x.b.vy,.int .i64 x.b.ang,.int .i64 x.b.spin,.int .i64 x.b.mass,.int .i64 x.b.iner,.int .i64 x.b.bounce,.int .i64 x.b.rub,.slice x.A x.n x.c,.bool x.b.asleep,.int .i64 x.b.calm] 27):=⟨_,rfl⟩;have HBJ:=hid (show Below wo.heap.size wo wj by rw [hwj];go_grown);have HK:=hid (show bC wj wo.heap.size x.b x.A x.n x.c by rw [hwj];exact bC.here wo x.b x.A x.n x.c _);have HCL:=hid (lF x.A x.n x.c x.l wj (hxs.below HBJ.out) (by omega))
   have HTK:Hid (L'.map bK ++ [bK x]=(L.map bK).take (k+1)):=by
    show _=_;rw [HMP.out,List.take_add_one,List.getElem?_map,List.getElem?_eq_getElem hlt,← hx];rfl
   have HLL:Hid (L'.length≤64):=by
    have:=congrArg List.length HMP.out;simp at this;show _≤_;omega
   clear hC hx hxs hxv hx3
   go_upto_region 10 with fail
   rw [← hwj];clear hwj d0 d1 d2 d3 d4 d5 d6 d7 d8 d9 d10 d11 d12 hbo;obtain ⟨k0,k1,k2,k3,k4,k5,k6,k7,k8,k9,k10,k11,k12,kf⟩:=HK.out
   go_wp2_with fail
   refine HCL.out.mono ?_;rintro e w3 ⟨A1,n1,c1,rfl,hs1,hf1,hb1⟩;clear k0 k1 k2 k3 k4 k5 k6 k7 k8 k9 k10 k11 k12 kf HCL;have HK3:=hid (bJ hb1 HK.out);obtain ⟨w4,hw4⟩:∃ w4,w4=w3.setCell ⟨wo.heap.size,10,none⟩ (.slice A1 n1 c1):=⟨_,rfl⟩;have hjo:wo.heap.size<wj.heap.size:=HK.out.lt;have HF1:Hid (∀ bx off,A1=some ⟨bx,off,none⟩→wo.heap.size<bx):=fun bx off e=>by have:=hf1 bx off e;omega
   have HK4:=hid (show bC w4 wo.heap.size x.b A1 n1 c1 by rw [hw4];exact HK3.out.set_slice);have HS4:=hid (show Sl w4 A1 n1 c1 x.l by rw [hw4];exact hs1.setAt (fun bx off e=>by have:=HF1.out bx off e;omega));have HR4:=hid (show RJ w s0 L' w4 by rw [hw4];exact RJ.set HRJ.out (Et hb1 (Et HBJ.out HRJ.out)) (Nat.le_refl _));obtain ⟨k0,k1,k2,k3,k4,k5,k6,k7,k8,k9,k10,k11,k12,kf⟩:=HK3.out;clear hs1 hf1 hb1 hjo HK HBJ
   go_upto_region 11 with fail
   rw [← hw4];clear hw4 k0 k1 k2 k3 k4 k5 k6 k7 k8 k9 k10 k11 k12 kf HK3;obtain ⟨k0,k1,k2,k3,k4,k5,k6,k7,k8,k9,k10,k11,k12,kf⟩:=HK4.out;clear HK4
   go_wp2_with (at_builtin;refine Hid.out ?_)
   refine hid ?_;refine dG vv rfl _ _ rfl w.heap.size _ _ rfl (HR4.out.own.alloc _) w4.heap.size 0 1 1 [⟨x.b,A1,n1,c1,x.l⟩] rfl rfl (ku (bC.here w4 x.b A1 n1 c1 _)) ?c4 ?c5 ?c6 ?c7
   case c4=>have:=HLL.out;simp;omega
   case c5=>have:=HLL.out;simp;omega
   case c6=>have:=HR4.out.bel.size;simp;omega
   case c7 =>
    intro v' w7 ho1 hg1 hat;have HR7:=hid (RJ.push HRJ.out HR4.out (y:=⟨x.b,A1,n1,c1,x.l⟩) HS4.out HXN.out (fun bx off e=>by have:=HF1.out bx off e;omega) ho1 hg1 hat);clear ho1 hg1 hat k0 k1 k2 k3 k4 k5 k6 k7 k8 k9 k10 k11 k12 kf HS4 HR4;go_wp2;go_roundw
    case rel=>exact ⟨k+1,_,by omega,by go_num,HR7.out,by rw [List.map_append];exact HTK.out⟩
    case measure=>simp [intOf] <;> omega
  ·have hkn : k = L.length := by omega
   subst hkn
   have HRV:Hid (RV w s0 (L.map bK) wo):=by
    have:=HRJ.out.rv;rw [HMP.out,List.take_of_length_le (by simp)] at this;exact this
   clear HRJ HMP hlt hk;go_wp2
   go_loopw [57] (fun i wr=>∃ k:Nat,k≤rn∧i = .int .i64 k∧RV w s0 (jB (L.map bK) J st k) wr) (fun i _=>rn-(intOf i).toNat)
   case atStart=>exact ⟨0,Nat.zero_le _,rfl,HRV.out⟩
   case round =>
    clear HRV;obtain ⟨k,hk,rfl,hrv⟩:=hrel;have HRV:=hid hrv;clear hrv;obtain ⟨wa,rfl⟩:∃ wa:World,wa=wr:=⟨_,rfl⟩;have hkw:IntKind.i64.wrap ((k:Int)+1)=(k:Int)+1:=IntWalk.i64_in _ (by omega);have HLK:=hid (nu HFJ.out st k)
    by_cases hlt:k<rn
    ·have hlt' : (k : Int) < (rn : Int) := by omega
     have HRS:Hid (jB (L.map bK) J st (k+1)=eY (jB (L.map bK) J st k) J st J.length):=rfl;obtain ⟨QK,hQK⟩:∃ q,q=jB (L.map bK) J st k:=⟨_,rfl⟩;rw [← hQK] at HRV HLK HRS;clear hQK;go_wp2
     go_loopw [61] (fun i wr=>∃ m:Nat,m≤J.length∧i = .int .i64 m∧RV w s0 (eY QK J st m) wr) (fun i _=>J.length-(intOf i).toNat)
     case atStart=>exact ⟨0,Nat.zero_le _,rfl,HRV.out⟩
     case round =>
      clear HRV;obtain ⟨m,hm,rfl,hrv⟩:=hrel;obtain ⟨wi,rfl⟩:∃ wi:World,wi=wr:=⟨_,rfl⟩;have hmw:IntKind.i64.wrap ((m:Int)+1)=(m:Int)+1:=IntWalk.i64_in _ (by omega)
      by_cases hlt2:m<J.length
      ·exact absurd hlt2 (by have:=HJ0.out;omega)
      ·have hmn : m = J.length := by omega
       subst hmn;have HRW:=hid hrv;clear hrv;go_wp2;go_roundw
       case rel=>exact ⟨k+1,by omega,by go_num,by rw [HRS.out];exact HRW.out⟩
       case measure=>simp [intOf] <;> omega
    ·have hkn : k = rn := by omega
     subst hkn;obtain ⟨A2,n2,c2,L2,rfl,hs2,hm2,hB2⟩:=HRV.out.ret (by rw [HLK.out.len,List.length_map];exact h64);clear HRV;go_wp2;exact bodyPost_ret (v:=.tuple #[.slice A2 n2 c2,.int .i64 0]) (by simp [results,Tryz.results48,go_sem]) rfl ⟨A2,n2,c2,L2,by rw [HRE.out],hs2,by rw [HRQ.out];exact hm2,hB2⟩
end
end Go.Proofs.YtokgmcomgflloaaGreat
