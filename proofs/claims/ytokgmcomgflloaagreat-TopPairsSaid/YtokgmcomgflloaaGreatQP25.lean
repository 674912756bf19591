/- Parts of a proof: contracts and laws. -/
import Derived.Test.YtokgmcomgflloaaGreatQP16
import Derived.Test.YtokgmcomgflloaaGreatQP09
import Derived.Test.YtokgmcomgflloaaGreatQP02
import Derived.BigQuiet
import Derived.Test.YtokgmcomgflloaaGreatQP06
import Derived.Test.YtokgmcomgflloaaGreatQP13
import Derived.Test.YtokgmcomgflloaaGreatQP03
import Derived.Test.YtokgmcomgflloaaGreatQP10
set_option maxRecDepth 100000
set_option maxHeartbeats 16000000
namespace Go.Proofs.YtokgmcomgflloaaGreat
section
set_option linter.unusedVariables false
set_option linter.unusedSimpArgs false
open Go.RowKit
variable {w0 w w':World}

structure Rq (w0 : World) (g : Nat) (L : List BE) (w : World) : Prop where
 bl:BL w g L
 gr:w0.grownBy w (some g)
 lt:g<w0.heap.size
 lo:∀ y ∈ L,∀ bx off,y.A=some ⟨bx,off,none⟩→bx<w0.heap.size
 sz:w0.heap.size≤w.heap.size
theorem Lj {g:Nat} {L:List BE} {w w':World} (hb:Below w.heap.size w w') (h:Rq w0 g L w):Rq w0 g L w':=⟨iB hb h.bl,aQ h.gr (bW hb),h.lt,h.lo,Nat.le_trans h.sz hb.size⟩
theorem Rq.drew {g:Nat} {L:List BE} {w:World} (h:Rq w0 g L w):Rq w0 g L w.drew:=Lj (Below.refl _ _).drew h
theorem Rq.alloc {g:Nat} {L:List BE} {w:World} (h:Rq w0 g L w) (o:Obj):Rq w0 g L (w.alloc o):=Lj Ba h
theorem Rq.set {g:Nat} {L:List BE} {w:World} (h:Rq w0 g L w) {k o:Nat} {v:Value} (hk:w0.heap.size≤k):Rq w0 g L (w.setCell ⟨k,o,none⟩ v) :=
 have hlt:=h.lt
 ⟨h.bl.off (by omega) (fun y hy bx off e=>by have:=h.lo y hy bx off e;omega),⟨h.gr.os,h.gr.tape,h.gr.output,by simp;exact h.gr.size,fun j hj hne=>by
  have e:=(aT w k o v).block j (Nat.lt_of_lt_of_le hj h.sz) (by simp;omega)
  exact e.trans (h.gr.block j hj hne)⟩,h.lt,h.lo,by simp;exact h.sz⟩

theorem yO (A:Option Addr) (n c:Nat) (l:List BE) (w:World) (hS:dN jc w A n c l) (hl:l.length≤100000):Calls Tryz.prog 44 #[.slice A n c] w fun e w'=>∃ s,e = .returned s∧aN jc 27 w' w.heap.size s l∧Below w.heap.size w w':=by
 have hcmp:∀ w':World,(binOp .eql 29 (.slice A n c) (.slice none 0 0)).run Tryz.prog w' = .ok (.bool A.isNone) w':=fun w'=>Lib.run_eql_slice_nil w' 29 _ A n c 0 0 Tryz.underlying29
 cases A with
 | none =>
  have hl0:l=[]:=by
   rcases l with _ | ⟨a,r⟩
   ·rfl
   ·obtain ⟨b,off,h,_⟩:=hS.at_ (by simp);cases h
  subst hl0;clear hS
  go_enter Tryz.func44,Tryz.ntmps44
  go_wp2;refine bodyPost_ret (v:=.slice none 0 0) (by simp [results,Tryz.results44,go_sem]) rfl ⟨_,rfl,aN.nil _ _ _ _,Below.refl _ _⟩
 | some ad =>
  have hn:=hS.len;have HS:=hid hS;clear hS;subst hn;have HO:Hid (aN jc 27 (w.alloc (.cells #[] 27)) w.heap.size (.slice (some ⟨w.heap.size,0,none⟩) 0 0) []):=⟨by simp [eY],.inr ⟨w.heap.size,0,#[],rfl,Nat.le_refl _,heap_alloc_new w _,Nat.le_refl _,Nat.zero_le _,by simp,by simp [eY]⟩⟩;have hb0:Below w.heap.size w (w.alloc (.cells #[] 27)):=by go_grown
  go_enter Tryz.func44,Tryz.ntmps44
  go_wp2_with (at_builtin;refine jY wO rfl _ _ rfl w.heap.size _ [] rfl HO.out _ _ _ l rfl (HS.out.below hb0) (by first | omega | (simp;omega)) (by first | omega | (simp;omega)) (by simp) ?_;intro v' w1 ho1 hg1 hat;have HO1:=hid ho1;have hb1:=hid (hb0.grown hg1 (by simp) (fun k hk=>(HO.out.lt hk).1));clear ho1 hg1 hat)
  obtain ⟨A',n',c',rfl,-,-⟩:=HO1.out.sl;refine bodyPost_ret (v:=.slice A' n' c') (by simp [results,Tryz.results44,go_sem]) rfl ⟨_,rfl,by simpa using HO1.out,hb1.out⟩

theorem RV.own {w w1:World} {s:Value} {L:List BE} (ho:aN jc 27 w1 w.heap.size s L) (hb:Below w.heap.size w w1) (hc:∀ x ∈ L,Sl w x.A x.n x.c x.l) (hv:∀ x ∈ L,bG x.b x.l=0):RV w s (L.map dw) w1:=by
 refine ⟨L,rfl,hb,?_⟩
 rcases ho.form with ⟨h1,h2⟩ | ⟨g,cap,hs,h1,h2,h3,h4,h5,h6⟩
 ·exact .inl ⟨h1,h2⟩
 ·refine .inr ⟨g, cap, hs, h1, h3, h4, ⟨h6, h5, fun x hx => (hc x hx).below hb, fun x hx bx off e => fun e2 => ?_⟩⟩;have:=pY (hc x hx) (fun e=>by have:=hv x hx;rw [e] at this;exact absurd (fA this).1 (by decide)) bx off e;omega
theorem pR (A B:Option Addr) (n c n' c':Nat) (L:List BE) (J:List Jt) (w:World) (hS:kM w A n c L) (hJ:dN kF w B n' c' J) (hJ0:J=[]) :
  Calls Tryz.prog 59 #[.slice A n c,.slice B n' c'] w (dS (.int .i64 (dK L J)) w):=by
 have HJ0:Hid (J.length=0):=hid (by rw [hJ0];rfl);clear hJ0;have hn:=hS.sl.len;have hcap:=hS.sl.cap;have hbig:=hS.sl.big;have hn':=hJ.len;have hcap':=hJ.cap;have hbig':=hJ.big;subst hn hn';have HSL:=hid (fun (w':World) (hb:Below w.heap.size w w')=>hS.below hb);have HSJ:=hid (fun (w':World) (hb:Below w.heap.size w w')=>hJ.below hb);have HCK:=hid (kI A L.length c L w hS);clear hS hJ
 go_enter Tryz.func59,Tryz.ntmps59
 go_wp2_with fail
 refine HCK.out.mono ?_;rintro e w1 ⟨rfl,hB⟩;clear HCK
 by_cases hE:aX L=0
 case neg =>
  have HR:Hid (dK L J=aX L):=by show _=_;unfold dK;rw [if_pos hE]
  have hne:(aX L != 0)=true:=by simp [hE]
  generalize aX L=z at *
  go_wp2
  go_returns
  exact aH HR.out.symm hB
 obtain ⟨h64,hval⟩:=gK hE;have HV:=hid hval
 by_cases h32:32<J.length
 ·have HR : Hid (dK L J = 2) := by show _ = _; unfold dK; rw [if_neg (by simp [hE]), if_pos h32]
  rw [hE];clear hE hval;go_wp2
  go_returns
  exact aH HR.out.symm hB
 have HJ:Hid (dK L J=QH L J J.length):=by show _=_;unfold dK;rw [if_neg (by simp [hE]),if_neg h32]
 rw [hE];clear hE hval;go_wp2
 go_loopw [19] (fun i wr=>∃ k:Nat,k≤J.length∧i = .int .i64 k∧QH L J k=0∧Below w.heap.size w wr) (fun i _=>J.length-(intOf i).toNat)
 case atStart=>exact ⟨0,Nat.zero_le _,rfl,rfl,hB⟩
 case round =>
  clear hB;obtain ⟨k,hk,rfl,hz,hB⟩:=hrel;obtain ⟨wo,rfl⟩:∃ wo:World,wo=wr:=⟨_,rfl⟩
  by_cases hlt:k<J.length
  ·exact absurd hlt (by have:=HJ0.out;omega)
  ·have hkn : k = J.length := by omega
   subst hkn;have HR:Hid (dK L J=0):=by show _=_;rw [HJ.out];exact hz
   clear hz;go_wp2
   go_returns
   exact aH HR.out.symm hB
theorem DV (A B:Option Addr) (n c n' c':Nat) (L:List BE) (J:List Jt) (st r:Int) (w:World) (hS:kM w A n c L) (hJ:dN kF w B n' c' J) (hJ0:J=[]) :
  Calls Tryz.prog 48 #[.slice A n c,.slice B n' c',.int .i64 st,.int .i64 r] w (GL (yT L J st r) (Gf L J st r) w):=by
 have HJ0:Hid (J.length=0):=hid (by rw [hJ0];rfl);have hn:=hS.sl.len;have hcap:=hS.sl.cap;have hbig:=hS.sl.big;have hn':=hJ.len;have hcap':=hJ.cap;have hbig':=hJ.big;subst hn hn';have HS:=hid hS;have HJ:=hid hJ;have HCK:=hid (pR A B L.length c J.length c' L J w hS hJ hJ0);clear hJ0;clear hS hJ
 go_enter Tryz.func48,Tryz.ntmps48
 go_wp2_with fail
 refine HCK.out.mono ?_;rintro e w1 ⟨rfl,hB1⟩;clear HCK
 have HNIL:Hid (∀ (z:Int) (wx:World),z≠0→yT L J st r=z→Below w.heap.size w wx→GL (yT L J st r) (Gf L J st r) w (.returned (.tuple #[.slice none 0 0,.int .i64 z])) wx):=fun z wx hz he hb =>
  ⟨none,0,0,[],by rw [he],⟨dN.nil _ _,fun x hx=>by cases hx⟩,by unfold Gf;rw [if_neg (by rw [he];exact hz)];rfl,hb⟩
 by_cases hE:dK L J=0
 case neg =>
  have HR:=hid (HNIL.out (dK L J) w1 hE (by unfold yT;rw [if_pos hE]) hB1);have hne:(dK L J != 0)=true:=by simp [hE]
  generalize dK L J=z at *
  go_wp2;exact bodyPost_ret (v:=.tuple #[.slice none 0 0,.int .i64 z]) (by simp [results,Tryz.results48,go_sem]) rfl HR.out
 obtain ⟨hbe,hj32,hjs⟩:=ni hE;obtain ⟨h64,hval⟩:=gK hbe;have HV:=hid hval;have HJS:=hid hjs
 by_cases hbad:st<1∨65536<st∨r<0∨32<r
 ·have HR := hid (HNIL.out 1 w1 (by decide) (by unfold yT; rw [if_neg (by simp [hE]), if_pos hbad]) hB1);rw [hE];clear hE hbe hval hjs HNIL
  by_cases c1:st<1
  ·go_wp2;exact bodyPost_ret (v:=.tuple #[.slice none 0 0,.int .i64 1]) (by simp [results,Tryz.results48,go_sem]) rfl HR.out
  by_cases c2:65536<st
  ·go_wp2;exact bodyPost_ret (v:=.tuple #[.slice none 0 0,.int .i64 1]) (by simp [results,Tryz.results48,go_sem]) rfl HR.out
  by_cases c3:r<0
  ·go_wp2;exact bodyPost_ret (v:=.tuple #[.slice none 0 0,.int .i64 1]) (by simp [results,Tryz.results48,go_sem]) rfl HR.out
  have c4:32<r:=by omega
  go_wp2;exact bodyPost_ret (v:=.tuple #[.slice none 0 0,.int .i64 1]) (by simp [results,Tryz.results48,go_sem]) rfl HR.out
 have c1:¬ st<1:=fun h=>hbad (.inl h)
 have c2:¬ 65536<st:=fun h=>hbad (.inr (.inl h))
 have c3:¬ r<0:=fun h=>hbad (.inr (.inr (.inl h)))
 have c4:¬ 32<r:=fun h=>hbad (.inr (.inr (.inr h)))
 have HRE:Hid (yT L J st r=0):=by show _=_;unfold yT;rw [if_neg (by simp [hE]),if_neg hbad]
 have HRQ:Hid (Gf L J st r=lI (L.map dw) J st r.toNat):=by show _=_;unfold Gf;rw [if_pos HRE.out]
 have HFJ:Hid (∀ x ∈ J,LC (L.map dw).length x):=fun x hx=>by rw [List.length_map];exact (Di (hjs x hx)).1
 rw [hE];clear hE hbe hval hjs HNIL hbad;go_wp2;have HC1:=hid c1;have HC2:=hid c2;clear c1 c2;obtain ⟨rn,rfl⟩:∃ rn:Nat,r=rn:=⟨r.toNat,by omega⟩;rw [Int.toNat_natCast] at HRQ;have hrn:rn≤32:=by omega
 clear c3 c4
 go_loopw [11,43] (fun o i wr=>∃ (k:Nat) (L':List BE),k≤L.length∧i = .int .i64 k∧RJ w o L' wr∧L'.map dw=(L.map dw).take k) (fun _ i _=>L.length-(intOf i).toNat)
 case atStart=>exact ⟨0,[],Nat.zero_le _,rfl,⟨aN.nil _ _ _ _,fun x hx=>(by cases hx),hB1⟩,rfl⟩
 case round =>
  clear hB1;obtain ⟨k,L',hk,rfl,hrj,hmp⟩:=hrel;obtain ⟨wo,rfl⟩:∃ wo:World,wo=wr:=⟨_,rfl⟩;obtain ⟨s0,rfl⟩:∃ s0:Value,s0=u11:=⟨_,rfl⟩;have HRJ:=hid hrj;have HMP:=hid hmp;clear hrj hmp
  by_cases hlt:k<L.length
  ·obtain ⟨ba, off, hA, hC⟩ := (HS.out.below HRJ.out.bel).sl.at_ (by intro h; subst h; simp at hlt);subst hA;obtain ⟨x,hx⟩:∃ x,x=L[k]:=⟨_,rfl⟩;have hxm:x ∈ L:=by rw [hx];exact List.getElem_mem hlt
   have hxs:Sl wo x.A x.n x.c x.l:=(HS.out.below HRJ.out.bel).co x hxm;have hxv:=(fA (HV.out x hxm)).1;have hx3:=uH (jk hxv);have HXN:Hid (x.l≠[]):=fun e=>by rw [e] at hxv;exact absurd hxv (by decide)
   obtain ⟨d0,d1,d2,d3,d4,d5,d6,d7,d8,d9,d10,d11,d12⟩:=dP hC hlt hx;have hbo:=hC.lt;have hlt':(k:Int)<(L.length:Int):=by omega
   have hkw:IntKind.i64.wrap ((k:Int)+1)=(k:Int)+1:=IntWalk.i64_in _ (by omega);obtain ⟨wj,hwj⟩:∃ wj,wj=wo.alloc (.cells #[.int .i64 x.b.px,.int .i64 x.b.py,.int .i64 x.b.vx,.int .i64 x.b.vy,.int .i64 x.b.ang,.int .i64 x.b.spin,.int .i64 x.b.mass,.int .i64 x.b.iner,.int .i64 x.b.bounce,.int .i64 x.b.rub,.slice x.A x.n x.c,.bool x.b.asleep,.int .i64 x.b.calm] 27):=⟨_,rfl⟩;have HBJ:=hid (show Below wo.heap.size wo wj by rw [hwj];go_grown);have HK:=hid (show aW wj wo.heap.size x.b x.A x.n x.c by rw [hwj];exact aW.here wo x.b x.A x.n x.c _);have HCL:=hid (nX x.A x.n x.c x.l wj (hxs.below HBJ.out) (by omega))
   have HTK:Hid (L'.map dw ++ [dw x]=(L.map dw).take (k+1)):=by
    show _=_;rw [HMP.out,List.take_add_one,List.getElem?_map,List.getElem?_eq_getElem hlt,← hx];rfl
   have HLL:Hid (L'.length≤64):=by
    have:=congrArg List.length HMP.out;simp at this;show _≤_;omega
   clear hC hx hxs hxv hx3
   go_upto_region 10 with fail
   rw [← hwj];clear hwj d0 d1 d2 d3 d4 d5 d6 d7 d8 d9 d10 d11 d12 hbo;obtain ⟨k0,k1,k2,k3,k4,k5,k6,k7,k8,k9,k10,k11,k12,kf⟩:=HK.out
   go_wp2_with fail
   refine HCL.out.mono ?_;rintro e w3 ⟨A1,n1,c1,rfl,hs1,hf1,hb1⟩;clear k0 k1 k2 k3 k4 k5 k6 k7 k8 k9 k10 k11 k12 kf HCL;have HK3:=hid (eD hb1 HK.out);obtain ⟨w4,hw4⟩:∃ w4,w4=w3.setCell ⟨wo.heap.size,10,none⟩ (.slice A1 n1 c1):=⟨_,rfl⟩;have hjo:wo.heap.size<wj.heap.size:=HK.out.lt;have HF1:Hid (∀ bx off,A1=some ⟨bx,off,none⟩→wo.heap.size<bx):=fun bx off e=>by have:=hf1 bx off e;omega
   have HK4:=hid (show aW w4 wo.heap.size x.b A1 n1 c1 by rw [hw4];exact HK3.out.set_slice);have HS4:=hid (show Sl w4 A1 n1 c1 x.l by rw [hw4];exact hs1.setAt (fun bx off e=>by have:=HF1.out bx off e;omega));have HR4:=hid (show RJ w s0 L' w4 by rw [hw4];exact RJ.set HRJ.out (La hb1 (La HBJ.out HRJ.out)) (Nat.le_refl _));obtain ⟨k0,k1,k2,k3,k4,k5,k6,k7,k8,k9,k10,k11,k12,kf⟩:=HK3.out;clear hs1 hf1 hb1 hjo HK HBJ
   go_upto_region 11 with fail
   rw [← hw4];clear hw4 k0 k1 k2 k3 k4 k5 k6 k7 k8 k9 k10 k11 k12 kf HK3;obtain ⟨k0,k1,k2,k3,k4,k5,k6,k7,k8,k9,k10,k11,k12,kf⟩:=HK4.out;clear HK4
   go_wp2_with (at_builtin;refine Hid.out ?_)
   refine hid ?_;refine fq wO rfl _ _ rfl w.heap.size _ _ rfl (HR4.out.own.alloc _) w4.heap.size 0 1 1 [⟨x.b,A1,n1,c1,x.l⟩] rfl rfl (kC (aW.here w4 x.b A1 n1 c1 _)) ?c4 ?c5 ?c6 ?c7
   case c4=>have:=HLL.out;simp;omega
   case c5=>have:=HLL.out;simp;omega
   case c6=>have:=HR4.out.bel.size;simp;omega
   case c7 =>
    intro v' w7 ho1 hg1 hat;have HR7:=hid (RJ.push HRJ.out HR4.out (y:=⟨x.b,A1,n1,c1,x.l⟩) HS4.out HXN.out (fun bx off e=>by have:=HF1.out bx off e;omega) ho1 hg1 hat);clear ho1 hg1 hat k0 k1 k2 k3 k4 k5 k6 k7 k8 k9 k10 k11 k12 kf HS4 HR4;go_wp2;go_roundw
    case rel=>exact ⟨k+1,_,by omega,by go_num,HR7.out,by rw [List.map_append];exact HTK.out⟩
    case measure=>simp [intOf] <;> omega
  ·have hkn : k = L.length := by omega
   subst hkn
   have HRV:Hid (RV w s0 (L.map dw) wo):=by
    have:=HRJ.out.rv;rw [HMP.out,List.take_of_length_le (by simp)] at this;exact this
   clear HRJ HMP hlt hk;go_wp2
   go_loopw [57] (fun i wr=>∃ k:Nat,k≤rn∧i = .int .i64 k∧RV w s0 (lI (L.map dw) J st k) wr) (fun i _=>rn-(intOf i).toNat)
   case atStart=>exact ⟨0,Nat.zero_le _,rfl,HRV.out⟩
   case round =>
    clear HRV;obtain ⟨k,hk,rfl,hrv⟩:=hrel;have HRV:=hid hrv;clear hrv;obtain ⟨wa,rfl⟩:∃ wa:World,wa=wr:=⟨_,rfl⟩;have hkw:IntKind.i64.wrap ((k:Int)+1)=(k:Int)+1:=IntWalk.i64_in _ (by omega);have HLK:=hid (rZ HFJ.out st k)
    by_cases hlt:k<rn
    ·have hlt' : (k : Int) < (rn : Int) := by omega
     have HRS:Hid (lI (L.map dw) J st (k+1)=iE (lI (L.map dw) J st k) J st J.length):=rfl;obtain ⟨QK,hQK⟩:∃ q,q=lI (L.map dw) J st k:=⟨_,rfl⟩;rw [← hQK] at HRV HLK HRS;clear hQK;go_wp2
     go_loopw [61] (fun i wr=>∃ m:Nat,m≤J.length∧i = .int .i64 m∧RV w s0 (iE QK J st m) wr) (fun i _=>J.length-(intOf i).toNat)
     case atStart=>exact ⟨0,Nat.zero_le _,rfl,HRV.out⟩
     case round =>
      clear HRV;obtain ⟨m,hm,rfl,hrv⟩:=hrel;obtain ⟨wi,rfl⟩:∃ wi:World,wi=wr:=⟨_,rfl⟩;have hmw:IntKind.i64.wrap ((m:Int)+1)=(m:Int)+1:=IntWalk.i64_in _ (by omega)
      by_cases hlt2:m<J.length
      ·exact absurd hlt2 (by have:=HJ0.out;omega)
      ·have hmn : m = J.length := by omega
       subst hmn;have HRW:=hid hrv;clear hrv;go_wp2;go_roundw
       case rel=>exact ⟨k+1,by omega,by go_num,by rw [HRS.out];exact HRW.out⟩
       case measure=>simp [intOf] <;> omega
    ·have hkn : k = rn := by omega
     subst hkn;obtain ⟨A2,n2,c2,L2,rfl,hs2,hm2,hB2⟩:=HRV.out.ret (by rw [HLK.out.len,List.length_map];exact h64);clear HRV;go_wp2;exact bodyPost_ret (v:=.tuple #[.slice A2 n2 c2,.int .i64 0]) (by simp [results,Tryz.results48,go_sem]) rfl ⟨A2,n2,c2,L2,by rw [HRE.out],hs2,by rw [HRQ.out];exact hm2,hB2⟩
structure Rw where
 t1:Int
 t2:Int
 ease:Int
 slip:Int
 lift:Int
 bound:Int
def Oj (Q:List QB) (x:Ct) (v1 v2:Int):Int:=Rb (qB Q x.a) (qB Q x.b) x.px x.py x.px x.py v1 v2
def relE (Q:List QB) (x:Ct) (v1 v2:Int):Int:=Qz (qB Q x.a) (qB Q x.b) x.px x.py x.px x.py v1 v2
def PO (x:Ct) (st:Int):Int:=oo (bH (max 0 (x.dep-512)) 8192) st
def RD (Q:List QB) (x:Ct) (st:Int):Int:=if Oj Q x x.nx x.ny < -32768 then fV (PO x st) (bH (max (qB Q x.a).bounce (qB Q x.b).bounce) (-(Oj Q x x.nx x.ny))) else PO x st
def SI (Q:List QB) (st:Int) (x:Ct):Rw:=⟨-x.ny,x.nx,relE Q x x.nx x.ny,relE Q x (-x.ny) x.nx,RD Q x st,min (qB Q x.a).rub (qB Q x.b).rub⟩
def Kt (Q:List QB) (x:Ct) (j1 j2:Int):List QB:=Io Q x.a.toNat x.b.toNat x.px x.py x.px x.py j1 j2
def RG (Q:List QB) (x:Ct) (r:Rw):List QB:=Kt Q x (fV (bH x.nx x.push) (bH r.t1 x.sli)) (fV (bH x.ny x.push) (bH r.t2 x.sli))
def Gx (Q:List QB) (x:Ct) (r:Rw):Int:=dW (iN x.sli (oo (Oj Q x r.t1 r.t2) r.slip)) (bH r.bound x.push)
def PL (Q:List QB) (x:Ct) (r:Rw):List QB × Ct :=
 if r.slip=0 then (Q,x) else (Kt Q x (bH r.t1 (iN (Gx Q x r) x.sli)) (bH r.t2 (iN (Gx Q x r) x.sli)),{ x with sli:=Gx Q x r })
def FQ (Q:List QB) (x:Ct) (r:Rw):Int:=max 0 (fV x.push (oo (iN r.lift (Oj Q x x.nx x.ny)) r.ease))
def Ri (Q:List QB) (x:Ct) (r:Rw):List QB × Ct :=
 if r.ease=0 then (Q,x) else (Kt Q x (bH x.nx (iN (FQ Q x r) x.push)) (bH x.ny (iN (FQ Q x r) x.push)),{ x with push:=FQ Q x r })
def Ls (Q:List QB) (x:Ct) (r:Rw):List QB × Ct:=Ri (PL Q x r).1 (PL Q x r).2 r
def PS (Q:List QB) (C:List Ct) (st:Int):List Rw:=C.map (SI Q st)
def F9 (Q : List QB) (C : List Ct) (R : List Rw) : Nat → List QB
 | 0=>Q
 | k+1=>match C[k]?,R[k]? with | some x,some r=>RG (F9 Q C R k) x r | _,_=>F9 Q C R k
def RS (S:List QB × List Ct) (R:List Rw) (i:Nat):List QB × List Ct:=match S.2[i]?,R[i]? with | some x,some r=>((Ls S.1 x r).1,S.2.set i (Ls S.1 x r).2) | _,_=>S
def P6 (S : List QB × List Ct) (R : List Rw) (n : Nat) : Nat → List QB × List Ct
 | 0=>S
 | k+1=>RS (P6 S R n k) R (k % n)
def vT (Q:List QB) (C:List Ct) (st:Int) (r:Nat):List QB × List Ct:=P6 (F9 Q C (PS Q C st) C.length,C) (PS Q C st) C.length (r*C.length)


structure Cg (w : World) (g : Nat) (x : Ct) : Prop where
 c0:w.cell? ⟨g,0,none⟩=some (.int .i64 x.a)
 c1:w.cell? ⟨g,1,none⟩=some (.int .i64 x.b)
 c2:w.cell? ⟨g,2,none⟩=some (.int .i64 x.id)
 c3:w.cell? ⟨g,3,none⟩=some (.int .i64 x.px)
 c4:w.cell? ⟨g,4,none⟩=some (.int .i64 x.py)
 c5:w.cell? ⟨g,5,none⟩=some (.int .i64 x.nx)
 c6:w.cell? ⟨g,6,none⟩=some (.int .i64 x.ny)
 c7:w.cell? ⟨g,7,none⟩=some (.int .i64 x.dep)
 c8:w.cell? ⟨g,8,none⟩=some (.int .i64 x.push)
 c9:w.cell? ⟨g,9,none⟩=some (.int .i64 x.sli)
theorem ES {g:Nat} {x:Ct} (hb:Below w.heap.size w w') (h:Cg w g x):Cg w' g x:=⟨keepCell hb h.c0,keepCell hb h.c1,keepCell hb h.c2,keepCell hb h.c3,keepCell hb h.c4,keepCell hb h.c5,keepCell hb h.c6,keepCell hb h.c7,keepCell hb h.c8,keepCell hb h.c9⟩
theorem Cg.drew {g:Nat} {x:Ct} (h:Cg w g x):Cg w.drew g x:=ES (Below.refl _ _).drew h
theorem Cg.alloc {g:Nat} {x:Ct} (h:Cg w g x) (o:Obj):Cg (w.alloc o) g x:=ES Ba h
theorem Cg.next {g k:Nat} {x:Ct} (h:Cg w g x) (hg:w.grownBy w' (some k)) (hne:g≠k):Cg w' g x :=
 have e:=hg.block g (lt_of_cell h.c0) (by simpa using hne)
 ⟨(World.cell?_of_block e).trans h.c0,(World.cell?_of_block e).trans h.c1,(World.cell?_of_block e).trans h.c2,(World.cell?_of_block e).trans h.c3,(World.cell?_of_block e).trans h.c4,(World.cell?_of_block e).trans h.c5,(World.cell?_of_block e).trans h.c6,(World.cell?_of_block e).trans h.c7,(World.cell?_of_block e).trans h.c8,(World.cell?_of_block e).trans h.c9⟩

structure Rt (w0 : World) (g : Nat) (L : List BE) (w : World) : Prop where
 bl:BL w g L
 gr:w0.grownBy w (some g)
 lt:g<w0.heap.size
theorem KM {g:Nat} {L:List BE} {w w':World} (hb:Below w.heap.size w w') (h:Rt w0 g L w):Rt w0 g L w':=⟨iB hb h.bl,aQ h.gr (bW hb),h.lt⟩
theorem Rt.drew {g:Nat} {L:List BE} {w:World} (h:Rt w0 g L w):Rt w0 g L w.drew:=KM (Below.refl _ _).drew h
theorem Rt.alloc {g:Nat} {L:List BE} {w:World} (h:Rt w0 g L w) (o:Obj):Rt w0 g L (w.alloc o):=KM Ba h
structure Rz (w : World) (g : Nat) : Prop where
 c:∀ j,j<6→∃ v,w.cell? ⟨g,j,none⟩=some v
 free:∀ j,w.frozen? ⟨g,j,none⟩=false
theorem Rz.lt {g:Nat} (h:Rz w g):g<w.heap.size:=by
 obtain ⟨v,hv⟩:=h.c 0 (by omega);exact lt_of_cell hv
theorem Qx {g:Nat} (hb:Below w.heap.size w w') (h:Rz w g):Rz w' g :=
 ⟨fun j hj=>by obtain ⟨v,hv⟩:=h.c j hj;exact ⟨v,keepCell hb hv⟩,fun j=>((cO hb).2 _ _ h.lt).trans (h.free j)⟩
theorem Rz.set {g:Nat} (h:Rz w g) (a:Addr) (u:Value):Rz (w.setCell a u) g:=⟨fun j hj=>by
  obtain ⟨v,hv⟩:=h.c j hj
  by_cases e:a=⟨g,j,none⟩
  ·subst e;exact ⟨u,by go_simp⟩
  ·exact ⟨v,by go_simp⟩,fun j=>by rw [World.frozen?_setCell];exact h.free j⟩
theorem Rz.all {g:Nat} (h:Rz w g):∃ z0 z1 z2 z3 z4 z5:Value,w.cell? ⟨g,0,none⟩=some z0∧w.cell? ⟨g,1,none⟩=some z1∧w.cell? ⟨g,2,none⟩=some z2∧w.cell? ⟨g,3,none⟩=some z3∧w.cell? ⟨g,4,none⟩=some z4∧w.cell? ⟨g,5,none⟩=some z5:=by
 obtain ⟨z0,h0⟩:=h.c 0 (by omega);obtain ⟨z1,h1⟩:=h.c 1 (by omega);obtain ⟨z2,h2⟩:=h.c 2 (by omega);obtain ⟨z3,h3⟩:=h.c 3 (by omega);obtain ⟨z4,h4⟩:=h.c 4 (by omega);obtain ⟨z5,h5⟩:=h.c 5 (by omega);exact ⟨z0,z1,z2,z3,z4,z5,h0,h1,h2,h3,h4,h5⟩

structure Rg (w : World) (g : Nat) (a0 a1 a2 a3 a4 a5 : Int) : Prop where
 c0:w.cell? ⟨g,0,none⟩=some (.int .i64 a0)
 c1:w.cell? ⟨g,1,none⟩=some (.int .i64 a1)
 c2:w.cell? ⟨g,2,none⟩=some (.int .i64 a2)
 c3:w.cell? ⟨g,3,none⟩=some (.int .i64 a3)
 c4:w.cell? ⟨g,4,none⟩=some (.int .i64 a4)
 c5:w.cell? ⟨g,5,none⟩=some (.int .i64 a5)
 f:∀ j,w.frozen? ⟨g,j,none⟩=false
section
variable {w0 w w':World}
variable {w w':World} {g:Nat} {a0 a1 a2 a3 a4 a5:Int}
theorem QF (hb:Below w.heap.size w w') (h:Rg w g a0 a1 a2 a3 a4 a5):Rg w' g a0 a1 a2 a3 a4 a5:=⟨keepCell hb h.c0,keepCell hb h.c1,keepCell hb h.c2,keepCell hb h.c3,keepCell hb h.c4,keepCell hb h.c5,fun j=>((cO hb).2 _ _ (lt_of_cell h.c0)).trans (h.f j)⟩
theorem Rg.drew (h:Rg w g a0 a1 a2 a3 a4 a5):Rg w.drew g a0 a1 a2 a3 a4 a5:=QF (Below.refl _ _).drew h
theorem Rg.s2 (h:Rg w g a0 a1 a2 a3 a4 a5) (v:Int):Rg (w.setCell ⟨g,2,none⟩ (.int .i64 v)) g a0 a1 v a3 a4 a5:=by
 obtain ⟨h0,h1,h2,h3,h4,h5,hf⟩:=h;exact ⟨by go_simp,by go_simp,by go_simp,by go_simp,by go_simp,by go_simp,fun j=>by rw [World.frozen?_setCell];exact hf j⟩
theorem Rg.s3 (h:Rg w g a0 a1 a2 a3 a4 a5) (v:Int):Rg (w.setCell ⟨g,3,none⟩ (.int .i64 v)) g a0 a1 a2 v a4 a5:=by
 obtain ⟨h0,h1,h2,h3,h4,h5,hf⟩:=h;exact ⟨by go_simp,by go_simp,by go_simp,by go_simp,by go_simp,by go_simp,fun j=>by rw [World.frozen?_setCell];exact hf j⟩
theorem Rg.s4 (h:Rg w g a0 a1 a2 a3 a4 a5) (v:Int):Rg (w.setCell ⟨g,4,none⟩ (.int .i64 v)) g a0 a1 a2 a3 v a5:=by
 obtain ⟨h0,h1,h2,h3,h4,h5,hf⟩:=h;exact ⟨by go_simp,by go_simp,by go_simp,by go_simp,by go_simp,by go_simp,fun j=>by rw [World.frozen?_setCell];exact hf j⟩
end

structure Ps (w0 : World) (gs g cap : Nat) (L : List BE) (x : Ct) (w : World) : Prop where
 sv:w.cell? ⟨gs,0,none⟩=some (.slice (some ⟨g,0,none⟩) L.length cap)
 cg:Cg w w0.heap.size x
 bl:BL w g L
 bel:Below w0.heap.size w0 w
 lt:g<w0.heap.size
 ls:gs<w0.heap.size
 lo:∀ y ∈ L,∀ bx off,y.A=some ⟨bx,off,none⟩→bx<w0.heap.size
 rz:Rz w (w0.heap.size+1)
 sz:w0.heap.size+1<w.heap.size
section
variable {w0 w w':World}
variable {w0 w w':World} {gs g cap:Nat} {L:List BE} {x:Ct}
theorem NP (hb:Below w.heap.size w w') (h:Ps w0 gs g cap L x w):Ps w0 gs g cap L x w':=⟨keepCell hb h.sv,ES hb h.cg,iB hb h.bl,aj hb h.bel,h.lt,h.ls,h.lo,Qx hb h.rz,Nat.lt_of_lt_of_le h.sz hb.size⟩
theorem Ps.drew (h:Ps w0 gs g cap L x w):Ps w0 gs g cap L x w.drew:=NP (Below.refl _ _).drew h
theorem Ps.alloc (h:Ps w0 gs g cap L x w) (o:Obj):Ps w0 gs g cap L x (w.alloc o):=NP Ba h
theorem Ps.set {k o:Nat} {v:Value} (h:Ps w0 gs g cap L x w) (hk:w0.heap.size+1<k):Ps w0 gs g cap L x (w.setCell ⟨k,o,none⟩ v):=by
 have hlt:=h.lt;have hls:=h.ls;exact ⟨aZ (by omega) h.sv,h.cg.next (aT w k o v) (by omega),h.bl.off (by omega) (fun y hy bx off e=>by have:=h.lo y hy bx off e;omega),h.bel.setCell (p:=⟨k,o,none⟩) (by show w0.heap.size≤k;omega) _,h.lt,h.ls,h.lo,h.rz.set _ _,by simp;exact h.sz⟩
theorem Ps.setBd {k:Nat} (h:Ps w0 gs g cap L x w) (hk:w0.heap.size+1<k) (b:Bd) (A:Option Addr) (n c:Nat):Ps w0 gs g cap L x (Go.Proofs.YtokgmcomgflloaaGreat.setBd w k b A n c):=by
 unfold Go.Proofs.YtokgmcomgflloaaGreat.setBd
 iterate 13 refine Ps.set ?_ hk
 exact h
end
def encR (x:Rw):List Value:=[.int .i64 x.t1,.int .i64 x.t2,.int .i64 x.ease,.int .i64 x.slip,.int .i64 x.lift,.int .i64 x.bound]
def Qa:Lay Rw:=⟨encR,6,fun _=>rfl,fun x v hv=>by simp only [encR,List.mem_cons,List.mem_nil_iff,or_false] at hv;rcases hv with rfl | rfl | rfl | rfl | rfl | rfl <;> rfl,by omega⟩
theorem Rz.here (w:World) (t:TypeId):Rz (w.alloc (.cells #[.int .i64 0,.int .i64 0,.int .i64 0,.int .i64 0,.int .i64 0,.int .i64 0] t)) w.heap.size:=⟨fun j hj=>match j,hj with | 0,_ | 1,_ | 2,_ | 3,_ | 4,_ | 5,_=>⟨.int .i64 0,by go_simp⟩,fun j=>by go_simp⟩
theorem Rz.drew {g:Nat} (h:Rz w g):Rz w.drew g:=⟨h.c,h.free⟩
theorem Rg.next {g k:Nat} {a0 a1 a2 a3 a4 a5:Int} (h:Rg w g a0 a1 a2 a3 a4 a5) (hg:w.grownBy w' (some k)) (hne:g≠k):Rg w' g a0 a1 a2 a3 a4 a5 :=
 have e:=hg.block g (lt_of_cell h.c0) (by simpa using hne)
 ⟨(World.cell?_of_block e).trans h.c0,(World.cell?_of_block e).trans h.c1,(World.cell?_of_block e).trans h.c2,(World.cell?_of_block e).trans h.c3,(World.cell?_of_block e).trans h.c4,(World.cell?_of_block e).trans h.c5,fun j=>(World.frozen?_of_block e).trans (h.f j)⟩

structure EO (w w' : World) (g c : Nat) : Prop where
 os:w'.os=w.os
 tape:w'.tape=w.tape
 output:w'.output=w.output
 size:w.heap.size≤w'.heap.size
 block:∀ k,k<w.heap.size→k≠g→k≠c→w'.heap[k]? = w.heap[k]?
theorem EO.refl (w:World) (g c:Nat):EO w w g c:=⟨rfl,rfl,rfl,Nat.le_refl _,fun _ _ _ _=>rfl⟩
theorem EO.step {a b d:World} {g c:Nat} (h:EO a b g c) {k:Nat} (hg:b.grownBy d (some k)) (hk:k=g∨k=c):EO a d g c :=
 ⟨hg.os.trans h.os,hg.tape.trans h.tape,hg.output.trans h.output,Nat.le_trans h.size hg.size,fun j hj h1 h2=>(hg.block j (Nat.lt_of_lt_of_le hj h.size) (by simp;omega)).trans (h.block j hj h1 h2)⟩
theorem EO.below {a b d:World} {g c:Nat} (h:EO a b g c) (hb:Below b.heap.size b d):EO a d g c :=
 ⟨hb.os.trans h.os,hb.tape.trans h.tape,hb.output.trans h.output,Nat.le_trans h.size hb.size,fun j hj h1 h2=>(hb.block j (Nat.lt_of_lt_of_le hj h.size)).trans (h.block j hj h1 h2)⟩
theorem EO.off {a b:World} {g c k:Nat} (h:EO a b g c) (o:Nat) (v:Value) (hk:a.heap.size≤k):EO a (b.setCell ⟨k,o,none⟩ v) g c :=
 have hg:=aT b k o v
 ⟨hg.os.trans h.os,hg.tape.trans h.tape,hg.output.trans h.output,Nat.le_trans h.size hg.size,fun j hj h1 h2=>(hg.block j (Nat.lt_of_lt_of_le hj h.size) (by simp;omega)).trans (h.block j hj h1 h2)⟩

structure Sr (w0 : World) (gs g gc gq cap cc cq : Nat) (L : List BE) (C : List Ct) (R : List Rw) (w : World) : Prop where
 s0:w.cell? ⟨gs,0,none⟩=some (.slice (some ⟨g,0,none⟩) L.length cap)
 s1:w.cell? ⟨gs,1,none⟩=some (.slice (some ⟨gc,0,none⟩) C.length cc)
 s2:w.cell? ⟨gs,2,none⟩=some (.slice (some ⟨gq,0,none⟩) R.length cq)
 bl:BL w g L
 cl:aM iC w gc 0 C
 cf:∀ j,w.frozen? ⟨gc,j,none⟩=false
 rl:aM Qa w gq 0 R
 nc:∀ y ∈ L,∀ bx off,y.A=some ⟨bx,off,none⟩→bx≠gc
 gr:EO w0 w g gc
 lt:g<w0.heap.size∧gc<w0.heap.size∧gq<w0.heap.size∧gs<w0.heap.size
 ne:g≠gc∧g≠gs∧gc≠gs∧g≠gq∧gc≠gq
section
variable {w0 w w':World}
variable {w0 w w':World} {gs g gc gq cap cc cq:Nat} {L:List BE} {C:List Ct} {R:List Rw}
theorem KA (hb:Below w.heap.size w w') (h:Sr w0 gs g gc gq cap cc cq L C R w):Sr w0 gs g gc gq cap cc cq L C R w' :=
 ⟨keepCell hb h.s0,keepCell hb h.s1,keepCell hb h.s2,iB hb h.bl,h.cl.below hb,fun j=>((cO hb).2 _ _ h.cl.lt).trans (h.cf j),h.rl.below hb,h.nc,h.gr.below hb,h.lt,h.ne⟩
theorem Sr.drew (h:Sr w0 gs g gc gq cap cc cq L C R w):Sr w0 gs g gc gq cap cc cq L C R w.drew:=KA (Below.refl _ _).drew h
theorem Sr.alloc (h:Sr w0 gs g gc gq cap cc cq L C R w) (o:Obj):Sr w0 gs g gc gq cap cc cq L C R (w.alloc o):=KA Ba h
theorem Sr.off {k o:Nat} {v:Value} (h:Sr w0 gs g gc gq cap cc cq L C R w) (hk:w0.heap.size≤k) (hn:∀ y ∈ L,∀ bx off,y.A=some ⟨bx,off,none⟩→bx≠k):Sr w0 gs g gc gq cap cc cq L C R (w.setCell ⟨k,o,none⟩ v):=by
 obtain ⟨l1,l2,l3,l4⟩:=h.lt;exact ⟨aZ (by omega) h.s0,aZ (by omega) h.s1,aZ (by omega) h.s2,h.bl.off (by omega) hn,⟨by simp;exact h.cl.lt,fun j hj i u hu=>aZ (by omega) (h.cl.at_ j hj i u hu)⟩,fun j=>by rw [World.frozen?_setCell];exact h.cf j,⟨by simp;exact h.rl.lt,fun j hj i u hu=>aZ (by omega) (h.rl.at_ j hj i u hu)⟩,h.nc,h.gr.off _ _ hk,h.lt,h.ne⟩
theorem Sr.push {L2:List BE} (h:Sr w0 gs g gc gq cap cc cq L C R w) (hbl:BL w' g L2) (hl:L2.length=L.length) (hg:w.grownBy w' (some g)) (hn:∀ y ∈ L2,y ∈ L∨∀ bx off,y.A=some ⟨bx,off,none⟩→w.heap.size≤bx):Sr w0 gs g gc gq cap cc cq L2 C R w':=by
 obtain ⟨l1,l2,l3,l4⟩:=h.lt;obtain ⟨n1,n2,n3,n4,n5⟩:=h.ne;have hs:=h.gr.size;have e:∀ k,k<w0.heap.size→k≠g→w'.heap[k]? = w.heap[k]? := fun k hk hne=>hg.block k (by omega) (by simpa using hne)
 have ec:=e gc l2 (by omega);have eq:=e gq l3 (by omega);have es:=e gs l4 (by omega);refine ⟨by rw [hl];exact (World.cell?_of_block es).trans h.s0,(World.cell?_of_block es).trans h.s1,(World.cell?_of_block es).trans h.s2,hbl,⟨Nat.lt_of_lt_of_le h.cl.lt hg.size,fun j hj i u hu=>(World.cell?_of_block ec).trans (h.cl.at_ j hj i u hu)⟩,fun j=>(World.frozen?_of_block ec).trans (h.cf j),⟨Nat.lt_of_lt_of_le h.rl.lt hg.size,fun j hj i u hu=>(World.cell?_of_block eq).trans (h.rl.at_ j hj i u hu)⟩,fun y hy bx off e2=>?_,h.gr.step hg (.inl rfl),h.lt,h.ne⟩
 rcases hn y hy with q | q
 ·exact h.nc y q bx off e2
 ·have:=q bx off e2;omega
end
end
end Go.Proofs.YtokgmcomgflloaaGreat
