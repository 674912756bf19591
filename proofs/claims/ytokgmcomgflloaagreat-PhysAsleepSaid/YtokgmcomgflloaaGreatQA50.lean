/- The walk of PhysAsleep. -/
import Derived.Test.YtokgmcomgflloaaGreatQA48
import Derived.Test.YtokgmcomgflloaaGreatQA49
import Derived.Test.YtokgmcomgflloaaGreatQA41
set_option maxRecDepth 100000
set_option maxHeartbeats 16000000
namespace Go.Proofs.YtokgmcomgflloaaGreat
section
set_option linter.unusedVariables false
set_option linter.unusedSimpArgs false
open Go.RowKit
variable {w0 w w':World}
theorem JB.next2 {g n k:Nat} {L:List BE} {p:Nat→Bool} {M:List BE} {wr:World} (h:JB w0 g n k L p M wr) {x:BE} (hk:k<M.length) (hx:x=M[k]) :
  (pJ p k x=x→JB w0 g n (k+1) L p M wr)∧(pJ p k x={ x with b:=vX x.b }→JB w0 g n (k+1) L p (M.set k { x with b:=vX x.b }) ((((wr.setCell ⟨g,k*13+2,none⟩ (.int .i64 0)).setCell ⟨g,k*13+3,none⟩ (.int .i64 0)).setCell ⟨g,k*13+5,none⟩ (.int .i64 0)).setCell ⟨g,k*13+11,none⟩ (.bool true))):=by
 have hkn:k<n:=by rw [← h.len];exact hk
 have hML:L[k]? = some x:=by have:=h.at_ k hkn;rw [if_neg (by omega)] at this;rw [← this,List.getElem?_eq_getElem hk,hx]
 have hbl:=h.bl;have hout:=h.out;refine ⟨fun e=>⟨h.len,fun j hj=>?_,hbl,hout⟩,fun e=>?_⟩
 ·rw [h.at_ j hj]
  by_cases e1:j<k
  ·rw [if_pos e1,if_pos (by omega)]
  ·rw [if_neg e1]
   by_cases e2:j=k
   ·subst e2;rw [if_pos (by omega),hML];simp [e]
   ·rw [if_neg (by omega)]
 ·have h1 := hbl.cell hk { x with b := { x.b with vx := 0 } } (o := 2) (v := .int .i64 0) (by omega) (by rw [← hx]; rfl) (by rw [← hx]; exact ⟨rfl, rfl, rfl, rfl⟩);have h2:=h1.cell (k:=k) (by rw [List.length_set];exact hk) { x with b:={ x.b with vx:=0,vy:=0 } } (o:=3) (v:=.int .i64 0) (by omega) (by rw [List.getElem_set_self];rfl) (by rw [List.getElem_set_self];exact ⟨rfl,rfl,rfl,rfl⟩);have h3:=h2.cell (k:=k) (by rw [List.length_set,List.length_set];exact hk) { x with b:={ x.b with vx:=0,vy:=0,spin:=0 } } (o:=5) (v:=.int .i64 0) (by omega) (by rw [List.getElem_set_self];rfl) (by rw [List.getElem_set_self];exact ⟨rfl,rfl,rfl,rfl⟩);have h4:=h3.cell (k:=k) (by rw [List.length_set,List.length_set,List.length_set];exact hk) { x with b:=vX x.b } (o:=11) (v:=.bool true) (by omega) (by rw [List.getElem_set_self];rfl) (by rw [List.getElem_set_self];exact ⟨rfl,rfl,rfl,rfl⟩);rw [List.set_set,List.set_set,List.set_set] at h4;refine ⟨by rw [List.length_set];exact h.len,fun j hj=>?_,h4,(((hout.setCell (p:=⟨g,k*13+2,none⟩) (.inr rfl) _).setCell (p:=⟨g,k*13+3,none⟩) (.inr rfl) _).setCell (p:=⟨g,k*13+5,none⟩) (.inr rfl) _).setCell (p:=⟨g,k*13+11,none⟩) (.inr rfl) _⟩
  by_cases e1:j=k
  ·subst e1;rw [List.getElem?_set_self hk,if_pos (by omega),hML];show _=some (pJ p j x);rw [e]
  ·rw [List.getElem?_set_ne (fun q => e1 q.symm), h.at_ j hj]
   by_cases e2:j<k
   ·rw [if_pos e2,if_pos (by omega)]
   ·rw [if_neg e2,if_neg (by omega)]
theorem Nv {α β:Type} {La:Lay α} {Lb:Lay β} {e1 e2:TypeId} {w:World} {B1 B2 g n c m d:Nat} {A:Option Addr} {l:List α} {l':List β} (he:e1≠e2) (h1:aU La e1 w B1 (.slice (some ⟨g,0,none⟩) n c) l) (h2:aU Lb e2 w B2 (.slice A m d) l') {b off:Nat} (e:A=some ⟨b,off,none⟩) (q:b=g):False:=by
 subst e q
 rcases h1.2 with ⟨h,-⟩ | ⟨g1,cap1,cur1,hv1,-,hg1,-⟩
 ·cases h
 rcases h2.2 with ⟨h,-⟩ | ⟨g2,cap2,cur2,hv2,-,hg2,-⟩
 ·cases h
 cases hv1
 cases hv2
 rw [hg1] at hg2
 cases hg2
 exact he rfl
theorem zF (args:Array Value) (w:World):(callFunc 20 args).run Tryz.prog w = .ok (.enter 20 args) w:=by kernel_rfl
theorem LX (j:Nat) (x:BE):pJ (fun _=>true) j x=lU x:=by unfold pJ lU;simp

def Py (w0:World) (g:Nat) (A Aj:Option Addr) (n c nj cj:Nat) (gy st:Int) (L:List BE) (J:List Jt) (wr:World):Prop :=
 ZS g (.slice A n c) (.slice Aj nj cj) (.slice none 0 0) 0 gy st wr∧iH wr A n c L∧dW gZ wr Aj nj cj J∧Below w0.heap.size w0 wr
theorem Py.keep {g:Nat} {A Aj:Option Addr} {n c nj cj:Nat} {gy st:Int} {L:List BE} {J:List Jt} {wr w':World} (hb:Below wr.heap.size wr w') (h:Py w0 g A Aj n c nj cj gy st L J wr):Py w0 g A Aj n c nj cj gy st L J w' :=
 ⟨h.1.keep hb,h.2.1.below hb,h.2.2.1.below hb,aj hb h.2.2.2⟩
theorem vP (A:Option Addr) (n c:Nat) (r:List Int) (w:World) (hS:Jz w A n c r):Calls Tryz.prog 5 #[.slice A n c] w (dG (.bool true) w):=by
 have HSI:=hid hS;clear hS
 go_enter Tryz.func5,Tryz.ntmps5
 go_wp2_with fail
 refine (CK A n c r _ HSI.out).mono ?_;rintro e w1 ⟨sv,jv,L,J,gy,st,rfl,hok⟩;obtain ⟨A8,n8,c8,rfl,hj8,hn8⟩:=hok.jown.sl;obtain ⟨A1,N,cc,rfl,hs1,hn1⟩:=hok.own.sl;obtain rfl:N=L.length:=hs1.len;have HMD:Hid (∀ x ∈ L,jO x.b∧Made x.l):=hid (fun x hx=>(hok.co x hx).2);have hln:L.length≤5:=hok.len;have HBW:=hid hok.bel;have HJ1:=hid hj8;have HSB1:Hid (iH w1 A1 L.length cc L):=hid ⟨hs1,fun x hx=>(hok.co x hx).1⟩;have HJN:Hid (∀ b off,A8=some ⟨b,off,none⟩→w.heap.size≤b∧b<w1.heap.size):=hid (fun b off e=>hok.jown.lt (k:=b) (by rw [e];rfl));have HCO:Hid (∀ x ∈ L,∀ b off,x.A=some ⟨b,off,none⟩→b<w1.heap.size):=hid (fun x hx b off e=>kI (hok.co x hx).1 (fun h=>by have:=KJ HMD.out x hx;rw [h] at this;exact absurd (bJ this).1 (by decide)) b off e);obtain ⟨M,hM⟩:∃ M,M=L.map lU:=⟨_,rfl⟩;have HMM:=hid hM;have HSL:Hid (∀ x ∈ M,Bj (aF x)):=hid (fun x hx=>by rw [hM] at hx;obtain ⟨y,hy,rfl⟩:=List.mem_map.1 hx;exact J2 (HMD.out y hy).1 (HMD.out y hy).2);have HML:Hid (M.length=L.length):=hid (by rw [hM];simp)
 have HKC:Hid (bg M (iB M [])=0):=hid (by
  have hbe:aZ M=0:=pV (by rw [HML.out];omega) (fun x hx=>(HSL.out x hx).1);have hf:iB M []=qW L:=by unfold iB;rw [if_pos hbe,Lp _ (JF M),hM,Jw]
  have h1:=GA L;rw [hf];refine AQ hbe ?_ (fun x hx=>by rw [HML.out];exact N9 HMD.out x hx);have h2:=Nat.mul_le_mul hln hln
  omega)
 obtain ⟨g,hg⟩:∃ g,g=w1.heap.size:=⟨_,rfl⟩;obtain ⟨w2,hw2⟩:∃ x,x=w1.alloc (.cells #[.slice A1 L.length cc,.slice A8 n8 c8,.slice none 0 0,.int .i64 0,.int .i64 gy,.int .i64 st] 33):=⟨_,rfl⟩;have hb2:Below w1.heap.size w1 w2:=by rw [hw2];exact (Below.refl _ _).alloc (Nat.le_refl _) _
 have HZ2:Hid (ZS g (.slice A1 L.length cc) (.slice A8 n8 c8) (.slice none 0 0) 0 gy st w2):=hid (by rw [hw2,hg];exact ⟨by go_simp,by go_simp,by go_simp,by go_simp,by go_simp,by go_simp⟩);have HB2:=hid (aj hb2 HBW.out);have HSB2:=hid (HSB1.out.below hb2);have HJ2:=hid (HJ1.out.below hb2);have HGW:Hid (g=w1.heap.size∧w.heap.size≤w1.heap.size):=hid ⟨hg,HBW.out.size⟩;have HFM:=hid hok.own.form;have HOW:=hid hok.own;have HOJ:=hid hok.jown;have HNE0:=hid hok.ne;have HBX:=hid hb2;clear hb2 hok hs1 hj8 hn1 hn8 hM HSB1 HJ1
 go_upto_region 2 with fail
 rw [← hw2,← hg];clear hw2 hg;obtain ⟨z0,z1,z2,z3,z4,z5⟩:=HZ2.out;have lz:=lt_of_cell z0
 by_cases hL0:L.length=0
 ·have hM0 : M = [] := List.length_eq_zero_iff.1 (by rw [HML.out]; exact hL0);have hL00:L=[]:=List.length_eq_zero_iff.1 hL0;have hq:Py w g A1 A8 L.length cc n8 c8 gy st M J w2:=⟨HZ2.out,by rw [hM0,← hL00];exact HSB2.out,HJ2.out,HB2.out⟩;obtain ⟨N,hN⟩:∃ N,N=L.length:=⟨_,rfl⟩;rw [← hN] at hq;have hN0:N=0:=by omega
  clear HZ2 HSB2 HJ2 HB2 HMD HCO HMM HFM HOW HOJ HNE0 HBX HJN;rw [← hN];rw [← hN] at z0;clear hL0 hL00 hM0 hN HML;subst hN0;go_wp2
  go_loopw [13] (fun j wr=>j = .int .i64 0∧wr=w2) (fun _ _=>0)
  case atStart=>exact ⟨rfl,rfl⟩
  case round =>
   obtain ⟨rfl,rfl⟩:=hrel;clear z0 z1 z2 z3 z4 z5 lz;have HTL:=hid hq;clear hq;obtain ⟨z0,z1,z2,z3,z4,z5⟩:=HTL.out.1;have lz:=lt_of_cell z0
   go_wp2_with fail
   refine (uV _).mono ?_;rintro e wa ⟨rfl,hb⟩;replace HTL:=hid (HTL.out.keep hb);clear hb z0 z1 z2 z3 z4 z5 lz;obtain ⟨z0,z1,z2,z3,z4,z5⟩:=HTL.out.1;have lz:=lt_of_cell z0;obtain ⟨E,hE⟩:∃ E,E=fJ M J [] 0 gy st:=⟨_,rfl⟩;have HCK:=hid (kW (w:=wa) HTL.out.2.1 HTL.out.2.2.1 (dW.nil bZ wa) 0 gy st);rw [← hE] at HCK;have HEE:=hid hE;clear hE
   go_wp2_with fail
   refine HCK.out.mono ?_;rintro e wb ⟨rfl,hb⟩;replace HTL:=hid (HTL.out.keep hb);clear hb HCK z0 z1 z2 z3 z4 z5 lz;obtain ⟨z0,z1,z2,z3,z4,z5⟩:=HTL.out.1;have lz:=lt_of_cell z0
   by_cases he:E=0
   case neg =>
    have hne:(E != 0)=true:=by simp [he]
    have HBF:=hid HTL.out.2.2.2;clear he HEE;go_wp2
    go_returns
    exact bR (by simp) HBF.out
   subst he;have HST:=hid (sS HTL.out.2.1 HTL.out.2.2.1 0 gy st HEE.out.symm HSL.out HKC.out)
   go_wp2_with fail
   refine HST.out.mono ?_;rintro e wc ⟨A2,n2,c2,Aj2,nj2,cj2,Ac2,nc2,cc2,gx2,gy2,st2,L2,rfl,hs2,hm2,hb⟩;replace HTL:=hid (HTL.out.keep hb);have HS2:=hid hs2;have HM2:=hid hm2;clear hb HST z0 z1 z2 z3 z4 z5 lz hs2 hm2;obtain ⟨gx,hgx⟩:∃ y,y=wc.heap.size:=⟨_,rfl⟩;obtain ⟨wd,hwd⟩:∃ y,y=wc.alloc (.cells #[.slice A2 n2 c2,.slice Aj2 nj2 cj2,.slice Ac2 nc2 cc2,.int .i64 gx2,.int .i64 gy2,.int .i64 st2] 33):=⟨_,rfl⟩;have hbd:Below wc.heap.size wc wd:=by rw [hwd];exact (Below.refl _ _).alloc (Nat.le_refl _) _
   have x0:wd.cell? ⟨gx,0,none⟩=some (.slice A2 n2 c2):=by rw [hwd,hgx];go_simp
   have lx:=lt_of_cell x0;replace HTL:=hid (HTL.out.keep hbd);replace HS2:=hid (HS2.out.below hbd);clear hbd
   go_upto_region 14 with fail
   rw [← hwd,← hgx];clear hwd hgx;obtain ⟨z0,z1,z2,z3,z4,z5⟩:=HTL.out.1;have lz:=lt_of_cell z0;have HEQ:=hid (mY 20 zF yg A2 _ n2 c2 _ cc L2 M wd HS2.out HTL.out.2.1 HM2.out)
   go_wp2_with fail
   refine HEQ.out.mono ?_;rintro e we ⟨rfl,hb⟩;have HBF:=hid (aj hb HTL.out.2.2.2);go_wp2
   go_returns
   exact bR (by simp) HBF.out
 ·obtain ⟨gb,hv,hgb1,hgb2,hcp,hcm,hfr,hcl⟩:∃ gb,A1=some ⟨gb,0,none⟩∧w.heap.size≤gb∧gb<w1.heap.size∧L.length≤cc∧cc≤maxLen∧(∀ j,w1.frozen? ⟨gb,j,none⟩=false)∧aJ jo w1 gb 0 L:=by
   rcases HFM.out with ⟨h1,h2⟩ | ⟨g',cap',hv,h1,h2,h3,h4,h5,h6⟩
   ·rw [h2] at hL0;exact absurd rfl hL0
   ·cases hv;exact ⟨g',rfl,h1,h2,h3,h4,h5,h6⟩
  subst hv;have HJB:Hid (∀ b off,A8=some ⟨b,off,none⟩→b≠gb):=hid (fun b off e q=>Nv (by decide) HOW.out HOJ.out e q);have HBL:Hid (BL w2 gb L):=hid ⟨hcl.below HBX.out,fun j=>(World.frozen?_of_block (HBX.out.block _ hgb2)).trans (hfr j),HSB2.out.co,fun x hx bx off e q=>HNE0.out x hx bx off e (by rw [q];rfl)⟩;have HSP:Hid (JB w2 gb L.length 0 L (fun _=>true) L w2):=hid ⟨rfl,fun j hj=>by rw [if_neg (by omega)],HBL.out,Out.refl _ _⟩;have HCP:=hid (And.intro hcp hcm);have HGB:Hid (w.heap.size≤gb∧gb<g):=hid ⟨hgb1,by have:=HGW.out;omega⟩;clear hgb1 hgb2 hcp hcm hfr hcl HBL;go_wp2
  go_loopw [13] (fun j wr=>∃ (k:Nat) (M':List BE),k≤L.length∧j = .int .i64 k∧Hid (JB w2 gb L.length k L (fun _=>true) M' wr)) (fun j _=>L.length-(intOf j).toNat)
  case atStart=>exact ⟨0,L,Nat.zero_le _,rfl,HSP⟩
  case round =>
   clear HSP z0 z1 z2 z3 z4 z5 lz;obtain ⟨k,M',hk,rfl,HW⟩:=hrel;have hgg:¬ g=gb:=by have:=HGB.out;omega
   have HZr:=hid (HZ2.out.out HW.out.out hgg);obtain ⟨z0,z1,z2,z3,z4,z5⟩:=HZr.out;have lz:=lt_of_cell z0
   by_cases hlt:k<L.length
   ·have hlt' : (k : Int) < (L.length : Int) := by omega
    have hwk:IntKind.i64.wrap ((k:Int)+1)=(k:Int)+1:=IntWalk.i64_in _ (by omega);have hkM:k<M'.length:=by rw [HW.out.len];exact hlt
    obtain ⟨x,hx⟩:∃ x,x=M'[k]:=⟨_,rfl⟩;obtain ⟨d0,d1,d2,d3,d4,d5,d6,d7,d8,d9,d10,d11,d12⟩:=bK HW.out.bl.cl hkM hx;have hdf:=HW.out.bl.free;have HN:=hid (HW.out.next2 hkM hx);have HX:=hid hx;obtain ⟨⟨px,py,vx,vy,ang,spin,ms,iner,bounce,rub,asl,calm⟩,xA,xn,xc,xl⟩:=x;dsimp only at d0 d1 d2 d3 d4 d5 d6 d7 d8 d9 d10 d11 d12;have ld:=lt_of_cell d0;clear hx HW
    by_cases hm:ms > 0
    ·have HR := hid (HN.out.2 (by unfold pJ; rw [if_pos ⟨hm, rfl⟩]));clear HN HX hkM;go_wp2;go_roundw
     case rel=>exact ⟨k+1,_,hlt,by go_num,HR⟩
     case measure=>simp [intOf];omega
    ·have HR := hid (HN.out.1 (by unfold pJ; rw [if_neg (fun q => hm q.1)]));clear HN HX hkM;go_wp2;go_roundw
     case rel=>exact ⟨k+1,M',hlt,by go_num,HR⟩
     case measure=>simp [intOf];omega
   ·have hke : k = L.length := by omega
    have HEQM:Hid (M'=M):=hid (by
     refine List.ext_getElem? fun j=>?_
     rw [HMM.out,List.getElem?_map]
     by_cases e:j<L.length
     ·rw [HW.out.at_ j e, if_pos (by omega)]
      congr 1
      funext x
      exact LX j x
     ·rw [List.getElem?_eq_none (by rw [HW.out.len];omega),List.getElem?_eq_none (by omega)];rfl)
    have hq:Py w g (some ⟨gb,0,none⟩) A8 L.length cc n8 c8 gy st M J wr:=by
     have hbl:=HW.out.bl;rw [HEQM.out] at hbl;refine ⟨HZr.out,⟨⟨HML.out.symm,HCP.out.1,by have:=HCP.out.2;unfold maxLen at this;omega,fun _=>⟨gb,0,rfl,hbl.cl⟩⟩,hbl.co⟩,?_,HW.out.out.toBelow HB2.out HB2.out.size HGB.out.1⟩;exact HJ2.out.outD HW.out.out (fun b off e _ q=>HJB.out b off e q)
    subst hke;obtain ⟨N,hN⟩:∃ N,N=L.length:=⟨_,rfl⟩;rw [← hN] at hq;rw [← hN];obtain ⟨A1,hA1⟩:∃ A1,A1=some (⟨gb,0,none⟩:Addr):=⟨_,rfl⟩;rw [← hA1] at hq;clear HZ2 HSB2 HJ2 HB2 HMD HCO HMM HFM HOW HOJ HNE0 HBX HJB HJN HW HEQM HZr z0 z1 z2 z3 z4 z5 lz hk hlt hL0 hN HML hA1 HCP HGB hgg;have HTL:=hid hq;clear hq;obtain ⟨z0,z1,z2,z3,z4,z5⟩:=HTL.out.1;have lz:=lt_of_cell z0
    go_wp2_with fail
    refine (uV _).mono ?_;rintro e wa ⟨rfl,hb⟩;replace HTL:=hid (HTL.out.keep hb);clear hb z0 z1 z2 z3 z4 z5 lz;obtain ⟨z0,z1,z2,z3,z4,z5⟩:=HTL.out.1;have lz:=lt_of_cell z0;obtain ⟨E,hE⟩:∃ E,E=fJ M J [] 0 gy st:=⟨_,rfl⟩;have HCK:=hid (kW (w:=wa) HTL.out.2.1 HTL.out.2.2.1 (dW.nil bZ wa) 0 gy st);rw [← hE] at HCK;have HEE:=hid hE;clear hE
    go_wp2_with fail
    refine HCK.out.mono ?_;rintro e wb ⟨rfl,hb⟩;replace HTL:=hid (HTL.out.keep hb);clear hb HCK z0 z1 z2 z3 z4 z5 lz;obtain ⟨z0,z1,z2,z3,z4,z5⟩:=HTL.out.1;have lz:=lt_of_cell z0
    by_cases he:E=0
    case neg =>
     have hne:(E != 0)=true:=by simp [he]
     have HBF:=hid HTL.out.2.2.2;clear he HEE;go_wp2
     go_returns
     exact bR (by simp) HBF.out
    subst he;have HST:=hid (sS HTL.out.2.1 HTL.out.2.2.1 0 gy st HEE.out.symm HSL.out HKC.out)
    go_wp2_with fail
    refine HST.out.mono ?_;rintro e wc ⟨A2,n2,c2,Aj2,nj2,cj2,Ac2,nc2,cc2,gx2,gy2,st2,L2,rfl,hs2,hm2,hb⟩;replace HTL:=hid (HTL.out.keep hb);have HS2:=hid hs2;have HM2:=hid hm2;clear hb HST z0 z1 z2 z3 z4 z5 lz hs2 hm2;obtain ⟨gx,hgx⟩:∃ y,y=wc.heap.size:=⟨_,rfl⟩;obtain ⟨wd,hwd⟩:∃ y,y=wc.alloc (.cells #[.slice A2 n2 c2,.slice Aj2 nj2 cj2,.slice Ac2 nc2 cc2,.int .i64 gx2,.int .i64 gy2,.int .i64 st2] 33):=⟨_,rfl⟩;have hbd:Below wc.heap.size wc wd:=by rw [hwd];exact (Below.refl _ _).alloc (Nat.le_refl _) _
    have x0:wd.cell? ⟨gx,0,none⟩=some (.slice A2 n2 c2):=by rw [hwd,hgx];go_simp
    have lx:=lt_of_cell x0;replace HTL:=hid (HTL.out.keep hbd);replace HS2:=hid (HS2.out.below hbd);clear hbd
    go_upto_region 14 with fail
    rw [← hwd,← hgx];clear hwd hgx;obtain ⟨z0,z1,z2,z3,z4,z5⟩:=HTL.out.1;have lz:=lt_of_cell z0;have HEQ:=hid (mY 20 zF yg A2 _ n2 c2 _ cc L2 M wd HS2.out HTL.out.2.1 HM2.out)
    go_wp2_with fail
    refine HEQ.out.mono ?_;rintro e we ⟨rfl,hb⟩;have HBF:=hid (aj hb HTL.out.2.2.2);go_wp2
    go_returns
    exact bR (by simp) HBF.out
end
end Go.Proofs.YtokgmcomgflloaaGreat
