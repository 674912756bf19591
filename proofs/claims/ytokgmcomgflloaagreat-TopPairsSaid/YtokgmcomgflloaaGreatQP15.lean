/- Parts of a proof: contracts and laws. -/
import Derived.Test.YtokgmcomgflloaaGreatQP13
import Derived.Test.YtokgmcomgflloaaGreatQP14
import Derived.Test.YtokgmcomgflloaaGreatQP03
import Derived.Test.YtokgmcomgflloaaGreatQP08
import Derived.BigQuiet
import Derived.Test.YtokgmcomgflloaaGreatQP10
import Derived.Test.YtokgmcomgflloaaGreatQP09
import Derived.Test.YtokgmcomgflloaaGreatQP04
import Derived.Test.YtokgmcomgflloaaGreatQP02
set_option maxRecDepth 100000
set_option maxHeartbeats 16000000
namespace Go.Proofs.YtokgmcomgflloaaGreat
section
set_option linter.unusedVariables false
set_option linter.unusedSimpArgs false
open Go.RowKit
variable {w0 w w':World}

def wX (b:Bd) (p q:Int):Int:=fV (l9 p q b.ang) b.px
def wY (b:Bd) (p q:Int):Int:=fV (mE p q b.ang) b.py
def bT (b:Bd) (l:List V):List V:=l.map fun p=>(wX b p.1 p.2,wY b p.1 p.2)
theorem iI (b:Bd) (l:List V):(bT b l).length=l.length:=by simp [bT]
def jH (b:Bd) (l:List V):List V:=if bG b l≠0 then [] else bT b l

def Nl (l:List V) (w:World) (e:Ending) (w':World):Prop:=∃ A n c,e = .returned (.slice A n c)∧Sl w' A n c l∧(l=[]→A=none)∧(∀ bx off,A=some ⟨bx,off,none⟩→w.heap.size≤bx)∧Below w.heap.size w w'
theorem Ia {B:Nat} {v:Value} {l:List V} (hb:Below w.heap.size w w') (h:Own w B v l):Own w' B v l:=h.below hb
theorem OY {B g:Nat} {b:Bd} {A:Option Addr} {n c:Nat} (hb:Below B w w') (hg:g<B) (h:aW w g b A n c):aW w' g b A n c:=by
 have e:∀ j v,w.cell? ⟨g,j,none⟩=some v→w'.cell? ⟨g,j,none⟩=some v:=fun j v hv=>((cO hb).1 _ _ hg).trans hv
 exact ⟨e _ _ h.c0,e _ _ h.c1,e _ _ h.c2,e _ _ h.c3,e _ _ h.c4,e _ _ h.c5,e _ _ h.c6,e _ _ h.c7,e _ _ h.c8,e _ _ h.c9,e _ _ h.c10,e _ _ h.c11,e _ _ h.c12,fun j=>((cO hb).2 _ _ hg).trans (h.free j)⟩
theorem jk {l:List V} (h:fT l=0):aP l=0:=by
 unfold fT at h
 by_cases hc:aP l=0
 ·exact hc
 ·rw [if_pos hc] at h;exact h
theorem kH (b:Bd) (A:Option Addr) (n c:Nat) (l:List V) (w:World) (hS:Sl w A n c l):Calls Tryz.prog 35 #[gH b A n c] w (Nl (jH b l) w):=by
 obtain ⟨W,hW⟩:∃ W,W=w.alloc (.cells #[.int .i64 b.px,.int .i64 b.py,.int .i64 b.vx,.int .i64 b.vy,.int .i64 b.ang,.int .i64 b.spin,.int .i64 b.mass,.int .i64 b.iner,.int .i64 b.bounce,.int .i64 b.rub,.slice A n c,.bool b.asleep,.int .i64 b.calm] 27):=⟨_,rfl⟩;have HK0:=hid (show aW W w.heap.size b A n c by rw [hW];exact aW.here w b A n c _);have hB0:Below w.heap.size w W:=by rw [hW];go_grown
 have HS0:=hid (hS.below hB0);have HSW:=hid hS;clear hS;obtain ⟨k0,k1,k2,k3,k4,k5,k6,k7,k8,k9,k10,k11,k12,kf⟩:=HK0.out
 go_enter Tryz.func35,Tryz.ntmps35
 go_wp2_with fail
 rw [← hW];clear hW;refine (nH b A n c l _ HS0.out).mono ?_;rintro e w0 ⟨rfl,hb0⟩;have HK1:=hid (eD hb0 HK0.out);have HS1:=hid (qI hb0 HS0.out);have hB1:=aj hb0 hB0;clear k0 k1 k2 k3 k4 k5 k6 k7 k8 k9 k10 k11 k12 kf;clear hb0 HK0 HS0 hB0
 by_cases hE:bG b l=0
 case neg =>
  have hne:(bG b l != 0)=true:=by simp [hE]
  have HR:Hid (jH b l=[]):=by show _=_;unfold jH;rw [if_pos hE]
  go_wp2
  go_returns
  exact ⟨none,0,0,rfl,by rw [HR.out];exact Sl.empty' _,fun _=>rfl,(fun bx off e=>by cases e),hB1⟩
 have HR:Hid (jH b l=bT b l):=by show _=_;unfold jH;rw [if_neg (by simp [hE])]
 obtain ⟨hsh,hnu⟩:=fA hE;have hang:=(sM hnu).2.2.2.1;obtain ⟨h8,h3,_,_⟩:=aU (jk hsh);have hn:=HS1.out.len;subst hn;rw [hE];clear hE hsh hnu;obtain ⟨k0,k1,k2,k3,k4,k5,k6,k7,k8,k9,k10,k11,k12,kf⟩:=HK1.out;go_wp2;clear k0 k1 k2 k3 k4 k5 k6 k7 k8 k9 k10 k11 k12 kf
 go_loopw [3,12] (fun s i wr=>∃ k:Nat,k≤l.length∧i = .int .i64 k∧Own wr (w.heap.size+1) s (bT b (l.take k))∧aW wr w.heap.size b A l.length c∧Below w.heap.size w wr) (fun _ i _=>l.length-(intOf i).toNat)
 case atStart=>exact ⟨0,Nat.zero_le _,rfl,Own.nil _ _,HK1.out,hB1⟩
 case round =>
  clear HK1 HS1 hB1;obtain ⟨k,hk,rfl,hown,hbd,hB⟩:=hrel;obtain ⟨wo,rfl⟩:∃ wo:World,wo=wr:=⟨_,rfl⟩;obtain ⟨s,hs0,hown⟩:∃ s,s=_∧Own wo (w.heap.size+1) s (bT b (l.take k)):=⟨_,rfl,hown⟩;subst hs0;have HO:=hid hown;have HK:=hid hbd;have HS:=hid (HSW.out.below hB);clear hown hbd
  by_cases hlt:k<l.length
  ·obtain ⟨ba, off, hA, hC⟩ := HS.out.at_ (by intro h; subst h; simp at hlt);subst hA;have hx:=hC.x k hlt;have hy:=hC.y k hlt;have hbo:=hC.lt;obtain ⟨wa,hwa⟩:∃ wa,wa=wo.alloc (.cells #[.int .i64 (px l k),.int .i64 (py l k)] 24):=⟨_,rfl⟩;obtain ⟨gp,hgp⟩:∃ g,g=wo.heap.size:=⟨_,rfl⟩;have hgl:w.heap.size<gp:=by rw [hgp];exact HK.out.lt
   have HK1:=hid (show aW wa w.heap.size b (some ⟨ba,off,none⟩) l.length c by rw [hwa];exact HK.out.alloc _);have HO1:=hid (show Own wa (w.heap.size+1) s (bT b (l.take k)) by rw [hwa];exact HO.out.alloc _);have hB1:Below w.heap.size w wa:=by rw [hwa];exact hB.alloc hB.size _
   have p0:wa.cell? ⟨gp,0,none⟩=some (.int .i64 (px l k)):=by rw [hwa,hgp];go_simp
   have p1:wa.cell? ⟨gp,1,none⟩=some (.int .i64 (py l k)):=by rw [hwa,hgp];go_simp
   obtain ⟨tx,htx⟩:∃ t,t=l9 (px l k) (py l k) b.ang:=⟨_,rfl⟩;obtain ⟨ty,hty⟩:∃ t,t=mE (px l k) (py l k) b.ang:=⟨_,rfl⟩;have HTC:=hid (F5 (px l k) (py l k) b.ang hang.1 (by omega));rw [← htx,← hty] at HTC;have HTX:=hid htx;have HTY:=hid hty;clear hC HK HO HS hB htx hty
   go_upto_region 7 with fail
   rw [← hwa,← hgp];clear hwa hgp hx hy hbo;refine wp_region_noPanic ?_;refine au (S:=(S2 (fun w'=>aW w' w.heap.size b (some ⟨ba,off,none⟩) l.length c∧Own w' (w.heap.size+1) s (bT b (l.take k))∧w'.cell? ⟨gp,0,none⟩=some (.int .i64 (px l k))∧w'.cell? ⟨gp,1,none⟩=some (.int .i64 (py l k))∧Below w.heap.size w w'))) (T:=(fun j=>[0,0,0,0,0,0,0,0,0,1].getD j 0)) (by kernel_rfl) (aK ⟨HK1.out.drew,HO1.out.drew,p0,p1,hB1.drew⟩) (fun hH=>?_);have hWr2:aG (S2 (fun w'=>aW w' w.heap.size b (some ⟨ba,off,none⟩) l.length c∧Own w' (w.heap.size+1) s (bT b (l.take k))∧w'.cell? ⟨gp,0,none⟩=some (.int .i64 (px l k))∧w'.cell? ⟨gp,1,none⟩=some (.int .i64 (py l k))∧Below w.heap.size w w')):=aI _;refine dG [(0,16),(1,17),(2,18),(3,19),(5,21),(6,22)] 5 0 0 (L':=?Lr2_1) hWr2 hH ?hyr2_1 ?_
   case hyr2_1=>((iterate 6 apply dF;rfl;kernel_rfl;intro w' hSw;replace hSw:=aB hSw;(try dsimp only at hSw);have q0:=hSw.1;have q1:=hSw.2.1;have q2:=hSw.2.2.1;have q3:=hSw.2.2.2.1;have q4:=hSw.2.2.2.2;obtain ⟨qa0_0,qa0_1,qa0_2,qa0_3,qa0_4,qa0_5,qa0_6,qa0_7,qa0_8,qa0_9,qa0_10,qa0_11,qa0_12,qa0_f⟩:=id q0;(try simp only [sB,sC]);go_simp;(try with_reducible rfl));exact dD)
   simp only [sB,sC];refine U1 4 0 rfl (fun K hK=>?_)
   try clear hb
   go_simp
   (go_at_call 90;refine (HTC.out _).mono ?_;rintro e wn ⟨rfl,hb⟩)
   refine hK.out _ _ ?hsr2_7 (fun hH2=>?hrr2_7)
   case hsr2_7=>exact aK (by have hG:=hH;replace hG:=aB hG;(try dsimp only at hG);have q0:=hG.1;have q1:=hG.2.1;have q2:=hG.2.2.1;have q3:=hG.2.2.2.1;have q4:=hG.2.2.2.2;exact ⟨eD hb q0,Ia hb q1,keepCell hb q2,keepCell hb q3,aj hb q4⟩)
   clear hK K hH;have hH:=hH2;clear hH2
   try simp only [Act.put,sA,sB,sC]
   refine U1 7 0 rfl (fun K hK=>?_)
   try clear hb
   go_simp
   (go_at_call 89;refine (qj tx ty b.px b.py _).mono ?_;rintro e wn ⟨rfl,hb⟩)
   refine hK.out _ _ ?hsr2_8 (fun hH2=>?hrr2_8)
   case hsr2_8=>exact aK (by have hG:=hH;replace hG:=aB hG;(try dsimp only at hG);have q0:=hG.1;have q1:=hG.2.1;have q2:=hG.2.2.1;have q3:=hG.2.2.2.1;have q4:=hG.2.2.2.2;exact ⟨eD hb q0,Ia hb q1,keepCell hb q2,keepCell hb q3,aj hb q4⟩)
   clear hK K hH;have hH:=hH2;clear hH2
   try simp only [Act.put,sA,sB,sC]
   refine U1 8 0 rfl (fun K hK=>?_)
   try clear hb
   have hG:=hH;replace hG:=aB hG;(try dsimp only at hG);have q0:=hG.1;have q1:=hG.2.1;have q2:=hG.2.2.1;have q3:=hG.2.2.2.1;have q4:=hG.2.2.2.2;go_simp;refine hK.out _ _ ?hsr2_9 (fun hH2=>?hrr2_9)
   case hsr2_9=>exact aK (by have hG:=hH;replace hG:=aB hG;(try dsimp only at hG);have q0:=hG.1;have q1:=hG.2.1;have q2:=hG.2.2.1;have q3:=hG.2.2.2.1;have q4:=hG.2.2.2.2;exact ⟨q0.alloc _,q1.alloc _,keepCell Ba q2,keepCell Ba q3,q4.alloc q4.size _⟩)
   clear hK K hH;have hH:=hH2;clear hH2
   try simp only [Act.put,sA,sB,sC]
   have hT:Cells (wn.alloc (.cells #[.int .i64 (fV tx b.px),.int .i64 (fV ty b.py)] 24)) wn.heap.size 0 [(fV tx b.px,fV ty b.py)]:=cells_one (by go_simp) (by go_simp);obtain ⟨gT,hgT⟩:∃ g,g=wn.heap.size:=⟨_,rfl⟩;have hlT:w.heap.size<gT:=by rw [hgT];exact q0.lt
   rw [← hgT] at hT
   try rw [← hgT]
   clear hgT q0 q1 q2 q3 q4;generalize wn.alloc (.cells #[.int .i64 (fV tx b.px),.int .i64 (fV ty b.py)] 24)=wx8 at *
   refine U1 9 1 rfl (fun K hK=>?_);have hG:=hH;replace hG:=aB hG;(try dsimp only at hG);have q0:=hG.1;have q1:=hG.2.1;have q2:=hG.2.2.1;have q3:=hG.2.2.2.1;have q4:=hG.2.2.2.2;have hbs:=q0.lt
   (refine tH (by rfl) _ _ (by rfl) (w.heap.size+1) s (bT b (l.take k)) (by rfl) q1 gT 0 1 1 [(fV tx b.px,fV ty b.py)] (by rfl) rfl hT (by rw [iI,List.length_take,List.length_singleton];omega) (by omega) ?_;intro v' w1 ho1 hg1;have HO1:=hid ho1;have hb1:=Own.grown q1 hg1 (by omega);clear ho1 hg1)
   refine hK.out _ _ ?hsr2_10 (fun hH2=>?hrr2_10)
   case hsr2_10=>exact gV
   clear hK K hH;have hH:=hH2;clear hH2
   try simp only [Act.put,List.getElem_toArray,List.getElem_cons_succ,List.getElem_cons_zero,List.setIfInBounds_toArray,List.set_cons_zero,List.set_cons_succ]
   refine Ut 10 3 0 1 1 (v:=?vr2_11) rfl hWr2 hH ?hyr2_11 ?_
   case hyr2_11=>(intro w' hSw;clear hSw;go_simp;try (with_reducible rfl))
   simp only [sB,sC];refine ak (by kernel_rfl) ?_ _ _;refine NoPanic.normal ?_;have hBn:Below w.heap.size w w1:=q4.trans (hb1.mono (by omega));have HKn:=hid (OY hb1 (by omega) q0);clear hH hG q0 q1 q2 q3 q4;go_wp2;go_roundw
   case rel =>
    refine ⟨k+1,hlt,by go_num,?_,HKn.out,hBn⟩;have:=HO1.out;rw [HTX.out,HTY.out] at this;rw [List.take_succ_eq_append_getElem hlt,bT,List.map_append,List.map_singleton,wu hlt];exact this
   case measure=>simp [intOf];omega
  ·have hge : l.length ≤ k := by omega
   obtain ⟨A',n',c',rfl,hs,hf⟩:=HO.out.sl;have H2:Hid (Sl wo A' n' c' (bT b l)):=by rwa [List.take_of_length_le hge] at hs
   have HF:=hid hf;clear hs hf HO HK HS;go_wp2
   go_returns
   exact ⟨_,_,_,rfl,by rw [HR.out];exact H2.out,fun h=>by rw [HR.out] at h;have:=congrArg List.length h;rw [iI] at this;simp at this;subst this;simp at h3,(fun bx off e=>by have:=HF.out bx off e;omega),hB⟩
def jQ (n : Int) : Nat → Int → Int
 | 0,a=>a
 | k+1,a=>if (a+2 ^ k)*(a+2 ^ k)≤n then jQ n k (a+2 ^ k) else jQ n k a
def jS (n:Int):Int:=jQ n 64 0
theorem GU (n:Int):∀ (k:Nat) (a:Int),0≤a→a*a≤n→n<(a+2 ^ k)*(a+2 ^ k)→0≤jQ n k a∧jQ n k a*jQ n k a≤n∧n<(jQ n k a+1)*(jQ n k a+1):=by
 intro k
 induction k with
 | zero=>intro a h0 h1 h2;exact ⟨h0,h1,by simpa [jQ] using h2⟩
 | succ k ih =>
  intro a h0 h1 h2;have hp:(0:Int)<2 ^ k:=Int.pow_pos (by omega);have e:(2:Int) ^ (k+1)=2 ^ k+2 ^ k:=by rw [Int.pow_succ];omega
  unfold jQ
  split
  ·rename_i h;exact ih _ (by omega) h (by rw [e] at h2;rwa [show a+2 ^ k+2 ^ k=a+(2 ^ k+2 ^ k) by omega])
  ·rename_i h;exact ih _ h0 h1 (by omega)
theorem Gv {n:Int} (h0:0≤n) (h1:n<340282366920938463463374607431768211456):0≤jS n∧jS n*jS n≤n∧n<(jS n+1)*(jS n+1) :=
 GU n 64 0 (by omega) (by omega) (by
  have e:((0:Int)+2 ^ 64)*(0+2 ^ 64)=340282366920938463463374607431768211456:=by decide
  rw [e];exact h1)

def DN (x y:Int):Int:=jS (x*x+y*y)
def FC : Nat → Nat
 | 0=>0
 | k+1=>2 ^ k
theorem IX (k:Nat):2 ^ k / 2=FC k:=by
 cases k with
 | zero=>rfl
 | succ k=>rw [Nat.pow_succ];show _=2 ^ k;omega
theorem or_bit (q k:Nat):(q*(2*2 ^ k)) ||| 2 ^ k=q*(2*2 ^ k)+2 ^ k:=by
 have h:=Nat.two_pow_add_eq_or_of_lt (i:=k+1) (b:=2 ^ k) (by rw [Nat.pow_succ];have:=Nat.two_pow_pos k;omega) q;rw [show (2:Nat) ^ (k+1)=2*2 ^ k by rw [Nat.pow_succ];omega,Nat.mul_comm] at h;exact h.symm
theorem Dl (hi lo:Int) (h0:0≤hi) (h1:hi<18446744073709551616) (l0:0≤lo) (l1:lo<18446744073709551616) (w:World) :
  Calls Tryz.prog 102 #[.int .u64 hi,.int .u64 lo] w (dS (.int .u64 (jS (hi*18446744073709551616+lo))) w):=by
 obtain ⟨n,hn⟩:∃ n,n=hi*18446744073709551616+lo:=⟨_,rfl⟩;rw [← hn]
 go_enter Tryz.func102,Tryz.ntmps102
 go_wp2
 go_loopw [5,6] (fun o b wr=>∃ (k q:Nat),k≤64∧o = .int .u64 ((q*2 ^ k:Nat):Int)∧b = .int .u64 ((FC k:Nat):Int)∧q*2 ^ k+2 ^ k≤18446744073709551616∧jQ n k ((q*2 ^ k:Nat):Int)=jS n∧Below w.heap.size w wr) (fun _ b _=>(intOf b).toNat)
 case atStart=>exact ⟨64,0,by omega,by simp,by simp [FC],by decide,by simp [jS],Below.refl _ _⟩
 case round =>
  obtain ⟨k,q,hk,rfl,rfl,hle,hroot,hB⟩:=hrel;obtain ⟨wo,rfl⟩:∃ wo:World,wo=wr:=⟨_,rfl⟩;have HR:=hid hroot;clear hroot
  cases k with
  | zero =>
   have e0:((FC 0:Nat):Int)=0:=rfl;have HQ:Hid (jS n=((q*2 ^ 0:Nat):Int)):=by show _=_;rw [← HR.out];rfl
   generalize ((q*2 ^ 0:Nat):Int)=a at *
   rw [e0];clear HR hle;go_wp2
   go_returns
   exact aH HQ.out.symm hB
  | succ k =>
   obtain ⟨P,hP⟩:∃ P,P=2 ^ k:=⟨_,rfl⟩;have hp0:0<P:=by rw [hP];exact Nat.two_pow_pos k
   have e2:2 ^ (k+1)=2*P:=by rw [Nat.pow_succ,hP];omega
   have eb:FC (k+1)=P:=by rw [hP];rfl
   have ehalf:P / 2=FC k:=by rw [hP];exact IX k
   have eor:=or_bit q k;rw [← hP] at eor;rw [e2] at hle HR ⊢;rw [eb];obtain ⟨a,ha⟩:∃ a,a=q*(2*P):=⟨_,rfl⟩;rw [← ha] at hle HR eor ⊢;have hor:bits .or .u64 (a:Int) (P:Int)=((a+P:Nat):Int):=by rw [bits_or_u64_nat a P (by omega) (by omega),eor]
   obtain ⟨x,hx⟩:∃ x:Int,x=((a+P:Nat):Int):=⟨_,rfl⟩;rw [← hx] at hor;have hx0:0≤x:=by omega
   have hx1:x<18446744073709551616:=by omega
   obtain ⟨z,hz⟩:∃ z,z=x*x:=⟨_,rfl⟩;have hz0:0≤z:=by rw [hz];exact Int.mul_nonneg hx0 hx0
   have HM:=hid (lZ x x hx0 hx1 hx0 hx1);rw [← hz] at HM
   have HS:Hid (jQ n (k+1) (a:Int)=if z≤n then jQ n k x else jQ n k (a:Int)):=by
    show _=_;have ex:(a:Int)+2 ^ k=x:=by rw [hx,hP];simp
    rw [jQ,ex,← hz]
   have hpos:(0:Int)<(P:Int):=by omega
   have hsh:(P:Int) / 2=((FC k:Nat):Int):=by rw [← ehalf];omega
   have hA:a=2*q*2 ^ k:=by rw [ha,hP,Nat.mul_comm q,Nat.mul_comm 2 q];rw [Nat.mul_comm (2*2 ^ k) q,Nat.mul_comm q 2,Nat.mul_assoc 2 q,Nat.mul_left_comm]
   have hAX:a+P=(2*q+1)*2 ^ k:=by rw [Nat.add_mul,Nat.one_mul,← hA,hP]
   have HK:=hid (And.intro hA hAX);have HX:=hid hx;have hdq:z / 18446744073709551616<hi∨(z / 18446744073709551616=hi∧z % 18446744073709551616≤lo)↔z≤n:=by omega
   clear hA hAX hx hz eor ehalf e2 eb ha hP
   go_wp2_with fail
   refine (HM.out _).mono ?_;rintro e w2 ⟨rfl,rfl⟩;obtain ⟨h,hh⟩:∃ h,h=z / 18446744073709551616:=⟨_,rfl⟩;obtain ⟨t,ht⟩:∃ t,t=z % 18446744073709551616:=⟨_,rfl⟩;rw [← hh,← ht] at hdq ⊢
   by_cases hzn:z≤n
   ·have hc := hdq.2 hzn;have HX1:Hid (x=(((2*q+1)*2 ^ k:Nat):Int)):=by show _=_;rw [← HK.out.2,HX.out]
    have HR1:Hid (jQ n k (((2*q+1)*2 ^ k:Nat):Int)=jS n):=by show _=_;rw [← HX1.out,← HR.out,HS.out,if_pos hzn]
    have HL1:Hid ((2*q+1)*2 ^ k+2 ^ k≤18446744073709551616):=by
     show _≤_;have e:=HK.out.2
     have e2:2 ^ k=P:=by
      have e1:=HK.out.1;have:a+P=2*q*2 ^ k+2 ^ k:=by rw [e,Nat.add_mul,Nat.one_mul]
      omega
     omega
    clear hdq hzn HK HR HS HM
    rcases hc with hlt | ⟨heq,hle2⟩
    ·clear hh ht;go_wp2;go_roundw
     case rel=>exact ⟨k,2*q+1,by omega,by rw [HX1.out],rfl,HL1.out,HR1.out,hB⟩
     case measure=>simp [intOf];omega
    ·have e1 : ¬ h < hi := by omega
     have e2:(h == hi)=true:=by simp [heq]
     clear hh ht heq;go_wp2;go_roundw
     case rel=>exact ⟨k,2*q+1,by omega,by rw [HX1.out],rfl,HL1.out,HR1.out,hB⟩
     case measure=>simp [intOf];omega
   ·have hc : ¬ (h < hi ∨ (h = hi ∧ t ≤ lo)) := fun g => hzn (hdq.1 g)
    have HX1:Hid ((a:Int)=((2*q*2 ^ k:Nat):Int)):=by show _=_;rw [← HK.out.1]
    have HR1:Hid (jQ n k ((2*q*2 ^ k:Nat):Int)=jS n):=by show _=_;rw [← HX1.out,← HR.out,HS.out,if_neg hzn]
    have HL1:Hid (2*q*2 ^ k+2 ^ k≤18446744073709551616):=by
     show _≤_;have e1:=HK.out.1;have e:a+P=2*q*2 ^ k+2 ^ k:=by rw [HK.out.2,Nat.add_mul,Nat.one_mul]
     omega
    have e1:¬ h<hi:=fun g=>hc (.inl g)
    clear hdq hzn HK HR HS HM hor
    by_cases heq:h=hi
    ·have e2 : (h == hi) = true := by simp [heq]
     have e3:¬ t≤lo:=fun g=>hc (.inr ⟨heq,g⟩)
     clear hh ht heq hc;go_wp2;go_roundw
     case rel=>exact ⟨k,2*q,by omega,by rw [HX1.out],rfl,HL1.out,HR1.out,hB⟩
     case measure=>simp [intOf];omega
    ·have e2 : (h == hi) = false := by simp [heq]
     clear hh ht heq hc;go_wp2;go_roundw
     case rel=>exact ⟨k,2*q,by omega,by rw [HX1.out],rfl,HL1.out,HR1.out,hB⟩
     case measure=>simp [intOf];omega

theorem xH (a:Int) (h1 : -4611686018427387904≤a) (h2:a≤4611686018427387904) (w:World):Calls Tryz.prog 100 #[.int .i64 a] w (dS (.int .u64 (aO a)) w):=by
 have w1:IntKind.i64.wrap (-a) = -a:=IntWalk.i64_in _ (by omega);obtain ⟨x,hx⟩:∃ x,x=aO a:=⟨_,rfl⟩;have bx:0≤x∧x≤4611686018427387904:=by rw [hx];unfold aO;split <;> omega
 have hrun:∀ (ts:Array TypeId) (t:TypeId) (w:World),(Builtin.max_ ts t #[.int .i64 a,.int .i64 (-a)]).run Tryz.prog w = .ok (.int .i64 x) w:=fun ts t w=>by
  rw [run_max_int2,show (if -a > a then -a else a)=aO a by unfold aO;split <;> split <;> omega,hx]
 have w2:IntKind.u64.wrap x=x:=IntWalk.u64_in _ (by omega);rw [← hx];clear hx
 go_enter Tryz.func100,Tryz.ntmps100
 go_wp2
 go_returns
 exact aH rfl (Below.refl _ _)
theorem Ip (a:Int):aO a*aO a=a*a:=by unfold aO;split;exact Int.neg_mul_neg a a;rfl
theorem sq_nonneg (a:Int):0≤a*a:=by rcases Int.le_total 0 a with h | h;exact Int.mul_nonneg h h;exact Int.mul_nonneg_of_nonpos_of_nonpos h h
theorem yQ (x y:Int) (hx : -4398046511104≤x∧x≤4398046511104) (hy : -4398046511104≤y∧y≤4398046511104) (w:World):Calls Tryz.prog 39 #[.int .i64 x,.int .i64 y] w (dS (.int .i64 (DN x y)) w):=by
 have HMX:=hid (xH x (by omega) (by omega));have HMY:=hid (xH y (by omega) (by omega));obtain ⟨mx,hmx⟩:∃ m,m=aO x:=⟨_,rfl⟩;obtain ⟨my,hmy⟩:∃ m,m=aO y:=⟨_,rfl⟩;have bx:0≤mx∧mx≤4398046511104:=by rw [hmx];unfold aO;split <;> omega
 have bY:0≤my∧my≤4398046511104:=by rw [hmy];unfold aO;split <;> omega
 obtain ⟨A,hA⟩:∃ A,A=x*x:=⟨_,rfl⟩;obtain ⟨B,hB⟩:∃ B,B=y*y:=⟨_,rfl⟩;have HX:=hid (lZ mx mx (by omega) (by omega) (by omega) (by omega));have HY:=hid (lZ my my (by omega) (by omega) (by omega) (by omega));rw [show mx*mx=A by rw [hmx,hA,Ip]] at HX;rw [show my*my=B by rw [hmy,hB,Ip]] at HY;have b1:=bZ (x:=x) (y:=x) (M:=4398046511104) (N:=4398046511104) (by omega) (by omega) (by omega) (by omega);have b2:=bZ (x:=y) (y:=y) (M:=4398046511104) (N:=4398046511104) (by omega) (by omega) (by omega) (by omega);have p1:=sq_nonneg x;have p2:=sq_nonneg y;rw [← hA] at b1 p1;rw [← hB] at b2 p2;have HL:Hid (DN x y=jS (A+B)):=by show _=_;unfold DN;rw [hA,hB]
 rw [← hmx] at HMX;rw [← hmy] at HMY;clear hmx hmy hA hB;obtain ⟨r,hr⟩:∃ r,r=jS (A+B):=⟨_,rfl⟩;obtain ⟨r0,r1,r2⟩:=Gv (n:=A+B) (by omega) (by omega);rw [← hr] at r0 r1 r2
 have rb:r≤8796093022208:=by
  rcases Int.lt_or_le 8796093022208 r with h | h
  ·have := Int.mul_le_mul (show 8796093022209 ≤ r by omega) (show 8796093022209 ≤ r by omega) (by omega) (by omega);omega
  ·exact h
 obtain ⟨a1,ha1⟩:∃ a,a=A / 18446744073709551616:=⟨_,rfl⟩;obtain ⟨a0,ha0⟩:∃ a,a=A % 18446744073709551616:=⟨_,rfl⟩;obtain ⟨c1,hc1⟩:∃ a,a=B / 18446744073709551616:=⟨_,rfl⟩;obtain ⟨c0,hc0⟩:∃ a,a=B % 18446744073709551616:=⟨_,rfl⟩;rw [← ha1,← ha0] at HX;rw [← hc1,← hc0] at HY;obtain ⟨s0,hs0⟩:∃ s,s=(a0+c0) % 18446744073709551616:=⟨_,rfl⟩;obtain ⟨cy,hcy⟩:∃ s,s=(a0+c0) / 18446744073709551616:=⟨_,rfl⟩;obtain ⟨s1,hs1⟩:∃ s,s=(a1+c1+cy) % 18446744073709551616:=⟨_,rfl⟩
 have E1:∀ w:World,(callFunc 101 #[.int .u64 a0,.int .u64 c0,.int .u64 0]).run Tryz.prog w = .ok (.value (.tuple #[.int .u64 s0,.int .u64 cy])) w:=fun w=>by
  rw [hs0,hcy];exact zP a0 c0 (by omega) (by omega) w
 obtain ⟨ov,hov⟩:∃ s,s=(a1+c1+cy) / 18446744073709551616:=⟨_,rfl⟩
 have E2:∀ w:World,(callFunc 101 #[.int .u64 a1,.int .u64 c1,.int .u64 cy]).run Tryz.prog w = .ok (.value (.tuple #[.int .u64 s1,.int .u64 ov])) w:=fun w=>by
  have h:=run_add64 (P:=Tryz.prog) a1 c1 cy (by omega) (by omega) (by omega) (by omega) w;rw [run_callFunc_extern Tryz.func101 (by kernel_rfl) (by kernel_rfl) (by kernel_rfl) (e:=add64Entry) (by kernel_rfl),h,hs1,hov];rfl
 have hsum:s1*18446744073709551616+s0=A+B:=by omega
 have HRT:=hid (Dl s1 s0 (by omega) (by omega) (by omega) (by omega));rw [hsum,← hr] at HRT;have wr:IntKind.i64.wrap r=r:=IntWalk.i64_in _ (by omega);rw [HL.out,← hr];clear HL hr r1 r2 hsum hs0 hs1 hcy hov ha1 ha0 hc1 hc0 b1 b2 p1 p2
 go_enter Tryz.func39,Tryz.ntmps39
 go_wp2_with fail
 refine (HMX.out _).mono ?_;rintro e v1 ⟨rfl,hv1⟩
 go_wp2_with fail
 refine (HMX.out _).mono ?_;rintro e v2 ⟨rfl,hv2⟩
 go_wp2_with fail
 refine (HX.out _).mono ?_;rintro e v3 ⟨rfl,hq3⟩;rw [hq3];clear hq3
 go_wp2_with fail
 refine (HMY.out _).mono ?_;rintro e v4 ⟨rfl,hv4⟩
 go_wp2_with fail
 refine (HMY.out _).mono ?_;rintro e v5 ⟨rfl,hv5⟩
 go_wp2_with fail
 refine (HY.out _).mono ?_;rintro e v6 ⟨rfl,hq6⟩;rw [hq6];clear hq6;have hBv:=aj hv5 (aj hv4 (aj hv2 hv1));clear hv1 hv2 hv4 hv5
 go_wp2_with (first | simp only [E1] | simp only [E2])
 refine (HRT.out _).mono ?_;rintro e v7 ⟨rfl,hv7⟩;have hB7:=aj hv7 hBv;clear hv7 hBv;go_wp2
 go_returns
 exact aH rfl hB7
def Rl (x l:Int):Int:=(2*x*65536+l) / (2*l)

def Qo : Nat → Int → Int → Int × Int
 | 0,x,y=>(x,y)
 | k+1,x,y=>if aO x<1073741824∧aO y<1073741824 then Qo k (2*x) (2*y) else (x,y)
def RZ (a b:Int):Int:=if aS a=0∧aS b=0 then 0 else Rl (Qo 31 (aS a) (aS b)).1 (DN (Qo 31 (aS a) (aS b)).1 (Qo 31 (aS a) (aS b)).2)
def RY (a b:Int):Int:=if aS a=0∧aS b=0 then 0 else Rl (Qo 31 (aS a) (aS b)).2 (DN (Qo 31 (aS a) (aS b)).1 (Qo 31 (aS a) (aS b)).2)
theorem wK (a b:Int) (w:World):Calls Tryz.prog 10 #[cZ a b] w (dS (.int .i64 (aS (DN (aS a) (aS b)))) w):=by
 obtain ⟨W,hW⟩:∃ W,W=w.alloc (.cells #[.int .i64 a,.int .i64 b] 24):=⟨_,rfl⟩;have hB0:Below w.heap.size w W:=by rw [hW];go_grown
 have p0:W.cell? ⟨w.heap.size,0,none⟩=some (.int .i64 a):=by rw [hW];go_simp
 have p1:W.cell? ⟨w.heap.size,1,none⟩=some (.int .i64 b):=by rw [hW];go_simp
 obtain ⟨q,hq⟩:∃ q,q=DN (aS a) (aS b):=⟨_,rfl⟩;have ba:=iy a;have bb:=iy b;have HLN:Hid (∀ w,Calls Tryz.prog 39 #[.int .i64 (aS a),.int .i64 (aS b)] w (dS (.int .i64 q) w)):=fun w=>by rw [hq];exact yQ _ _ (by omega) (by omega) w
 rw [← hq];clear hq ba bb
 go_enter Tryz.func10,Tryz.ntmps10
 go_wp2_with fail
 rw [← hW];clear hW;refine wp_region_noPanic ?_;refine au (S:=(S2 (fun w'=>w'.cell? ⟨w.heap.size,0,none⟩=some (.int .i64 a)∧w'.cell? ⟨w.heap.size,1,none⟩=some (.int .i64 b)∧Below w.heap.size w w'))) (T:=(fun _=>0)) (by kernel_rfl) (aK ⟨p0,p1,hB0.drew⟩) (fun hH=>?_);have hWr2:aG (S2 (fun w'=>w'.cell? ⟨w.heap.size,0,none⟩=some (.int .i64 a)∧w'.cell? ⟨w.heap.size,1,none⟩=some (.int .i64 b)∧Below w.heap.size w w')):=aI _;refine dG [(0,3),(1,4),(3,6),(4,7)] 5 0 0 (L':=?Lr2_1) hWr2 hH ?hyr2_1 ?_
 case hyr2_1=>((iterate 4 apply dF;rfl;kernel_rfl;intro w' hSw;replace hSw:=aB hSw;(try dsimp only at hSw);have q0:=hSw.1;have q1:=hSw.2.1;have q2:=hSw.2.2;(try simp only [sB,sC]);go_simp;(try with_reducible rfl));exact dD)
 simp only [sB,sC];refine U1 2 0 rfl (fun K hK=>?_)
 try clear hb
 go_simp
 (go_at_call 38;refine (bV a _).mono ?_;rintro e wn ⟨rfl,hb⟩)
 refine hK.out _ _ ?hsr2_5 (fun hH2=>?hrr2_5)
 case hsr2_5=>exact aK (by have hG:=hH;replace hG:=aB hG;(try dsimp only at hG);have q0:=hG.1;have q1:=hG.2.1;have q2:=hG.2.2;exact ⟨keepCell hb q0,keepCell hb q1,aj hb q2⟩)
 clear hK K hH;have hH:=hH2;clear hH2
 try simp only [Act.put,sA,sB,sC]
 refine U1 5 0 rfl (fun K hK=>?_)
 try clear hb
 go_simp
 (go_at_call 38;refine (bV b _).mono ?_;rintro e wn ⟨rfl,hb⟩)
 refine hK.out _ _ ?hsr2_6 (fun hH2=>?hrr2_6)
 case hsr2_6=>exact aK (by have hG:=hH;replace hG:=aB hG;(try dsimp only at hG);have q0:=hG.1;have q1:=hG.2.1;have q2:=hG.2.2;exact ⟨keepCell hb q0,keepCell hb q1,aj hb q2⟩)
 clear hK K hH;have hH:=hH2;clear hH2
 try simp only [Act.put,sA,sB,sC]
 refine U1 6 0 rfl (fun K hK=>?_)
 try clear hb
 go_simp
 (go_at_call 39;refine (HLN.out _).mono ?_;rintro e wn ⟨rfl,hb⟩)
 refine hK.out _ _ ?hsr2_7 (fun hH2=>?hrr2_7)
 case hsr2_7=>exact aK (by have hG:=hH;replace hG:=aB hG;(try dsimp only at hG);have q0:=hG.1;have q1:=hG.2.1;have q2:=hG.2.2;exact ⟨keepCell hb q0,keepCell hb q1,aj hb q2⟩)
 clear hK K hH;have hH:=hH2;clear hH2
 try simp only [Act.put,sA,sB,sC]
 refine U1 7 0 rfl (fun K hK=>?_)
 try clear hb
 go_simp
 (go_at_call 38;refine (bV q _).mono ?_;rintro e wn ⟨rfl,hb⟩)
 refine hK.out _ _ ?hsr2_8 (fun hH2=>?hrr2_8)
 case hsr2_8=>exact aK (by have hG:=hH;replace hG:=aB hG;(try dsimp only at hG);have q0:=hG.1;have q1:=hG.2.1;have q2:=hG.2.2;exact ⟨keepCell hb q0,keepCell hb q1,aj hb q2⟩)
 clear hK K hH;have hH:=hH2;clear hH2
 try simp only [Act.put,sA,sB,sC]
 refine Ut 8 2 0 0 0 (v:=?vr2_9) rfl hWr2 hH ?hyr2_9 ?_
 case hyr2_9=>(intro w' hSw;clear hSw;go_simp;try (with_reducible rfl))
 simp only [sB,sC];refine ak (by kernel_rfl) ?_ _ _;refine NoPanic.normal ?_;clear hWr2;replace hH:=aB hH
 (try dsimp only at hH)
 have qq0:=hH.1;have qq1:=hH.2.1;have qq2:=hH.2.2;go_wp2
 go_returns
 exact aH rfl qq2
structure Ej (w0 : World) (bL oL : Nat) (L : List BE) (x : Jt) (w : World) : Prop where
 j:w.cell? ⟨w0.heap.size,0,none⟩=some (.int .i64 x.a)∧w.cell? ⟨w0.heap.size,1,none⟩=some (.int .i64 x.b)∧w.cell? ⟨w0.heap.size,2,none⟩=some (.int .i64 x.p1)∧w.cell? ⟨w0.heap.size,3,none⟩=some (.int .i64 x.p2)∧w.cell? ⟨w0.heap.size,4,none⟩=some (.int .i64 x.q1)∧w.cell? ⟨w0.heap.size,5,none⟩=some (.int .i64 x.q2)∧w.cell? ⟨w0.heap.size,6,none⟩=some (.int .i64 x.len)
 cl:aM jc w bL oL L
 z1:VZ w (w0.heap.size+1)
 z2:VZ w (w0.heap.size+2)
 bel:Below w0.heap.size w0 w
 lt:bL<w0.heap.size
 sz:w0.heap.size+2<w.heap.size
theorem Lx {bL oL:Nat} {L:List BE} {x:Jt} {w w':World} (hb:Below w.heap.size w w') (h:Ej w0 bL oL L x w):Ej w0 bL oL L x w':=by
 obtain ⟨h0,h1,h2,h3,h4,h5,h6⟩:=h.j;exact ⟨⟨keepCell hb h0,keepCell hb h1,keepCell hb h2,keepCell hb h3,keepCell hb h4,keepCell hb h5,keepCell hb h6⟩,h.cl.below hb,gY hb h.z1,gY hb h.z2,aj hb h.bel,h.lt,Nat.lt_of_lt_of_le h.sz hb.size⟩
theorem Ej.alloc {bL oL:Nat} {L:List BE} {x:Jt} {w:World} (h:Ej w0 bL oL L x w) (o:Obj):Ej w0 bL oL L x (w.alloc o):=Lx Ba h
theorem Ej.drew {bL oL:Nat} {L:List BE} {x:Jt} {w:World} (h:Ej w0 bL oL L x w):Ej w0 bL oL L x w.drew:=Lx (Below.refl _ _).drew h
theorem Ej.set {bL oL:Nat} {L:List BE} {x:Jt} {w:World} {g o:Nat} {v:Value} (h:Ej w0 bL oL L x w) (hg:w0.heap.size+2<g):Ej w0 bL oL L x (w.setCell ⟨g,o,none⟩ v):=by
 obtain ⟨h0,h1,h2,h3,h4,h5,h6⟩:=h.j;have hlt:=h.lt;have n0:g≠w0.heap.size:=by omega
 have n1:g≠w0.heap.size+1:=by omega
 have n2:g≠w0.heap.size+2:=by omega
 have vz:∀ k,g≠k→VZ w k→VZ (w.setCell ⟨g,o,none⟩ v) k:=fun k hk hz=>by
  obtain ⟨⟨a,b,c,d⟩,f⟩:=hz;exact ⟨⟨a,b,aZ hk c,aZ hk d⟩,fun j=>by rw [World.frozen?_setCell];exact f j⟩
 exact ⟨⟨aZ n0 h0,aZ n0 h1,aZ n0 h2,aZ n0 h3,aZ n0 h4,aZ n0 h5,aZ n0 h6⟩,⟨by simp;exact h.cl.lt,fun j hj i u hu=>aZ (by omega) (h.cl.at_ j hj i u hu)⟩,vz _ n1 h.z1,vz _ n2 h.z2,h.bel.setCell (p:=⟨g,o,none⟩) (by show w0.heap.size≤g;omega) _,h.lt,by simp;exact h.sz⟩
theorem Ej.setBd {bL oL:Nat} {L:List BE} {x:Jt} {w:World} {g:Nat} (h:Ej w0 bL oL L x w) (hg:w0.heap.size+2<g) (b:Bd) (A:Option Addr) (n c:Nat):Ej w0 bL oL L x (Go.Proofs.YtokgmcomgflloaaGreat.setBd w g b A n c):=by
 unfold Go.Proofs.YtokgmcomgflloaaGreat.setBd
 iterate 13 refine Ej.set ?_ hg
 exact h

def xQ (x y:Int):Int:=aS (DN (aS x) (aS y))
def Ti (a b c d:Int):Int:=fV (bH a c) (bH b d)
end
end Go.Proofs.YtokgmcomgflloaaGreat
