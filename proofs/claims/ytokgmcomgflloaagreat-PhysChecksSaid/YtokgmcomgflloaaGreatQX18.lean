/- Parts of a proof: contracts and laws. -/
import Derived.Test.YtokgmcomgflloaaGreatQX09
import Derived.Test.YtokgmcomgflloaaGreatQX17
import Derived.Test.YtokgmcomgflloaaGreatQX04
import Derived.Test.YtokgmcomgflloaaGreatQX08
import Derived.BigQuiet
set_option maxRecDepth 100000
set_option maxHeartbeats 16000000
namespace Go.Proofs.YtokgmcomgflloaaGreat
section
set_option linter.unusedVariables false
set_option linter.unusedSimpArgs false
open Go.RowKit
variable {w0 w w':World}
theorem bC.grown {g k:Nat} {b:Bd} {A:Option Addr} {n c:Nat} (h:bC w g b A n c) (hg:w.grownBy w' (some k)) (hne:g≠k):bC w' g b A n c :=
 ⟨(bM hg hne h.lt).trans h.c0,(bM hg hne h.lt).trans h.c1,(bM hg hne h.lt).trans h.c2,(bM hg hne h.lt).trans h.c3,(bM hg hne h.lt).trans h.c4,(bM hg hne h.lt).trans h.c5,(bM hg hne h.lt).trans h.c6,(bM hg hne h.lt).trans h.c7,(bM hg hne h.lt).trans h.c8,(bM hg hne h.lt).trans h.c9,(bM hg hne h.lt).trans h.c10,(bM hg hne h.lt).trans h.c11,(bM hg hne h.lt).trans h.c12,fun j=>(World.frozen?_of_block (hg.block g h.lt (by intro e;cases e;exact hne rfl))).trans (h.free j)⟩
theorem jX.grown {g k:Nat} (h:jX w g) (hg:w.grownBy w' (some k)) (hne:g≠k):jX w' g :=
 ⟨fun j hj=>by obtain ⟨v,hv⟩:=h.c j hj;exact ⟨v,(bM hg hne h.lt).trans hv⟩,fun j=>(World.frozen?_of_block (hg.block g h.lt (by intro e;cases e;exact hne rfl))).trans (h.free j)⟩
theorem Ht.set {g k o:Nat} {r:List Int} {v:Value} (h:Ht w g r) (hne:g<k):Ht (w.setCell ⟨k,o,none⟩ v) g r:=by
 obtain ⟨h1,h2,A,n,c,h3,h4,h5⟩:=h;refine ⟨by simp;exact h1,by rw [World.frozen?_setCell];exact h2,A,n,c,by go_simp,⟨h4.len,h4.cap,h4.big,fun hr=>?_⟩,h5⟩;obtain ⟨b,off,e,hlt,hc⟩:=h4.at_ hr;have hb:=h5 hr b off e;refine ⟨b,off,e,by simp;exact hlt,fun j hj=>?_⟩;have:=hc j hj;go_simp


def wX (b:Bd) (p q:Int):Int:=dQ (Bc p q b.ang) b.px
def wY (b:Bd) (p q:Int):Int:=dQ (AZ p q b.ang) b.py
def dn (b:Bd) (l:List V):List V:=l.map fun p=>(wX b p.1 p.2,wY b p.1 p.2)
theorem mK (b:Bd) (l:List V):(dn b l).length=l.length:=by simp [dn]
def kY (b:Bd) (l:List V):List V:=if aJ b l≠0 then [] else dn b l

def IC (l:List V) (w:World) (e:Ending) (w':World):Prop:=∃ A n c,e = .returned (.slice A n c)∧Sl w' A n c l∧(l=[]→A=none)∧(∀ bx off,A=some ⟨bx,off,none⟩→w.heap.size≤bx)∧Below w.heap.size w w'
theorem AL {B:Nat} {v:Value} {l:List V} (hb:Below w.heap.size w w') (h:Own w B v l):Own w' B v l:=h.below hb
theorem F5 {B g:Nat} {b:Bd} {A:Option Addr} {n c:Nat} (hb:Below B w w') (hg:g<B) (h:bC w g b A n c):bC w' g b A n c:=by
 have e:∀ j v,w.cell? ⟨g,j,none⟩=some v→w'.cell? ⟨g,j,none⟩=some v:=fun j v hv=>((bX hb).1 _ _ hg).trans hv
 exact ⟨e _ _ h.c0,e _ _ h.c1,e _ _ h.c2,e _ _ h.c3,e _ _ h.c4,e _ _ h.c5,e _ _ h.c6,e _ _ h.c7,e _ _ h.c8,e _ _ h.c9,e _ _ h.c10,e _ _ h.c11,e _ _ h.c12,fun j=>((bX hb).2 _ _ hg).trans (h.free j)⟩
theorem iL {l:List V} (h:cO l=0):bF l=0:=by
 unfold cO at h
 by_cases hc:bF l=0
 ·exact hc
 ·rw [if_pos hc] at h;exact h
theorem uQ (b:Bd) (A:Option Addr) (n c:Nat) (l:List V) (w:World) (hS:Sl w A n c l):Calls Tryz.prog 35 #[fP b A n c] w (IC (kY b l) w):=by
 obtain ⟨W,hW⟩:∃ W,W=w.alloc (.cells #[.int .i64 b.px,.int .i64 b.py,.int .i64 b.vx,.int .i64 b.vy,.int .i64 b.ang,.int .i64 b.spin,.int .i64 b.mass,.int .i64 b.iner,.int .i64 b.bounce,.int .i64 b.rub,.slice A n c,.bool b.asleep,.int .i64 b.calm] 27):=⟨_,rfl⟩;have HK0:=hid (show bC W w.heap.size b A n c by rw [hW];exact bC.here w b A n c _);have hB0:Below w.heap.size w W:=by rw [hW];go_grown
 have HS0:=hid (hS.below hB0);have HSW:=hid hS;clear hS;obtain ⟨k0,k1,k2,k3,k4,k5,k6,k7,k8,k9,k10,k11,k12,kf⟩:=HK0.out
 go_enter Tryz.func35,Tryz.ntmps35
 go_wp2_with fail
 rw [← hW];clear hW;refine (kE b A n c l _ HS0.out).mono ?_;rintro e w0 ⟨rfl,hb0⟩;have HK1:=hid (bJ hb0 HK0.out);have HS1:=hid (mU hb0 HS0.out);have hB1:=ah hb0 hB0;clear k0 k1 k2 k3 k4 k5 k6 k7 k8 k9 k10 k11 k12 kf;clear hb0 HK0 HS0 hB0
 by_cases hE:aJ b l=0
 case neg =>
  have hne:(aJ b l != 0)=true:=by simp [hE]
  have HR:Hid (kY b l=[]):=by show _=_;unfold kY;rw [if_pos hE]
  go_wp2
  go_returns
  exact ⟨none,0,0,rfl,by rw [HR.out];exact Sl.empty' _,fun _=>rfl,(fun bx off e=>by cases e),hB1⟩
 have HR:Hid (kY b l=dn b l):=by show _=_;unfold kY;rw [if_neg (by simp [hE])]
 obtain ⟨hsh,hnu⟩:=bU hE;have hang:=(iZ hnu).2.2.2.1;obtain ⟨h8,h3,_,_⟩:=dX (iL hsh);have hn:=HS1.out.len;subst hn;rw [hE];clear hE hsh hnu;obtain ⟨k0,k1,k2,k3,k4,k5,k6,k7,k8,k9,k10,k11,k12,kf⟩:=HK1.out;go_wp2;clear k0 k1 k2 k3 k4 k5 k6 k7 k8 k9 k10 k11 k12 kf
 go_loopw [3,12] (fun s i wr=>∃ k:Nat,k≤l.length∧i = .int .i64 k∧Own wr (w.heap.size+1) s (dn b (l.take k))∧bC wr w.heap.size b A l.length c∧Below w.heap.size w wr) (fun _ i _=>l.length-(intOf i).toNat)
 case atStart=>exact ⟨0,Nat.zero_le _,rfl,Own.nil _ _,HK1.out,hB1⟩
 case round =>
  clear HK1 HS1 hB1;obtain ⟨k,hk,rfl,hown,hbd,hB⟩:=hrel;obtain ⟨wo,rfl⟩:∃ wo:World,wo=wr:=⟨_,rfl⟩;obtain ⟨s,hs0,hown⟩:∃ s,s=_∧Own wo (w.heap.size+1) s (dn b (l.take k)):=⟨_,rfl,hown⟩;subst hs0;have HO:=hid hown;have HK:=hid hbd;have HS:=hid (HSW.out.below hB);clear hown hbd
  by_cases hlt:k<l.length
  ·obtain ⟨ba, off, hA, hC⟩ := HS.out.at_ (by intro h; subst h; simp at hlt);subst hA;have hx:=hC.x k hlt;have hy:=hC.y k hlt;have hbo:=hC.lt;obtain ⟨wa,hwa⟩:∃ wa,wa=wo.alloc (.cells #[.int .i64 (px l k),.int .i64 (py l k)] 24):=⟨_,rfl⟩;obtain ⟨gp,hgp⟩:∃ g,g=wo.heap.size:=⟨_,rfl⟩;have hgl:w.heap.size<gp:=by rw [hgp];exact HK.out.lt
   have HK1:=hid (show bC wa w.heap.size b (some ⟨ba,off,none⟩) l.length c by rw [hwa];exact HK.out.alloc _);have HO1:=hid (show Own wa (w.heap.size+1) s (dn b (l.take k)) by rw [hwa];exact HO.out.alloc _);have hB1:Below w.heap.size w wa:=by rw [hwa];exact hB.alloc hB.size _
   have p0:wa.cell? ⟨gp,0,none⟩=some (.int .i64 (px l k)):=by rw [hwa,hgp];go_simp
   have p1:wa.cell? ⟨gp,1,none⟩=some (.int .i64 (py l k)):=by rw [hwa,hgp];go_simp
   obtain ⟨tx,htx⟩:∃ t,t=Bc (px l k) (py l k) b.ang:=⟨_,rfl⟩;obtain ⟨ty,hty⟩:∃ t,t=AZ (px l k) (py l k) b.ang:=⟨_,rfl⟩;have HTC:=hid (zq (px l k) (py l k) b.ang hang.1 (by omega));rw [← htx,← hty] at HTC;have HTX:=hid htx;have HTY:=hid hty;clear hC HK HO HS hB htx hty
   go_upto_region 7 with fail
   rw [← hwa,← hgp];clear hwa hgp hx hy hbo;refine wp_region_noPanic ?_;refine au (S:=(S2 (fun w'=>bC w' w.heap.size b (some ⟨ba,off,none⟩) l.length c∧Own w' (w.heap.size+1) s (dn b (l.take k))∧w'.cell? ⟨gp,0,none⟩=some (.int .i64 (px l k))∧w'.cell? ⟨gp,1,none⟩=some (.int .i64 (py l k))∧Below w.heap.size w w'))) (T:=(fun j=>[0,0,0,0,0,0,0,0,0,1].getD j 0)) (by kernel_rfl) (aM ⟨HK1.out.drew,HO1.out.drew,p0,p1,hB1.drew⟩) (fun hH=>?_);have hWr2:aO (S2 (fun w'=>bC w' w.heap.size b (some ⟨ba,off,none⟩) l.length c∧Own w' (w.heap.size+1) s (dn b (l.take k))∧w'.cell? ⟨gp,0,none⟩=some (.int .i64 (px l k))∧w'.cell? ⟨gp,1,none⟩=some (.int .i64 (py l k))∧Below w.heap.size w w')):=aR _;refine gH [(0,16),(1,17),(2,18),(3,19),(5,21),(6,22)] 5 0 0 (L':=?Lr2_1) hWr2 hH ?hyr2_1 ?_
   case hyr2_1=>((iterate 6 apply gK;rfl;kernel_rfl;intro w' hSw;replace hSw:=aC hSw;(try dsimp only at hSw);have q0:=hSw.1;have q1:=hSw.2.1;have q2:=hSw.2.2.1;have q3:=hSw.2.2.2.1;have q4:=hSw.2.2.2.2;obtain ⟨qa0_0,qa0_1,qa0_2,qa0_3,qa0_4,qa0_5,qa0_6,qa0_7,qa0_8,qa0_9,qa0_10,qa0_11,qa0_12,qa0_f⟩:=id q0;(try simp only [sB,sC]);go_simp;(try with_reducible rfl));exact gF)
   simp only [sB,sC];refine U1 4 0 rfl (fun K hK=>?_)
   try clear hb
   go_simp
   (go_at_call 90;refine (HTC.out _).mono ?_;rintro e wn ⟨rfl,hb⟩)
   refine hK.out _ _ ?hsr2_7 (fun hH2=>?hrr2_7)
   case hsr2_7=>exact aM (by have hG:=hH;replace hG:=aC hG;(try dsimp only at hG);have q0:=hG.1;have q1:=hG.2.1;have q2:=hG.2.2.1;have q3:=hG.2.2.2.1;have q4:=hG.2.2.2.2;exact ⟨bJ hb q0,AL hb q1,keepCell hb q2,keepCell hb q3,ah hb q4⟩)
   clear hK K hH;have hH:=hH2;clear hH2
   try simp only [Act.put,sA,sB,sC]
   refine U1 7 0 rfl (fun K hK=>?_)
   try clear hb
   go_simp
   (go_at_call 89;refine (mP tx ty b.px b.py _).mono ?_;rintro e wn ⟨rfl,hb⟩)
   refine hK.out _ _ ?hsr2_8 (fun hH2=>?hrr2_8)
   case hsr2_8=>exact aM (by have hG:=hH;replace hG:=aC hG;(try dsimp only at hG);have q0:=hG.1;have q1:=hG.2.1;have q2:=hG.2.2.1;have q3:=hG.2.2.2.1;have q4:=hG.2.2.2.2;exact ⟨bJ hb q0,AL hb q1,keepCell hb q2,keepCell hb q3,ah hb q4⟩)
   clear hK K hH;have hH:=hH2;clear hH2
   try simp only [Act.put,sA,sB,sC]
   refine U1 8 0 rfl (fun K hK=>?_)
   try clear hb
   have hG:=hH;replace hG:=aC hG;(try dsimp only at hG);have q0:=hG.1;have q1:=hG.2.1;have q2:=hG.2.2.1;have q3:=hG.2.2.2.1;have q4:=hG.2.2.2.2;go_simp;refine hK.out _ _ ?hsr2_9 (fun hH2=>?hrr2_9)
   case hsr2_9=>exact aM (by have hG:=hH;replace hG:=aC hG;(try dsimp only at hG);have q0:=hG.1;have q1:=hG.2.1;have q2:=hG.2.2.1;have q3:=hG.2.2.2.1;have q4:=hG.2.2.2.2;exact ⟨q0.alloc _,q1.alloc _,keepCell Ba q2,keepCell Ba q3,q4.alloc q4.size _⟩)
   clear hK K hH;have hH:=hH2;clear hH2
   try simp only [Act.put,sA,sB,sC]
   have hT:Cells (wn.alloc (.cells #[.int .i64 (dQ tx b.px),.int .i64 (dQ ty b.py)] 24)) wn.heap.size 0 [(dQ tx b.px,dQ ty b.py)]:=cells_one (by go_simp) (by go_simp);obtain ⟨gT,hgT⟩:∃ g,g=wn.heap.size:=⟨_,rfl⟩;have hlT:w.heap.size<gT:=by rw [hgT];exact q0.lt
   rw [← hgT] at hT
   try rw [← hgT]
   clear hgT q0 q1 q2 q3 q4;generalize wn.alloc (.cells #[.int .i64 (dQ tx b.px),.int .i64 (dQ ty b.py)] 24)=wx8 at *
   refine U1 9 1 rfl (fun K hK=>?_);have hG:=hH;replace hG:=aC hG;(try dsimp only at hG);have q0:=hG.1;have q1:=hG.2.1;have q2:=hG.2.2.1;have q3:=hG.2.2.2.1;have q4:=hG.2.2.2.2;have hbs:=q0.lt
   (refine og (by rfl) _ _ (by rfl) (w.heap.size+1) s (dn b (l.take k)) (by rfl) q1 gT 0 1 1 [(dQ tx b.px,dQ ty b.py)] (by rfl) rfl hT (by rw [mK,List.length_take,List.length_singleton];omega) (by omega) ?_;intro v' w1 ho1 hg1;have HO1:=hid ho1;have hb1:=Own.grown q1 hg1 (by omega);clear ho1 hg1)
   refine hK.out _ _ ?hsr2_10 (fun hH2=>?hrr2_10)
   case hsr2_10=>exact fZ
   clear hK K hH;have hH:=hH2;clear hH2
   try simp only [Act.put,List.getElem_toArray,List.getElem_cons_succ,List.getElem_cons_zero,List.setIfInBounds_toArray,List.set_cons_zero,List.set_cons_succ]
   refine Ut 10 3 0 1 1 (v:=?vr2_11) rfl hWr2 hH ?hyr2_11 ?_
   case hyr2_11=>(intro w' hSw;clear hSw;go_simp;try (with_reducible rfl))
   simp only [sB,sC];refine ak (by kernel_rfl) ?_ _ _;refine NoPanic.normal ?_;have hBn:Below w.heap.size w w1:=q4.trans (hb1.mono (by omega));have HKn:=hid (F5 hb1 (by omega) q0);clear hH hG q0 q1 q2 q3 q4;go_wp2;go_roundw
   case rel =>
    refine ⟨k+1,hlt,by go_num,?_,HKn.out,hBn⟩;have:=HO1.out;rw [HTX.out,HTY.out] at this;rw [List.take_succ_eq_append_getElem hlt,dn,List.map_append,List.map_singleton,uI hlt];exact this
   case measure=>simp [intOf];omega
  ·have hge : l.length ≤ k := by omega
   obtain ⟨A',n',c',rfl,hs,hf⟩:=HO.out.sl;have H2:Hid (Sl wo A' n' c' (dn b l)):=by rwa [List.take_of_length_le hge] at hs
   have HF:=hid hf;clear hs hf HO HK HS;go_wp2
   go_returns
   exact ⟨_,_,_,rfl,by rw [HR.out];exact H2.out,fun h=>by rw [HR.out] at h;have:=congrArg List.length h;rw [mK] at this;simp at this;subst this;simp at h3,(fun bx off e=>by have:=HF.out bx off e;omega),hB⟩
def iN (n : Int) : Nat → Int → Int
 | 0,a=>a
 | k+1,a=>if (a+2 ^ k)*(a+2 ^ k)≤n then iN n k (a+2 ^ k) else iN n k a
def jA (n:Int):Int:=iN n 64 0
theorem zS (n:Int):∀ (k:Nat) (a:Int),0≤a→a*a≤n→n<(a+2 ^ k)*(a+2 ^ k)→0≤iN n k a∧iN n k a*iN n k a≤n∧n<(iN n k a+1)*(iN n k a+1):=by
 intro k
 induction k with
 | zero=>intro a h0 h1 h2;exact ⟨h0,h1,by simpa [iN] using h2⟩
 | succ k ih =>
  intro a h0 h1 h2;have hp:(0:Int)<2 ^ k:=Int.pow_pos (by omega);have e:(2:Int) ^ (k+1)=2 ^ k+2 ^ k:=by rw [Int.pow_succ];omega
  unfold iN
  split
  ·rename_i h;exact ih _ (by omega) h (by rw [e] at h2;rwa [show a+2 ^ k+2 ^ k=a+(2 ^ k+2 ^ k) by omega])
  ·rename_i h;exact ih _ h0 h1 (by omega)
theorem zh {n:Int} (h0:0≤n) (h1:n<340282366920938463463374607431768211456):0≤jA n∧jA n*jA n≤n∧n<(jA n+1)*(jA n+1) :=
 zS n 64 0 (by omega) (by omega) (by
  have e:((0:Int)+2 ^ 64)*(0+2 ^ 64)=340282366920938463463374607431768211456:=by decide
  rw [e];exact h1)

def yC (x y:Int):Int:=jA (x*x+y*y)
def zR : Nat → Nat
 | 0=>0
 | k+1=>2 ^ k
theorem CY (k:Nat):2 ^ k / 2=zR k:=by
 cases k with
 | zero=>rfl
 | succ k=>rw [Nat.pow_succ];show _=2 ^ k;omega
theorem or_bit (q k:Nat):(q*(2*2 ^ k)) ||| 2 ^ k=q*(2*2 ^ k)+2 ^ k:=by
 have h:=Nat.two_pow_add_eq_or_of_lt (i:=k+1) (b:=2 ^ k) (by rw [Nat.pow_succ];have:=Nat.two_pow_pos k;omega) q;rw [show (2:Nat) ^ (k+1)=2*2 ^ k by rw [Nat.pow_succ];omega,Nat.mul_comm] at h;exact h.symm
theorem yw (hi lo:Int) (h0:0≤hi) (h1:hi<18446744073709551616) (l0:0≤lo) (l1:lo<18446744073709551616) (w:World) :
  Calls Tryz.prog 102 #[.int .u64 hi,.int .u64 lo] w (dw (.int .u64 (jA (hi*18446744073709551616+lo))) w):=by
 obtain ⟨n,hn⟩:∃ n,n=hi*18446744073709551616+lo:=⟨_,rfl⟩;rw [← hn]
 go_enter Tryz.func102,Tryz.ntmps102
 go_wp2
 go_loopw [5,6] (fun o b wr=>∃ (k q:Nat),k≤64∧o = .int .u64 ((q*2 ^ k:Nat):Int)∧b = .int .u64 ((zR k:Nat):Int)∧q*2 ^ k+2 ^ k≤18446744073709551616∧iN n k ((q*2 ^ k:Nat):Int)=jA n∧Below w.heap.size w wr) (fun _ b _=>(intOf b).toNat)
 case atStart=>exact ⟨64,0,by omega,by simp,by simp [zR],by decide,by simp [jA],Below.refl _ _⟩
 case round =>
  obtain ⟨k,q,hk,rfl,rfl,hle,hroot,hB⟩:=hrel;obtain ⟨wo,rfl⟩:∃ wo:World,wo=wr:=⟨_,rfl⟩;have HR:=hid hroot;clear hroot
  cases k with
  | zero =>
   have e0:((zR 0:Nat):Int)=0:=rfl;have HQ:Hid (jA n=((q*2 ^ 0:Nat):Int)):=by show _=_;rw [← HR.out];rfl
   generalize ((q*2 ^ 0:Nat):Int)=a at *
   rw [e0];clear HR hle;go_wp2
   go_returns
   exact aj HQ.out.symm hB
  | succ k =>
   obtain ⟨P,hP⟩:∃ P,P=2 ^ k:=⟨_,rfl⟩;have hp0:0<P:=by rw [hP];exact Nat.two_pow_pos k
   have e2:2 ^ (k+1)=2*P:=by rw [Nat.pow_succ,hP];omega
   have eb:zR (k+1)=P:=by rw [hP];rfl
   have ehalf:P / 2=zR k:=by rw [hP];exact CY k
   have eor:=or_bit q k;rw [← hP] at eor;rw [e2] at hle HR ⊢;rw [eb];obtain ⟨a,ha⟩:∃ a,a=q*(2*P):=⟨_,rfl⟩;rw [← ha] at hle HR eor ⊢;have hor:bits .or .u64 (a:Int) (P:Int)=((a+P:Nat):Int):=by rw [bits_or_u64_nat a P (by omega) (by omega),eor]
   obtain ⟨x,hx⟩:∃ x:Int,x=((a+P:Nat):Int):=⟨_,rfl⟩;rw [← hx] at hor;have hx0:0≤x:=by omega
   have hx1:x<18446744073709551616:=by omega
   obtain ⟨z,hz⟩:∃ z,z=x*x:=⟨_,rfl⟩;have hz0:0≤z:=by rw [hz];exact Int.mul_nonneg hx0 hx0
   have HM:=hid (lS x x hx0 hx1 hx0 hx1);rw [← hz] at HM
   have HS:Hid (iN n (k+1) (a:Int)=if z≤n then iN n k x else iN n k (a:Int)):=by
    show _=_;have ex:(a:Int)+2 ^ k=x:=by rw [hx,hP];simp
    rw [iN,ex,← hz]
   have hpos:(0:Int)<(P:Int):=by omega
   have hsh:(P:Int) / 2=((zR k:Nat):Int):=by rw [← ehalf];omega
   have hA:a=2*q*2 ^ k:=by rw [ha,hP,Nat.mul_comm q,Nat.mul_comm 2 q];rw [Nat.mul_comm (2*2 ^ k) q,Nat.mul_comm q 2,Nat.mul_assoc 2 q,Nat.mul_left_comm]
   have hAX:a+P=(2*q+1)*2 ^ k:=by rw [Nat.add_mul,Nat.one_mul,← hA,hP]
   have HK:=hid (And.intro hA hAX);have HX:=hid hx;have hdq:z / 18446744073709551616<hi∨(z / 18446744073709551616=hi∧z % 18446744073709551616≤lo)↔z≤n:=by omega
   clear hA hAX hx hz eor ehalf e2 eb ha hP
   go_wp2_with fail
   refine (HM.out _).mono ?_;rintro e w2 ⟨rfl,rfl⟩;obtain ⟨h,hh⟩:∃ h,h=z / 18446744073709551616:=⟨_,rfl⟩;obtain ⟨t,ht⟩:∃ t,t=z % 18446744073709551616:=⟨_,rfl⟩;rw [← hh,← ht] at hdq ⊢
   by_cases hzn:z≤n
   ·have hc := hdq.2 hzn;have HX1:Hid (x=(((2*q+1)*2 ^ k:Nat):Int)):=by show _=_;rw [← HK.out.2,HX.out]
    have HR1:Hid (iN n k (((2*q+1)*2 ^ k:Nat):Int)=jA n):=by show _=_;rw [← HX1.out,← HR.out,HS.out,if_pos hzn]
    have HL1:Hid ((2*q+1)*2 ^ k+2 ^ k≤18446744073709551616):=by
     show _≤_;have e:=HK.out.2
     have e2:2 ^ k=P:=by
      have e1:=HK.out.1;have:a+P=2*q*2 ^ k+2 ^ k:=by rw [e,Nat.add_mul,Nat.one_mul]
      omega
     omega
    clear hdq hzn HK HR HS HM
    rcases hc with hlt | ⟨heq,hle2⟩
    ·clear hh ht;go_wp2;go_roundw
     case rel=>exact ⟨k,2*q+1,by omega,by rw [HX1.out],rfl,HL1.out,HR1.out,hB⟩
     case measure=>simp [intOf];omega
    ·have e1 : ¬ h < hi := by omega
     have e2:(h == hi)=true:=by simp [heq]
     clear hh ht heq;go_wp2;go_roundw
     case rel=>exact ⟨k,2*q+1,by omega,by rw [HX1.out],rfl,HL1.out,HR1.out,hB⟩
     case measure=>simp [intOf];omega
   ·have hc : ¬ (h < hi ∨ (h = hi ∧ t ≤ lo)) := fun g => hzn (hdq.1 g)
    have HX1:Hid ((a:Int)=((2*q*2 ^ k:Nat):Int)):=by show _=_;rw [← HK.out.1]
    have HR1:Hid (iN n k ((2*q*2 ^ k:Nat):Int)=jA n):=by show _=_;rw [← HX1.out,← HR.out,HS.out,if_neg hzn]
    have HL1:Hid (2*q*2 ^ k+2 ^ k≤18446744073709551616):=by
     show _≤_;have e1:=HK.out.1;have e:a+P=2*q*2 ^ k+2 ^ k:=by rw [HK.out.2,Nat.add_mul,Nat.one_mul]
     omega
    have e1:¬ h<hi:=fun g=>hc (.inl g)
    clear hdq hzn HK HR HS HM hor
    by_cases heq:h=hi
    ·have e2 : (h == hi) = true := by simp [heq]
     have e3:¬ t≤lo:=fun g=>hc (.inr ⟨heq,g⟩)
     clear hh ht heq hc;go_wp2;go_roundw
     case rel=>exact ⟨k,2*q,by omega,by rw [HX1.out],rfl,HL1.out,HR1.out,hB⟩
     case measure=>simp [intOf];omega
    ·have e2 : (h == hi) = false := by simp [heq]
     clear hh ht heq hc;go_wp2;go_roundw
     case rel=>exact ⟨k,2*q,by omega,by rw [HX1.out],rfl,HL1.out,HR1.out,hB⟩
     case measure=>simp [intOf];omega

theorem qG (a:Int) (h1 : -4611686018427387904≤a) (h2:a≤4611686018427387904) (w:World):Calls Tryz.prog 100 #[.int .i64 a] w (dw (.int .u64 (aS a)) w):=by
 have w1:IntKind.i64.wrap (-a) = -a:=IntWalk.i64_in _ (by omega);obtain ⟨x,hx⟩:∃ x,x=aS a:=⟨_,rfl⟩;have bx:0≤x∧x≤4611686018427387904:=by rw [hx];unfold aS;split <;> omega
 have hrun:∀ (ts:Array TypeId) (t:TypeId) (w:World),(Builtin.max_ ts t #[.int .i64 a,.int .i64 (-a)]).run Tryz.prog w = .ok (.int .i64 x) w:=fun ts t w=>by
  rw [run_max_int2,show (if -a > a then -a else a)=aS a by unfold aS;split <;> split <;> omega,hx]
 have w2:IntKind.u64.wrap x=x:=IntWalk.u64_in _ (by omega);rw [← hx];clear hx
 go_enter Tryz.func100,Tryz.ntmps100
 go_wp2
 go_returns
 exact aj rfl (Below.refl _ _)
theorem BA (a:Int):aS a*aS a=a*a:=by unfold aS;split;exact Int.neg_mul_neg a a;rfl
theorem sq_nonneg (a:Int):0≤a*a:=by rcases Int.le_total 0 a with h | h;exact Int.mul_nonneg h h;exact Int.mul_nonneg_of_nonpos_of_nonpos h h
theorem tq (x y:Int) (hx : -4398046511104≤x∧x≤4398046511104) (hy : -4398046511104≤y∧y≤4398046511104) (w:World):Calls Tryz.prog 39 #[.int .i64 x,.int .i64 y] w (dw (.int .i64 (yC x y)) w):=by
 have HMX:=hid (qG x (by omega) (by omega));have HMY:=hid (qG y (by omega) (by omega));obtain ⟨mx,hmx⟩:∃ m,m=aS x:=⟨_,rfl⟩;obtain ⟨my,hmy⟩:∃ m,m=aS y:=⟨_,rfl⟩;have bx:0≤mx∧mx≤4398046511104:=by rw [hmx];unfold aS;split <;> omega
 have bY:0≤my∧my≤4398046511104:=by rw [hmy];unfold aS;split <;> omega
 obtain ⟨A,hA⟩:∃ A,A=x*x:=⟨_,rfl⟩;obtain ⟨B,hB⟩:∃ B,B=y*y:=⟨_,rfl⟩;have HX:=hid (lS mx mx (by omega) (by omega) (by omega) (by omega));have HY:=hid (lS my my (by omega) (by omega) (by omega) (by omega));rw [show mx*mx=A by rw [hmx,hA,BA]] at HX;rw [show my*my=B by rw [hmy,hB,BA]] at HY;have b1:=fU (x:=x) (y:=x) (M:=4398046511104) (N:=4398046511104) (by omega) (by omega) (by omega) (by omega);have b2:=fU (x:=y) (y:=y) (M:=4398046511104) (N:=4398046511104) (by omega) (by omega) (by omega) (by omega);have p1:=sq_nonneg x;have p2:=sq_nonneg y;rw [← hA] at b1 p1;rw [← hB] at b2 p2;have HL:Hid (yC x y=jA (A+B)):=by show _=_;unfold yC;rw [hA,hB]
 rw [← hmx] at HMX;rw [← hmy] at HMY;clear hmx hmy hA hB;obtain ⟨r,hr⟩:∃ r,r=jA (A+B):=⟨_,rfl⟩;obtain ⟨r0,r1,r2⟩:=zh (n:=A+B) (by omega) (by omega);rw [← hr] at r0 r1 r2
 have rb:r≤8796093022208:=by
  rcases Int.lt_or_le 8796093022208 r with h | h
  ·have := Int.mul_le_mul (show 8796093022209 ≤ r by omega) (show 8796093022209 ≤ r by omega) (by omega) (by omega);omega
  ·exact h
 obtain ⟨a1,ha1⟩:∃ a,a=A / 18446744073709551616:=⟨_,rfl⟩;obtain ⟨a0,ha0⟩:∃ a,a=A % 18446744073709551616:=⟨_,rfl⟩;obtain ⟨c1,hc1⟩:∃ a,a=B / 18446744073709551616:=⟨_,rfl⟩;obtain ⟨c0,hc0⟩:∃ a,a=B % 18446744073709551616:=⟨_,rfl⟩;rw [← ha1,← ha0] at HX;rw [← hc1,← hc0] at HY;obtain ⟨s0,hs0⟩:∃ s,s=(a0+c0) % 18446744073709551616:=⟨_,rfl⟩;obtain ⟨cy,hcy⟩:∃ s,s=(a0+c0) / 18446744073709551616:=⟨_,rfl⟩;obtain ⟨s1,hs1⟩:∃ s,s=(a1+c1+cy) % 18446744073709551616:=⟨_,rfl⟩
 have E1:∀ w:World,(callFunc 101 #[.int .u64 a0,.int .u64 c0,.int .u64 0]).run Tryz.prog w = .ok (.value (.tuple #[.int .u64 s0,.int .u64 cy])) w:=fun w=>by
  rw [hs0,hcy];exact Di a0 c0 (by omega) (by omega) w
 obtain ⟨ov,hov⟩:∃ s,s=(a1+c1+cy) / 18446744073709551616:=⟨_,rfl⟩
 have E2:∀ w:World,(callFunc 101 #[.int .u64 a1,.int .u64 c1,.int .u64 cy]).run Tryz.prog w = .ok (.value (.tuple #[.int .u64 s1,.int .u64 ov])) w:=fun w=>by
  have h:=run_add64 (P:=Tryz.prog) a1 c1 cy (by omega) (by omega) (by omega) (by omega) w;rw [run_callFunc_extern Tryz.func101 (by kernel_rfl) (by kernel_rfl) (by kernel_rfl) (e:=add64Entry) (by kernel_rfl),h,hs1,hov];rfl
 have hsum:s1*18446744073709551616+s0=A+B:=by omega
 have HRT:=hid (yw s1 s0 (by omega) (by omega) (by omega) (by omega));rw [hsum,← hr] at HRT;have wr:IntKind.i64.wrap r=r:=IntWalk.i64_in _ (by omega);rw [HL.out,← hr];clear HL hr r1 r2 hsum hs0 hs1 hcy hov ha1 ha0 hc1 hc0 b1 b2 p1 p2
 go_enter Tryz.func39,Tryz.ntmps39
 go_wp2_with fail
 refine (HMX.out _).mono ?_;rintro e v1 ⟨rfl,hv1⟩
 go_wp2_with fail
 refine (HMX.out _).mono ?_;rintro e v2 ⟨rfl,hv2⟩
 go_wp2_with fail
 refine (HX.out _).mono ?_;rintro e v3 ⟨rfl,hq3⟩;rw [hq3];clear hq3
 go_wp2_with fail
 refine (HMY.out _).mono ?_;rintro e v4 ⟨rfl,hv4⟩
 go_wp2_with fail
 refine (HMY.out _).mono ?_;rintro e v5 ⟨rfl,hv5⟩
 go_wp2_with fail
 refine (HY.out _).mono ?_;rintro e v6 ⟨rfl,hq6⟩;rw [hq6];clear hq6;have hBv:=ah hv5 (ah hv4 (ah hv2 hv1));clear hv1 hv2 hv4 hv5
 go_wp2_with (first | simp only [E1] | simp only [E2])
 refine (HRT.out _).mono ?_;rintro e v7 ⟨rfl,hv7⟩;have hB7:=ah hv7 hBv;clear hv7 hBv;go_wp2
 go_returns
 exact aj rfl hB7
end
end Go.Proofs.YtokgmcomgflloaaGreat
