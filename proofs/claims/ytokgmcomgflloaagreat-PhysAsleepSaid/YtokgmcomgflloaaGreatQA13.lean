/- Parts of a proof: contracts and laws. -/
import Derived.Test.YtokgmcomgflloaaGreatQA11
import Derived.Test.YtokgmcomgflloaaGreatQA12
import Derived.Test.YtokgmcomgflloaaGreatQA02
import Derived.Test.YtokgmcomgflloaaGreatQA06
import Derived.BigQuiet
set_option maxRecDepth 100000
set_option maxHeartbeats 16000000
namespace Go.Proofs.YtokgmcomgflloaaGreat
section
set_option linter.unusedVariables false
set_option linter.unusedSimpArgs false
open Go.RowKit
variable {w0 w w':World}

def wX (b:Bd) (p q:Int):Int:=bT (mE p q b.ang) b.px
def wY (b:Bd) (p q:Int):Int:=bT (mg p q b.ang) b.py
def dO (b:Bd) (l:List V):List V:=l.map fun p=>(wX b p.1 p.2,wY b p.1 p.2)
theorem oM (b:Bd) (l:List V):(dO b l).length=l.length:=by simp [dO]
def mP (b:Bd) (l:List V):List V:=if aT b l≠0 then [] else dO b l

def J9 (l:List V) (w:World) (e:Ending) (w':World):Prop:=∃ A n c,e = .returned (.slice A n c)∧Sl w' A n c l∧(l=[]→A=none)∧(∀ bx off,A=some ⟨bx,off,none⟩→w.heap.size≤bx)∧Below w.heap.size w w'
theorem Hl {B:Nat} {v:Value} {l:List V} (hb:Below w.heap.size w w') (h:Own w B v l):Own w' B v l:=h.below hb
theorem NK {B g:Nat} {b:Bd} {A:Option Addr} {n c:Nat} (hb:Below B w w') (hg:g<B) (h:aL w g b A n c):aL w' g b A n c:=by
 have e:∀ j v,w.cell? ⟨g,j,none⟩=some v→w'.cell? ⟨g,j,none⟩=some v:=fun j v hv=>((dF hb).1 _ _ hg).trans hv
 exact ⟨e _ _ h.c0,e _ _ h.c1,e _ _ h.c2,e _ _ h.c3,e _ _ h.c4,e _ _ h.c5,e _ _ h.c6,e _ _ h.c7,e _ _ h.c8,e _ _ h.c9,e _ _ h.c10,e _ _ h.c11,e _ _ h.c12,fun j=>((dF hb).2 _ _ hg).trans (h.free j)⟩
theorem gY {l:List V} (h:gV l=0):bH l=0:=by
 unfold gV at h
 by_cases hc:bH l=0
 ·exact hc
 ·rw [if_pos hc] at h;exact h
theorem oF (b:Bd) (A:Option Addr) (n c:Nat) (l:List V) (w:World) (hS:Sl w A n c l):Calls Tryz.prog 35 #[dK b A n c] w (J9 (mP b l) w):=by
 obtain ⟨W,hW⟩:∃ W,W=w.alloc (.cells #[.int .i64 b.px,.int .i64 b.py,.int .i64 b.vx,.int .i64 b.vy,.int .i64 b.ang,.int .i64 b.spin,.int .i64 b.mass,.int .i64 b.iner,.int .i64 b.bounce,.int .i64 b.rub,.slice A n c,.bool b.asleep,.int .i64 b.calm] 27):=⟨_,rfl⟩;have HK0:=hid (show aL W w.heap.size b A n c by rw [hW];exact aL.here w b A n c _);have hB0:Below w.heap.size w W:=by rw [hW];go_grown
 have HS0:=hid (hS.below hB0);have HSW:=hid hS;clear hS;obtain ⟨k0,k1,k2,k3,k4,k5,k6,k7,k8,k9,k10,k11,k12,kf⟩:=HK0.out
 go_enter Tryz.func35,Tryz.ntmps35
 go_wp2_with fail
 rw [← hW];clear hW;refine (iJ b A n c l _ HS0.out).mono ?_;rintro e w0 ⟨rfl,hb0⟩;have HK1:=hid (aM hb0 HK0.out);have HS1:=hid (gD hb0 HS0.out);have hB1:=aj hb0 hB0;clear k0 k1 k2 k3 k4 k5 k6 k7 k8 k9 k10 k11 k12 kf;clear hb0 HK0 HS0 hB0
 by_cases hE:aT b l=0
 case neg =>
  have hne:(aT b l != 0)=true:=by simp [hE]
  have HR:Hid (mP b l=[]):=by show _=_;unfold mP;rw [if_pos hE]
  go_wp2
  go_returns
  exact ⟨none,0,0,rfl,by rw [HR.out];exact Sl.empty' _,fun _=>rfl,(fun bx off e=>by cases e),hB1⟩
 have HR:Hid (mP b l=dO b l):=by show _=_;unfold mP;rw [if_neg (by simp [hE])]
 obtain ⟨hsh,hnu⟩:=bJ hE;have hang:=(ji hnu).2.2.2.1;obtain ⟨h8,h3,_,_⟩:=bI (gY hsh);have hn:=HS1.out.len;subst hn;rw [hE];clear hE hsh hnu;obtain ⟨k0,k1,k2,k3,k4,k5,k6,k7,k8,k9,k10,k11,k12,kf⟩:=HK1.out;go_wp2;clear k0 k1 k2 k3 k4 k5 k6 k7 k8 k9 k10 k11 k12 kf
 go_loopw [3,12] (fun s i wr=>∃ k:Nat,k≤l.length∧i = .int .i64 k∧Own wr (w.heap.size+1) s (dO b (l.take k))∧aL wr w.heap.size b A l.length c∧Below w.heap.size w wr) (fun _ i _=>l.length-(intOf i).toNat)
 case atStart=>exact ⟨0,Nat.zero_le _,rfl,Own.nil _ _,HK1.out,hB1⟩
 case round =>
  clear HK1 HS1 hB1;obtain ⟨k,hk,rfl,hown,hbd,hB⟩:=hrel;obtain ⟨wo,rfl⟩:∃ wo:World,wo=wr:=⟨_,rfl⟩;obtain ⟨s,hs0,hown⟩:∃ s,s=_∧Own wo (w.heap.size+1) s (dO b (l.take k)):=⟨_,rfl,hown⟩;subst hs0;have HO:=hid hown;have HK:=hid hbd;have HS:=hid (HSW.out.below hB);clear hown hbd
  by_cases hlt:k<l.length
  ·obtain ⟨ba, off, hA, hC⟩ := HS.out.at_ (by intro h; subst h; simp at hlt);subst hA;have hx:=hC.x k hlt;have hy:=hC.y k hlt;have hbo:=hC.lt;obtain ⟨wa,hwa⟩:∃ wa,wa=wo.alloc (.cells #[.int .i64 (px l k),.int .i64 (py l k)] 24):=⟨_,rfl⟩;obtain ⟨gp,hgp⟩:∃ g,g=wo.heap.size:=⟨_,rfl⟩;have hgl:w.heap.size<gp:=by rw [hgp];exact HK.out.lt
   have HK1:=hid (show aL wa w.heap.size b (some ⟨ba,off,none⟩) l.length c by rw [hwa];exact HK.out.alloc _);have HO1:=hid (show Own wa (w.heap.size+1) s (dO b (l.take k)) by rw [hwa];exact HO.out.alloc _);have hB1:Below w.heap.size w wa:=by rw [hwa];exact hB.alloc hB.size _
   have p0:wa.cell? ⟨gp,0,none⟩=some (.int .i64 (px l k)):=by rw [hwa,hgp];go_simp
   have p1:wa.cell? ⟨gp,1,none⟩=some (.int .i64 (py l k)):=by rw [hwa,hgp];go_simp
   obtain ⟨tx,htx⟩:∃ t,t=mE (px l k) (py l k) b.ang:=⟨_,rfl⟩;obtain ⟨ty,hty⟩:∃ t,t=mg (px l k) (py l k) b.ang:=⟨_,rfl⟩;have HTC:=hid (rJ (px l k) (py l k) b.ang hang.1 (by omega));rw [← htx,← hty] at HTC;have HTX:=hid htx;have HTY:=hid hty;clear hC HK HO HS hB htx hty
   go_upto_region 7 with fail
   rw [← hwa,← hgp];clear hwa hgp hx hy hbo;refine wp_region_noPanic ?_;refine au (S:=(S2 (fun w'=>aL w' w.heap.size b (some ⟨ba,off,none⟩) l.length c∧Own w' (w.heap.size+1) s (dO b (l.take k))∧w'.cell? ⟨gp,0,none⟩=some (.int .i64 (px l k))∧w'.cell? ⟨gp,1,none⟩=some (.int .i64 (py l k))∧Below w.heap.size w w'))) (T:=(fun j=>[0,0,0,0,0,0,0,0,0,1].getD j 0)) (by kernel_rfl) (aC ⟨HK1.out.drew,HO1.out.drew,p0,p1,hB1.drew⟩) (fun hH=>?_);have hWr2:aH (S2 (fun w'=>aL w' w.heap.size b (some ⟨ba,off,none⟩) l.length c∧Own w' (w.heap.size+1) s (dO b (l.take k))∧w'.cell? ⟨gp,0,none⟩=some (.int .i64 (px l k))∧w'.cell? ⟨gp,1,none⟩=some (.int .i64 (py l k))∧Below w.heap.size w w')):=aK _;refine dn [(0,16),(1,17),(2,18),(3,19),(5,21),(6,22)] 5 0 0 (L':=?Lr2_1) hWr2 hH ?hyr2_1 ?_
   case hyr2_1=>((iterate 6 apply dA;rfl;kernel_rfl;intro w' hSw;replace hSw:=aA hSw;(try dsimp only at hSw);have q0:=hSw.1;have q1:=hSw.2.1;have q2:=hSw.2.2.1;have q3:=hSw.2.2.2.1;have q4:=hSw.2.2.2.2;obtain ⟨qa0_0,qa0_1,qa0_2,qa0_3,qa0_4,qa0_5,qa0_6,qa0_7,qa0_8,qa0_9,qa0_10,qa0_11,qa0_12,qa0_f⟩:=id q0;(try simp only [sB,sC]);go_simp;(try with_reducible rfl));exact dw)
   simp only [sB,sC];refine U1 4 0 rfl (fun K hK=>?_)
   try clear hb
   go_simp
   (go_at_call 90;refine (HTC.out _).mono ?_;rintro e wn ⟨rfl,hb⟩)
   refine hK.out _ _ ?hsr2_7 (fun hH2=>?hrr2_7)
   case hsr2_7=>exact aC (by have hG:=hH;replace hG:=aA hG;(try dsimp only at hG);have q0:=hG.1;have q1:=hG.2.1;have q2:=hG.2.2.1;have q3:=hG.2.2.2.1;have q4:=hG.2.2.2.2;exact ⟨aM hb q0,Hl hb q1,keepCell hb q2,keepCell hb q3,aj hb q4⟩)
   clear hK K hH;have hH:=hH2;clear hH2
   try simp only [Act.put,sA,sB,sC]
   refine U1 7 0 rfl (fun K hK=>?_)
   try clear hb
   go_simp
   (go_at_call 89;refine (jR tx ty b.px b.py _).mono ?_;rintro e wn ⟨rfl,hb⟩)
   refine hK.out _ _ ?hsr2_8 (fun hH2=>?hrr2_8)
   case hsr2_8=>exact aC (by have hG:=hH;replace hG:=aA hG;(try dsimp only at hG);have q0:=hG.1;have q1:=hG.2.1;have q2:=hG.2.2.1;have q3:=hG.2.2.2.1;have q4:=hG.2.2.2.2;exact ⟨aM hb q0,Hl hb q1,keepCell hb q2,keepCell hb q3,aj hb q4⟩)
   clear hK K hH;have hH:=hH2;clear hH2
   try simp only [Act.put,sA,sB,sC]
   refine U1 8 0 rfl (fun K hK=>?_)
   try clear hb
   have hG:=hH;replace hG:=aA hG;(try dsimp only at hG);have q0:=hG.1;have q1:=hG.2.1;have q2:=hG.2.2.1;have q3:=hG.2.2.2.1;have q4:=hG.2.2.2.2;go_simp;refine hK.out _ _ ?hsr2_9 (fun hH2=>?hrr2_9)
   case hsr2_9=>exact aC (by have hG:=hH;replace hG:=aA hG;(try dsimp only at hG);have q0:=hG.1;have q1:=hG.2.1;have q2:=hG.2.2.1;have q3:=hG.2.2.2.1;have q4:=hG.2.2.2.2;exact ⟨q0.alloc _,q1.alloc _,keepCell Ba q2,keepCell Ba q3,q4.alloc q4.size _⟩)
   clear hK K hH;have hH:=hH2;clear hH2
   try simp only [Act.put,sA,sB,sC]
   have hT:Cells (wn.alloc (.cells #[.int .i64 (bT tx b.px),.int .i64 (bT ty b.py)] 24)) wn.heap.size 0 [(bT tx b.px,bT ty b.py)]:=cells_one (by go_simp) (by go_simp);obtain ⟨gT,hgT⟩:∃ g,g=wn.heap.size:=⟨_,rfl⟩;have hlT:w.heap.size<gT:=by rw [hgT];exact q0.lt
   rw [← hgT] at hT
   try rw [← hgT]
   clear hgT q0 q1 q2 q3 q4;generalize wn.alloc (.cells #[.int .i64 (bT tx b.px),.int .i64 (bT ty b.py)] 24)=wx8 at *
   refine U1 9 1 rfl (fun K hK=>?_);have hG:=hH;replace hG:=aA hG;(try dsimp only at hG);have q0:=hG.1;have q1:=hG.2.1;have q2:=hG.2.2.1;have q3:=hG.2.2.2.1;have q4:=hG.2.2.2.2;have hbs:=q0.lt
   (refine uh (by rfl) _ _ (by rfl) (w.heap.size+1) s (dO b (l.take k)) (by rfl) q1 gT 0 1 1 [(bT tx b.px,bT ty b.py)] (by rfl) rfl hT (by rw [oM,List.length_take,List.length_singleton];omega) (by omega) ?_;intro v' w1 ho1 hg1;have HO1:=hid ho1;have hb1:=Own.grown q1 hg1 (by omega);clear ho1 hg1)
   refine hK.out _ _ ?hsr2_10 (fun hH2=>?hrr2_10)
   case hsr2_10=>exact dY
   clear hK K hH;have hH:=hH2;clear hH2
   try simp only [Act.put,List.getElem_toArray,List.getElem_cons_succ,List.getElem_cons_zero,List.setIfInBounds_toArray,List.set_cons_zero,List.set_cons_succ]
   refine Ut 10 3 0 1 1 (v:=?vr2_11) rfl hWr2 hH ?hyr2_11 ?_
   case hyr2_11=>(intro w' hSw;clear hSw;go_simp;try (with_reducible rfl))
   simp only [sB,sC];refine ak (by kernel_rfl) ?_ _ _;refine NoPanic.normal ?_;have hBn:Below w.heap.size w w1:=q4.trans (hb1.mono (by omega));have HKn:=hid (NK hb1 (by omega) q0);clear hH hG q0 q1 q2 q3 q4;go_wp2;go_roundw
   case rel =>
    refine ⟨k+1,hlt,by go_num,?_,HKn.out,hBn⟩;have:=HO1.out;rw [HTX.out,HTY.out] at this;rw [List.take_succ_eq_append_getElem hlt,dO,List.map_append,List.map_singleton,yc hlt];exact this
   case measure=>simp [intOf];omega
  ·have hge : l.length ≤ k := by omega
   obtain ⟨A',n',c',rfl,hs,hf⟩:=HO.out.sl;have H2:Hid (Sl wo A' n' c' (dO b l)):=by rwa [List.take_of_length_le hge] at hs
   have HF:=hid hf;clear hs hf HO HK HS;go_wp2
   go_returns
   exact ⟨_,_,_,rfl,by rw [HR.out];exact H2.out,fun h=>by rw [HR.out] at h;have:=congrArg List.length h;rw [oM] at this;simp at this;subst this;simp at h3,(fun bx off e=>by have:=HF.out bx off e;omega),hB⟩
def eX (l:List V) (i:Nat):Int:=py l ((i+1) % l.length)-py l i
def eZ (l:List V) (i:Nat):Int:=px l i-px l ((i+1) % l.length)
theorem oC {l:List V} (hw:aP 65536000 l=true) {i:Nat} (hi:i<l.length):(-131072000≤eX l i∧eX l i≤131072000)∧(-131072000≤eZ l i∧eZ l i≤131072000):=by
 have h1:=aD.1 (aQ hw hi);have h2:=aD.1 (aQ hw (Nat.mod_lt (i+1) (show 0<l.length by omega)));unfold eX eZ;omega
theorem jH (A:Option Addr) (n c:Nat) (l:List V) (i:Nat) (w:World) (hS:Sl w A n c l) (hw:aP 65536000 l=true) (h3:3≤l.length) (h8:l.length≤8) (hi:i<l.length) :
  Calls Tryz.prog 163 #[.slice A n c,.int .i64 i] w (dG (aR (eX l i) (eZ l i)) w):=by
 have hn:=hS.len;subst hn;obtain ⟨b,off,rfl,hC⟩:=hS.at_ (by intro h;subst h;simp at hi);obtain ⟨j,hje⟩:∃ j,j=(i+1) % l.length:=⟨_,rfl⟩;have hj:j<l.length:=by rw [hje];exact Nat.mod_lt _ (by omega)
 have hji:((i:Int)+1) % (l.length:Int)=(j:Int):=by rw [hje];simp
 have hji2:(((i:Int)+1) % (l.length:Int)).toNat=j:=by omega
 have hji3:((i:Int)+1) % (l.length:Int)<(l.length:Int):=by omega
 have hji4:0≤((i:Int)+1) % (l.length:Int):=by omega
 have hwk:IntKind.i64.wrap ((i:Int)+1)=(i:Int)+1:=IntWalk.i64_in _ (by omega);have htm:((i:Int)+1).tmod (l.length:Int)=(j:Int):=by rw [Int.tmod_eq_emod_of_nonneg (by omega)];exact hji
 have hl0:¬ l=[]:=by intro h;rw [h] at hi;simp at hi
 have hlt':(i:Int)<(l.length:Int):=by omega
 have hneg:¬ ((i:Int)<0):=by omega
 have hnge:¬ ((l.length:Int)≤(i:Int)):=by omega
 have hnge2:¬ l.length≤i:=by omega
 have hjl:(j:Int)<(l.length:Int):=by omega
 obtain ⟨a1,a2,a3,a4⟩:=aD.1 (aQ hw hi);obtain ⟨b1,b2,b3,b4⟩:=aD.1 (aQ hw hj);obtain ⟨W,hW⟩:∃ W,W=w.alloc (.cells #[.int .i64 0,.int .i64 0] 24):=⟨_,rfl⟩;have HZ0:=hid (show VZ W w.heap.size by rw [hW];exact VZ.here _ _ _ _);have hB0:Below w.heap.size w W:=by rw [hW];go_grown
 have hCW:=hC.below hB0;have xi:=hCW.x i hi;have yi:=hCW.y i hi;have xj:=hCW.x j hj;have yj:=hCW.y j hj;have HN:Hid (eX l i=py l j-py l i∧eZ l i=px l i-px l j):=by show _∧_;unfold eX eZ;rw [← hje];exact ⟨rfl,rfl⟩
 have u1:IntKind.i64.wrap (py l j-py l i)=py l j-py l i:=IntWalk.i64_in _ (by omega);have u2:IntKind.i64.wrap (px l i-px l j)=px l i-px l j:=IntWalk.i64_in _ (by omega);clear hS hC hje hw hCW
 go_enter Tryz.func163,Tryz.ntmps163
 go_upto_region 3 with fail
 rw [← hW];clear hW
 go_cut [5,6] from 16 to 27 (fun t u wx=>∃ gT gU:Nat,t = .pointer (some ⟨gT,0,none⟩)∧u = .pointer (some ⟨gU,0,none⟩)∧wx.cell? ⟨gT,0,none⟩=some (.int .i64 (px l i))∧wx.cell? ⟨gT,1,none⟩=some (.int .i64 (py l i))∧wx.cell? ⟨gU,0,none⟩=some (.int .i64 (px l j))∧wx.cell? ⟨gU,1,none⟩=some (.int .i64 (py l j))∧w.heap.size<gT∧w.heap.size<gU∧VZ wx w.heap.size∧Below w.heap.size w wx)
 case first =>
  refine wp_region_noPanic ?_;refine au (S:=(S3 (fun w'=>w'.cell? ⟨b,off+i*2,none⟩=some (.int .i64 (px l i))∧w'.cell? ⟨b,off+i*2+1,none⟩=some (.int .i64 (py l i))∧w'.cell? ⟨b,off+j*2,none⟩=some (.int .i64 (px l j))∧w'.cell? ⟨b,off+j*2+1,none⟩=some (.int .i64 (py l j))∧VZ w' w.heap.size∧Below w.heap.size w w') (fun w'=>w'.cell? ⟨b,off+j*2,none⟩=some (.int .i64 (px l j))∧w'.cell? ⟨b,off+j*2+1,none⟩=some (.int .i64 (py l j))))) (T:=(fun j=>[0,0,0,0,0,0,0,0,0,0,0,0,0,0,1,2].getD j 0)) (by kernel_rfl) (iC ⟨xi,yi,xj,yj,HZ0.out.drew,hB0.drew⟩) (fun hH=>?_);have hWr1:aH (S3 (fun w'=>w'.cell? ⟨b,off+i*2,none⟩=some (.int .i64 (px l i))∧w'.cell? ⟨b,off+i*2+1,none⟩=some (.int .i64 (py l i))∧w'.cell? ⟨b,off+j*2,none⟩=some (.int .i64 (px l j))∧w'.cell? ⟨b,off+j*2+1,none⟩=some (.int .i64 (py l j))∧VZ w' w.heap.size∧Below w.heap.size w w') (fun w'=>w'.cell? ⟨b,off+j*2,none⟩=some (.int .i64 (px l j))∧w'.cell? ⟨b,off+j*2+1,none⟩=some (.int .i64 (py l j)))):=fP (fun _ ⟨q0,q1,q2,q3,q4,q5⟩=>⟨q2,q3⟩);refine dn [(0,16),(1,17),(2,18),(3,19)] 12 0 0 (L':=?Lr1_1) hWr1 hH ?hyr1_1 ?_
  case hyr1_1=>((iterate 4 apply dA;rfl;kernel_rfl;intro w' hSw;replace hSw:=dR hSw;(try dsimp only at hSw);have q0:=hSw.1;have q1:=hSw.2.1;have q2:=hSw.2.2.1;have q3:=hSw.2.2.2.1;have q4:=hSw.2.2.2.2.1;have q5:=hSw.2.2.2.2.2;(try simp only [sB,sC]);go_simp;(try with_reducible rfl));exact dw)
  simp only [sB,sC];refine dn [(4,20),(5,21),(6,22),(7,23),(8,24),(9,25),(10,26),(11,27)] 4 1 0 (L':=?Lr1_5) hWr1 hH ?hyr1_5 ?_
  case hyr1_5=>((iterate 8 apply dA;rfl;kernel_rfl;intro w' hSw;replace hSw:=rV hSw;(try dsimp only at hSw);have q2:=hSw.1;have q3:=hSw.2;(try simp only [sB,sC]);go_simp;(try with_reducible rfl));exact dw)
  simp only [sB,sC];refine Ur [12,13] ?_;refine Uc 0 rfl (fun K hK=>?_) ?_
  ·try clear hb
   have hG:=hH;replace hG:=dR hG;(try dsimp only at hG);have q0:=hG.1;have q1:=hG.2.1;have q2:=hG.2.2.1;have q3:=hG.2.2.2.1;have q4:=hG.2.2.2.2.1;have q5:=hG.2.2.2.2.2;go_simp;refine hK.out _ _ ?hsr1_13 (fun hH2=>?hrr1_13)
   case hsr1_13=>exact iC (by have hG:=hH;replace hG:=dR hG;(try dsimp only at hG);have q0:=hG.1;have q1:=hG.2.1;have q2:=hG.2.2.1;have q3:=hG.2.2.2.1;have q4:=hG.2.2.2.2.1;have q5:=hG.2.2.2.2.2;exact ⟨keepCell Ba q0,keepCell Ba q1,keepCell Ba q2,keepCell Ba q3,q4.alloc _,q5.alloc q5.size _⟩)
   clear hK K hH;have hH:=hH2;clear hH2
   try simp only [Act.put,sA,sB,sC]
   have hT:VZ ((W.alloc (.cells #[.int .i64 0,.int .i64 0] 24)).drew) W.heap.size:=VZ.drew (VZ.here _ _ _ _);obtain ⟨gT,hgT⟩:∃ g,g=W.heap.size:=⟨_,rfl⟩;have hlT:w.heap.size<gT∧b<gT:=by rw [hgT];exact ⟨q4.lt,lt_of_cell q0⟩
   rw [← hgT] at hT
   try rw [← hgT]
   clear hgT q0 q1 q2 q3 q4 q5;generalize (W.alloc (.cells #[.int .i64 0,.int .i64 0] 24)).drew=wx12 at *
   refine U1 13 0 rfl (fun K hK=>?_)
   try clear hb
   have hG:=hH;replace hG:=dR hG;(try dsimp only at hG);have q0:=hG.1;have q1:=hG.2.1;have q2:=hG.2.2.1;have q3:=hG.2.2.2.1;have q4:=hG.2.2.2.2.1;have q5:=hG.2.2.2.2.2;have hZT:=VZ.lt hT;go_simp;refine hK.out _ _ ?hsr1_14 (fun hH2=>?hrr1_14)
   case hsr1_14=>exact iC (by have hG:=hH;replace hG:=dR hG;(try dsimp only at hG);have q0:=hG.1;have q1:=hG.2.1;have q2:=hG.2.2.1;have q3:=hG.2.2.2.1;have q4:=hG.2.2.2.2.1;have q5:=hG.2.2.2.2.2;exact ⟨keepCell Ba q0,keepCell Ba q1,keepCell Ba q2,keepCell Ba q3,q4.alloc _,q5.alloc q5.size _⟩)
   clear hK K hH;have hH:=hH2;clear hH2
   try simp only [Act.put,sA,sB,sC]
   have hU:VZ (wx12.alloc (.cells #[.int .i64 0,.int .i64 0] 24)) wx12.heap.size:=VZ.here _ _ _ _;replace hT:=aG ((Below.refl _ _).alloc (Nat.le_refl _) (.cells #[.int .i64 0,.int .i64 0] 24)) hT;obtain ⟨gU,hgU⟩:∃ g,g=wx12.heap.size:=⟨_,rfl⟩;have hlU:w.heap.size<gU∧b<gU∧gT<gU:=by rw [hgU];exact ⟨q4.lt,lt_of_cell q0,hZT⟩
   rw [← hgU] at hU
   try rw [← hgU]
   clear hgU q0 q1 q2 q3 q4 q5;generalize wx12.alloc (.cells #[.int .i64 0,.int .i64 0] 24)=wx13 at *
   refine U1 14 1 rfl (fun K hK=>?_);have hG:=hH;replace hG:=dR hG;(try dsimp only at hG);have q0:=hG.1;have q1:=hG.2.1;have q2:=hG.2.2.1;have q3:=hG.2.2.2.1;have q4:=hG.2.2.2.2.1;have q5:=hG.2.2.2.2.2;have HT:=hid hT;have HU:=hid hU;obtain ⟨⟨z0,z1,y0,y1⟩,yf⟩:=hT;obtain ⟨⟨u0,u1,v0,v1⟩,uf⟩:=hU;have hbT:¬ gT=b:=by omega
   go_simp;refine hK.out _ _ ?hsr1_15 (fun hH2=>?hrr1_15)
   case hsr1_15=>exact rF ⟨by go_simp,by go_simp⟩
   clear hK K hH;have hH:=hH2;clear hH2
   try simp only [Act.put,sA,sB,sC]
   refine U1 15 2 rfl (fun K hK=>?_);go_simp;refine hK.out _ _ ?hsr1_16 (fun hH2=>?hrr1_16)
   case hsr1_16=>exact vR
   clear hK K hH;have hH:=hH2;clear hH2
   try simp only [Act.put,sA,sB,sC]
   refine ak (by kernel_rfl) ?_ _ _;refine NoPanic.normal ?_;have hne:¬ gT=gU:=by omega
   have hne2:¬ gU=gT:=by omega
   go_wp2_with fail
   go_meet
   refine ⟨gT,gU,rfl,rfl,by go_simp,by go_simp,by go_simp,by go_simp,by omega,by omega,(((q4.set _ _).set _ _).set _ _).set _ _,by go_grown⟩
  refine Uc 0 rfl (fun K hK=>?_) ?_
  ·try clear hb
   have hG:=hH;replace hG:=dR hG;(try dsimp only at hG);have q0:=hG.1;have q1:=hG.2.1;have q2:=hG.2.2.1;have q3:=hG.2.2.2.1;have q4:=hG.2.2.2.2.1;have q5:=hG.2.2.2.2.2;go_simp;refine hK.out _ _ ?hsr1_17 (fun hH2=>?hrr1_17)
   case hsr1_17=>exact iC (by have hG:=hH;replace hG:=dR hG;(try dsimp only at hG);have q0:=hG.1;have q1:=hG.2.1;have q2:=hG.2.2.1;have q3:=hG.2.2.2.1;have q4:=hG.2.2.2.2.1;have q5:=hG.2.2.2.2.2;exact ⟨keepCell Ba q0,keepCell Ba q1,keepCell Ba q2,keepCell Ba q3,q4.alloc _,q5.alloc q5.size _⟩)
   clear hK K hH;have hH:=hH2;clear hH2
   try simp only [Act.put,sA,sB,sC]
   have hU:VZ ((W.alloc (.cells #[.int .i64 0,.int .i64 0] 24)).drew) W.heap.size:=VZ.drew (VZ.here _ _ _ _);obtain ⟨gU,hgU⟩:∃ g,g=W.heap.size:=⟨_,rfl⟩;have hlU:w.heap.size<gU∧b<gU:=by rw [hgU];exact ⟨q4.lt,lt_of_cell q0⟩
   rw [← hgU] at hU
   try rw [← hgU]
   clear hgU q0 q1 q2 q3 q4 q5;generalize (W.alloc (.cells #[.int .i64 0,.int .i64 0] 24)).drew=wx13 at *
   refine U1 12 0 rfl (fun K hK=>?_)
   try clear hb
   have hG:=hH;replace hG:=dR hG;(try dsimp only at hG);have q0:=hG.1;have q1:=hG.2.1;have q2:=hG.2.2.1;have q3:=hG.2.2.2.1;have q4:=hG.2.2.2.2.1;have q5:=hG.2.2.2.2.2;have hZU:=VZ.lt hU;go_simp;refine hK.out _ _ ?hsr1_18 (fun hH2=>?hrr1_18)
   case hsr1_18=>exact iC (by have hG:=hH;replace hG:=dR hG;(try dsimp only at hG);have q0:=hG.1;have q1:=hG.2.1;have q2:=hG.2.2.1;have q3:=hG.2.2.2.1;have q4:=hG.2.2.2.2.1;have q5:=hG.2.2.2.2.2;exact ⟨keepCell Ba q0,keepCell Ba q1,keepCell Ba q2,keepCell Ba q3,q4.alloc _,q5.alloc q5.size _⟩)
   clear hK K hH;have hH:=hH2;clear hH2
   try simp only [Act.put,sA,sB,sC]
   have hT:VZ (wx13.alloc (.cells #[.int .i64 0,.int .i64 0] 24)) wx13.heap.size:=VZ.here _ _ _ _;replace hU:=aG ((Below.refl _ _).alloc (Nat.le_refl _) (.cells #[.int .i64 0,.int .i64 0] 24)) hU;obtain ⟨gT,hgT⟩:∃ g,g=wx13.heap.size:=⟨_,rfl⟩;have hlT:w.heap.size<gT∧b<gT∧gU<gT:=by rw [hgT];exact ⟨q4.lt,lt_of_cell q0,hZU⟩
   rw [← hgT] at hT
   try rw [← hgT]
   clear hgT q0 q1 q2 q3 q4 q5;generalize wx13.alloc (.cells #[.int .i64 0,.int .i64 0] 24)=wx12 at *
   refine U1 14 1 rfl (fun K hK=>?_);have hG:=hH;replace hG:=dR hG;(try dsimp only at hG);have q0:=hG.1;have q1:=hG.2.1;have q2:=hG.2.2.1;have q3:=hG.2.2.2.1;have q4:=hG.2.2.2.2.1;have q5:=hG.2.2.2.2.2;have HT:=hid hT;have HU:=hid hU;obtain ⟨⟨z0,z1,y0,y1⟩,yf⟩:=hT;obtain ⟨⟨u0,u1,v0,v1⟩,uf⟩:=hU;have hbT:¬ gT=b:=by omega
   go_simp;refine hK.out _ _ ?hsr1_19 (fun hH2=>?hrr1_19)
   case hsr1_19=>exact rF ⟨by go_simp,by go_simp⟩
   clear hK K hH;have hH:=hH2;clear hH2
   try simp only [Act.put,sA,sB,sC]
   refine U1 15 2 rfl (fun K hK=>?_);go_simp;refine hK.out _ _ ?hsr1_20 (fun hH2=>?hrr1_20)
   case hsr1_20=>exact vR
   clear hK K hH;have hH:=hH2;clear hH2
   try simp only [Act.put,sA,sB,sC]
   refine ak (by kernel_rfl) ?_ _ _;refine NoPanic.normal ?_;have hne:¬ gT=gU:=by omega
   have hne2:¬ gU=gT:=by omega
   go_wp2_with fail
   go_meet
   refine ⟨gT,gU,rfl,rfl,by go_simp,by go_simp,by go_simp,by go_simp,by omega,by omega,(((q4.set _ _).set _ _).set _ _).set _ _,by go_grown⟩
  exact bC.nil
 case rest =>
  obtain ⟨gT,gU,rfl,rfl,c0,c1,d0,d1,hg1,hg2,hz,hB⟩:=hcut;obtain ⟨⟨z0,z1,y0,y1⟩,yf⟩:=hz;generalize px l i=x1 at *
  generalize py l i=x2 at *
  generalize px l j=x3 at *
  generalize py l j=x4 at *
  clear HZ0 hB0 xi yi xj yj;go_wp2;refine bodyPost_ret (v:=aR (x4-x2) (x1-x3)) (by simp [results,Tryz.results163,go_sem,y0,y1]) rfl ⟨by rw [HN.out.1,HN.out.2],by go_grown⟩

def jY (n : Int) : Nat → Int → Int
 | 0,a=>a
 | k+1,a=>if (a+2 ^ k)*(a+2 ^ k)≤n then jY n k (a+2 ^ k) else jY n k a
def iE (n:Int):Int:=jY n 64 0
theorem ES (n:Int):∀ (k:Nat) (a:Int),0≤a→a*a≤n→n<(a+2 ^ k)*(a+2 ^ k)→0≤jY n k a∧jY n k a*jY n k a≤n∧n<(jY n k a+1)*(jY n k a+1):=by
 intro k
 induction k with
 | zero=>intro a h0 h1 h2;exact ⟨h0,h1,by simpa [jY] using h2⟩
 | succ k ih =>
  intro a h0 h1 h2;have hp:(0:Int)<2 ^ k:=Int.pow_pos (by omega);have e:(2:Int) ^ (k+1)=2 ^ k+2 ^ k:=by rw [Int.pow_succ];omega
  unfold jY
  split
  ·rename_i h;exact ih _ (by omega) h (by rw [e] at h2;rwa [show a+2 ^ k+2 ^ k=a+(2 ^ k+2 ^ k) by omega])
  ·rename_i h;exact ih _ h0 h1 (by omega)
theorem lG {n:Int} (h0:0≤n) (h1:n<340282366920938463463374607431768211456):0≤iE n∧iE n*iE n≤n∧n<(iE n+1)*(iE n+1) :=
 ES n 64 0 (by omega) (by omega) (by
  have e:((0:Int)+2 ^ 64)*(0+2 ^ 64)=340282366920938463463374607431768211456:=by decide
  rw [e];exact h1)
theorem NS {r s:Int} (h0:0≤r) (h:r<s):(r+1)*(r+1)≤s*s:=Int.mul_le_mul (by omega) (by omega) (by omega) (by omega)
theorem Ll {n r:Int} (h0:0≤n) (hn:n<340282366920938463463374607431768211456) (hr:0≤r) (h1:r*r≤n) (h2:n<(r+1)*(r+1)):iE n=r:=by
 obtain ⟨s0,s1,s2⟩:=lG h0 hn
 rcases Int.lt_trichotomy (iE n) r with h | h | h
 ·have:=NS s0 h;omega
 ·exact h
 ·have:=NS hr h;omega
theorem FE (n:Int) (h0:0≤n) (h1:n<4611686018427387904) (w:World):Calls Tryz.prog 221 #[.int .i64 n] w (dG (.int .i64 (iE n)) w):=by
 go_enter Tryz.func221,Tryz.ntmps221
 go_wp2
 go_loopw [3,4] (fun a b wr=>∃ lo hi:Int,a = .int .i64 lo∧b = .int .i64 hi∧0≤lo∧lo<hi∧hi≤2147483648∧lo*lo≤n∧n<hi*hi∧Below w.heap.size w wr) (fun a b _=>(intOf b-intOf a).toNat)
 case atStart=>exact ⟨0,2147483648,rfl,rfl,by omega,by omega,by omega,by omega,by omega,Below.refl _ _⟩
 case round =>
  obtain ⟨lo,hi,rfl,rfl,b0,b1,b2,s1,s2,hB⟩:=hrel;obtain ⟨wo,rfl⟩:∃ wo:World,wo=wr:=⟨_,rfl⟩;have w1:IntKind.i64.wrap (hi-lo)=hi-lo:=IntWalk.i64_in _ (by omega)
  by_cases hgt:1<hi-lo
  ·obtain ⟨m, hm⟩ : ∃ m, m = (lo + hi) / 2 := ⟨_, rfl⟩;have w2:IntKind.i64.wrap (lo+hi)=lo+hi:=IntWalk.i64_in _ (by omega);have w3:(lo+hi).tdiv 2=m:=by rw [Int.tdiv_eq_ediv_of_nonneg (by omega),hm]
   have w4:IntKind.i64.wrap m=m:=IntWalk.i64_in _ (by omega);have q:=dh (x:=m) (y:=m) (M:=2147483648) (N:=2147483648) (by omega) (by omega) (by omega) (by omega);have w5:IntKind.i64.wrap (m*m)=m*m:=IntWalk.i64_in _ (by omega);have hm1:lo<m:=by omega
   have hm2:m<hi:=by omega
   clear hm
   by_cases hle:m*m≤n
   ·go_wp2;go_roundw
    case rel=>exact ⟨m,hi,rfl,rfl,by omega,by omega,b2,hle,s2,hB⟩
    case measure=>simp [intOf];omega
   ·go_wp2;go_roundw
    case rel=>exact ⟨lo,m,rfl,rfl,by omega,by omega,by omega,s1,by omega,hB⟩
    case measure=>simp [intOf];omega
  ·have he : hi = lo + 1 := by omega
   have HR:Hid (iE n=lo):=Ll h0 (by omega) b0 s1 (by rw [he] at s2;exact s2);clear s1 s2;go_wp2
   go_returns
   exact aB HR.out.symm hB

def fQ (x y:Int):Int:=iE (x*x+y*y)
theorem qM (x y:Int) (hx : -1073741824≤x∧x≤1073741824) (hy : -1073741824≤y∧y≤1073741824) (w:World):Calls Tryz.prog 168 #[aR x y] w (dG (.int .i64 (fQ x y)) w):=by
 have m1:=dh (x:=x) (y:=x) (M:=1073741824) (N:=1073741824) (by omega) (by omega) (by omega) (by omega);have m2:=dh (x:=y) (y:=y) (M:=1073741824) (N:=1073741824) (by omega) (by omega) (by omega) (by omega);have p1:0≤x*x:=by have:=Int.mul_self_le_mul_self (show (0:Int)≤0 by omega) (show (0:Int)≤0 by omega);exact (by rcases Int.le_total 0 x with h | h;exact Int.mul_nonneg h h;exact Int.mul_nonneg_of_nonpos_of_nonpos h h)
 have p2:0≤y*y:=by rcases Int.le_total 0 y with h | h;exact Int.mul_nonneg h h;exact Int.mul_nonneg_of_nonpos_of_nonpos h h
 have w1:IntKind.i64.wrap (x*x)=x*x:=IntWalk.i64_in _ (by omega);have w2:IntKind.i64.wrap (y*y)=y*y:=IntWalk.i64_in _ (by omega);have w3:IntKind.i64.wrap (x*x+y*y)=x*x+y*y:=IntWalk.i64_in _ (by omega);have HR:=hid (FE (x*x+y*y) (by omega) (by omega));obtain ⟨q,hq⟩:∃ q,q=fQ x y:=⟨_,rfl⟩;unfold fQ at hq;rw [← hq] at HR;have HQ:Hid (fQ x y=q):=hq.symm;rw [HQ.out];clear hq m1 m2 p1 p2
 go_enter Tryz.func168,Tryz.ntmps168
 go_wp2_with fail
 refine (HR.out _).mono ?_;rintro e w1 ⟨rfl,hb1⟩;go_wp2
 go_returns
 exact aB rfl (((Below.refl w.heap.size w).alloc (Nat.le_refl _) _).trans (hb1.mono (by simp)))
end
end Go.Proofs.YtokgmcomgflloaaGreat
