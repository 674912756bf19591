/- Parts of a proof: contracts and laws. -/
import Derived.Test.YtokgmcomgflloaaGreatQA21
import Derived.Test.YtokgmcomgflloaaGreatQA18
import Derived.Test.YtokgmcomgflloaaGreatQA02
set_option maxRecDepth 100000
set_option maxHeartbeats 16000000
namespace Go.Proofs.YtokgmcomgflloaaGreat
section
set_option linter.unusedVariables false
set_option linter.unusedSimpArgs false
open Go.RowKit
variable {w0 w w':World}
theorem Nj (a b:Int):Lib.compareInt a b=Ce a b:=by unfold Lib.compareInt Ce;(repeat' split) <;> omega
theorem rC (x y:Int) (w:World):Calls Tryz.prog 75 #[.int .i64 x,.int .i64 y] w (dG (.int .i64 (Ce x y)) w) :=
 (kR x y w).mono fun e w' h=>by
  obtain ⟨rfl,rfl⟩:=h
  exact aB (Nj x y) (Below.refl _ _)
def NP (x y z:Int):Int:=if x≠0 then x else if y≠0 then y else z
theorem Ju (b c:Nat) (x y z:Int) (W:World) (h0:W.cell? ⟨b,0,none⟩=some (.int .i64 x)) (h1:W.cell? ⟨b,1,none⟩=some (.int .i64 y)) (h2:W.cell? ⟨b,2,none⟩=some (.int .i64 z)) :
  Calls Tryz.prog 80 #[.slice (some ⟨b,0,none⟩) 3 c] W (dG (.int .i64 (NP x y z)) W):=by
 have HZ:Hid (NP x y z=if x≠0 then x else if y≠0 then y else z):=rfl;generalize NP x y z=q at *
 have hbl:=lt_of_cell h0
 go_enter Tryz.func80,Tryz.ntmps80
 go_wp2
 go_loopw [8] (fun j wr=>∃ k:Nat,k≤3∧j = .int .i64 k∧(1≤k→x=0)∧(2≤k→y=0)∧(3≤k→z=0)∧wr=W) (fun j _=>3-(intOf j).toNat)
 case atStart=>exact ⟨0,by omega,rfl,by omega,by omega,by omega,rfl⟩
 case round =>
  obtain ⟨k,hk,rfl,hx,hy,hz,rfl⟩:=hrel;have tri:k=0∨k=1∨k=2∨k=3:=by omega
  rcases tri with rfl | rfl | rfl | rfl
  ·by_cases hq : x = 0
   ·subst hq;clear hx hy hz;go_wp2;go_roundw
    case rel=>exact ⟨1,by omega,rfl,fun _=>by simp,by omega,by omega,by simp⟩
    case measure=>simp [intOf]
   ·have hne : (x != 0) = true := by simp [hq]
    clear hx hy hz;go_wp2
    go_returns
    exact aB (by rw [HZ.out];simp [hq]) (Below.refl _ _)
  ·obtain rfl := hx (by omega)
   by_cases hq:y=0
   ·subst hq;clear hx hy hz;go_wp2;go_roundw
    case rel=>exact ⟨2,by omega,rfl,fun _=>by simp,fun _=>by simp,by omega,by simp⟩
    case measure=>simp [intOf]
   ·have hne : (y != 0) = true := by simp [hq]
    clear hx hy hz;go_wp2
    go_returns
    exact aB (by rw [HZ.out];simp [hq]) (Below.refl _ _)
  ·obtain rfl := hx (by omega);obtain rfl:=hy (by omega)
   by_cases hq:z=0
   ·subst hq;clear hx hy hz;go_wp2;go_roundw
    case rel=>exact ⟨3,by omega,rfl,fun _=>by simp,fun _=>by simp,fun _=>by simp,by simp⟩
    case measure=>simp [intOf]
   ·have hne : (z != 0) = true := by simp [hq]
    clear hx hy hz;go_wp2
    go_returns
    exact aB (by rw [HZ.out];simp) (Below.refl _ _)
  ·obtain rfl := hx (by omega);obtain rfl:=hy (by omega);obtain rfl:=hz (by omega);clear hx hy hz;go_wp2
   go_returns
   exact aB (by rw [HZ.out];simp) (Below.refl _ _)
theorem uJ (x y:Ct) (w:World):Calls Tryz.prog 60 #[.agg #[.int .i64 x.a,.int .i64 x.b,.int .i64 x.id,.int .i64 x.px,.int .i64 x.py,.int .i64 x.nx,.int .i64 x.ny,.int .i64 x.dep,.int .i64 x.push,.int .i64 x.sli],.agg #[.int .i64 y.a,.int .i64 y.b,.int .i64 y.id,.int .i64 y.px,.int .i64 y.py,.int .i64 y.nx,.int .i64 y.ny,.int .i64 y.dep,.int .i64 y.push,.int .i64 y.sli]] w (dG (.int .i64 (zi x y)) w):=by
 have HC1:=hid (rC x.a y.a);have HC2:=hid (rC x.b y.b);have HC3:=hid (rC x.id y.id);have HR:Hid (zi x y=NP (Ce x.a y.a) (Ce x.b y.b) (Ce x.id y.id)):=rfl;generalize Ce x.a y.a=z1 at *
 generalize Ce x.b y.b=z2 at *
 generalize Ce x.id y.id=z3 at *
 obtain ⟨g,hg⟩:∃ g,g=w.heap.size:=⟨_,rfl⟩;obtain ⟨W,hW⟩:∃ W,W=(w.alloc (.cells #[.int .i64 x.a,.int .i64 x.b,.int .i64 x.id,.int .i64 x.px,.int .i64 x.py,.int .i64 x.nx,.int .i64 x.ny,.int .i64 x.dep,.int .i64 x.push,.int .i64 x.sli] 106)).alloc (.cells #[.int .i64 y.a,.int .i64 y.b,.int .i64 y.id,.int .i64 y.px,.int .i64 y.py,.int .i64 y.nx,.int .i64 y.ny,.int .i64 y.dep,.int .i64 y.push,.int .i64 y.sli] 106):=⟨_,rfl⟩;have hB:Below w.heap.size w W:=by rw [hW];go_grown
 have x0:W.cell? ⟨g,0,none⟩=some (.int .i64 x.a):=by rw [hW,hg];go_simp
 have x1:W.cell? ⟨g,1,none⟩=some (.int .i64 x.b):=by rw [hW,hg];go_simp
 have x2:W.cell? ⟨g,2,none⟩=some (.int .i64 x.id):=by rw [hW,hg];go_simp
 have y0:W.cell? ⟨g+1,0,none⟩=some (.int .i64 y.a):=by rw [hW,hg];go_simp
 have y1:W.cell? ⟨g+1,1,none⟩=some (.int .i64 y.b):=by rw [hW,hg];go_simp
 have y2:W.cell? ⟨g+1,2,none⟩=some (.int .i64 y.id):=by rw [hW,hg];go_simp
 go_enter Tryz.func60,Tryz.ntmps60
 go_upto_region 1 with fail
 rw [← hW,← hg];clear hW hg;refine wp_region_noPanic ?_;refine au (S:=(S3 (fun w'=>w'.cell? ⟨g,0,none⟩=some (.int .i64 x.a)∧w'.cell? ⟨g,1,none⟩=some (.int .i64 x.b)∧w'.cell? ⟨g,2,none⟩=some (.int .i64 x.id)∧w'.cell? ⟨(g+1),0,none⟩=some (.int .i64 y.a)∧w'.cell? ⟨(g+1),1,none⟩=some (.int .i64 y.b)∧w'.cell? ⟨(g+1),2,none⟩=some (.int .i64 y.id)∧Below w.heap.size w w') (fun w'=>Below w.heap.size w w'))) (T:=(fun j=>[0,0,0,0,0,0,0,0,0,0,0,0,0,0,0,1].getD j 0)) (by kernel_rfl) (iC ⟨x0,x1,x2,y0,y1,y2,hB.drew⟩) (fun hH=>?_);have hWr1:aH (S3 (fun w'=>w'.cell? ⟨g,0,none⟩=some (.int .i64 x.a)∧w'.cell? ⟨g,1,none⟩=some (.int .i64 x.b)∧w'.cell? ⟨g,2,none⟩=some (.int .i64 x.id)∧w'.cell? ⟨(g+1),0,none⟩=some (.int .i64 y.a)∧w'.cell? ⟨(g+1),1,none⟩=some (.int .i64 y.b)∧w'.cell? ⟨(g+1),2,none⟩=some (.int .i64 y.id)∧Below w.heap.size w w') (fun w'=>Below w.heap.size w w')):=fP (fun _ ⟨q0,q1,q2,q3,q4,q5,q6⟩=>q6);refine dn [(0,5),(1,6),(2,7),(3,8),(5,10),(6,11),(7,12),(8,13),(10,15),(11,16),(12,17),(13,18)] 6 0 0 (L':=?Lr1_1) hWr1 hH ?hyr1_1 ?_
 case hyr1_1=>((iterate 12 apply dA;rfl;kernel_rfl;intro w' hSw;replace hSw:=dR hSw;(try dsimp only at hSw);have q0:=hSw.1;have q1:=hSw.2.1;have q2:=hSw.2.2.1;have q3:=hSw.2.2.2.1;have q4:=hSw.2.2.2.2.1;have q5:=hSw.2.2.2.2.2.1;have q6:=hSw.2.2.2.2.2.2;(try simp only [sB,sC]);go_simp;(try with_reducible rfl));exact dw)
 simp only [sB,sC];refine U1 4 0 rfl (fun K hK=>?_)
 try clear hb
 go_simp
 (go_at_call 75;refine (HC1.out _).mono ?_;rintro e wn ⟨rfl,hb⟩)
 refine hK.out _ _ ?hsr1_13 (fun hH2=>?hrr1_13)
 case hsr1_13=>exact iC (by have hG:=hH;replace hG:=dR hG;(try dsimp only at hG);have q0:=hG.1;have q1:=hG.2.1;have q2:=hG.2.2.1;have q3:=hG.2.2.2.1;have q4:=hG.2.2.2.2.1;have q5:=hG.2.2.2.2.2.1;have q6:=hG.2.2.2.2.2.2;exact ⟨keepCell hb q0,keepCell hb q1,keepCell hb q2,keepCell hb q3,keepCell hb q4,keepCell hb q5,aj hb q6⟩)
 clear hK K hH;have hH:=hH2;clear hH2
 try simp only [Act.put,sA,sB,sC]
 refine U1 9 0 rfl (fun K hK=>?_)
 try clear hb
 go_simp
 (go_at_call 75;refine (HC2.out _).mono ?_;rintro e wn ⟨rfl,hb⟩)
 refine hK.out _ _ ?hsr1_14 (fun hH2=>?hrr1_14)
 case hsr1_14=>exact iC (by have hG:=hH;replace hG:=dR hG;(try dsimp only at hG);have q0:=hG.1;have q1:=hG.2.1;have q2:=hG.2.2.1;have q3:=hG.2.2.2.1;have q4:=hG.2.2.2.2.1;have q5:=hG.2.2.2.2.2.1;have q6:=hG.2.2.2.2.2.2;exact ⟨keepCell hb q0,keepCell hb q1,keepCell hb q2,keepCell hb q3,keepCell hb q4,keepCell hb q5,aj hb q6⟩)
 clear hK K hH;have hH:=hH2;clear hH2
 try simp only [Act.put,sA,sB,sC]
 refine U1 14 0 rfl (fun K hK=>?_)
 try clear hb
 go_simp
 (go_at_call 75;refine (HC3.out _).mono ?_;rintro e wn ⟨rfl,hb⟩)
 refine hK.out _ _ ?hsr1_15 (fun hH2=>?hrr1_15)
 case hsr1_15=>exact iC (by have hG:=hH;replace hG:=dR hG;(try dsimp only at hG);have q0:=hG.1;have q1:=hG.2.1;have q2:=hG.2.2.1;have q3:=hG.2.2.2.1;have q4:=hG.2.2.2.2.1;have q5:=hG.2.2.2.2.2.1;have q6:=hG.2.2.2.2.2.2;exact ⟨keepCell hb q0,keepCell hb q1,keepCell hb q2,keepCell hb q3,keepCell hb q4,keepCell hb q5,aj hb q6⟩)
 clear hK K hH;have hH:=hH2;clear hH2
 try simp only [Act.put,sA,sB,sC]
 refine U1 15 1 rfl (fun K hK=>?_)
 try clear hb
 have hG:=hH;replace hG:=dR hG;(try dsimp only at hG);have q0:=hG.1;have q1:=hG.2.1;have q2:=hG.2.2.1;have q3:=hG.2.2.2.1;have q4:=hG.2.2.2.2.1;have q5:=hG.2.2.2.2.2.1;have q6:=hG.2.2.2.2.2.2;go_simp;refine hK.out _ _ ?hsr1_16 (fun hH2=>?hrr1_16)
 case hsr1_16=>exact rF (aj Ba q6)
 clear hK K hH;have hH:=hH2;clear hH2
 try simp only [Act.put,sA,sB,sC]
 refine U1 16 1 rfl (fun K hK=>?_);go_simp
 (go_at_call 80;refine (Ju _ _ z1 z2 z3 _ (by go_simp) (by go_simp) (by go_simp)).mono ?_;rintro e wn ⟨rfl,hb⟩)
 refine hK.out _ _ ?hsr1_17 (fun hH2=>?hrr1_17)
 case hsr1_17=>exact rF (aj hb (rV hH))
 clear hK K hH;have hH:=hH2;clear hH2
 try simp only [Act.put,sA,sB,sC]
 refine Ut 17 4 0 1 1 (v:=?vr1_18) rfl hWr1 hH ?hyr1_18 ?_
 case hyr1_18=>(intro w' hSw;clear hSw;go_simp;try (with_reducible rfl))
 simp only [sB,sC];refine ak (by kernel_rfl) ?_ _ _;refine NoPanic.normal ?_;clear hWr1;replace hH:=rV hH
 (try dsimp only at hH)
 have t6:=hH;go_wp2
 go_returns
 exact aB HR.out.symm t6

structure Kg (w : World) (g : Nat) (x : Ct) : Prop where
 c0:w.cell? ⟨g,0,none⟩=some (.int .i64 x.a)
 c1:w.cell? ⟨g,1,none⟩=some (.int .i64 x.b)
 c2:w.cell? ⟨g,2,none⟩=some (.int .i64 x.id)
 c3:w.cell? ⟨g,3,none⟩=some (.int .i64 x.px)
 c4:w.cell? ⟨g,4,none⟩=some (.int .i64 x.py)
 c5:w.cell? ⟨g,5,none⟩=some (.int .i64 x.nx)
 c6:w.cell? ⟨g,6,none⟩=some (.int .i64 x.ny)
 c7:w.cell? ⟨g,7,none⟩=some (.int .i64 x.dep)
 c8:w.cell? ⟨g,8,none⟩=some (.int .i64 x.push)
 c9:w.cell? ⟨g,9,none⟩=some (.int .i64 x.sli)
theorem LA {g:Nat} {x:Ct} (hb:Below w.heap.size w w') (h:Kg w g x):Kg w' g x:=⟨keepCell hb h.c0,keepCell hb h.c1,keepCell hb h.c2,keepCell hb h.c3,keepCell hb h.c4,keepCell hb h.c5,keepCell hb h.c6,keepCell hb h.c7,keepCell hb h.c8,keepCell hb h.c9⟩
theorem Kg.drew {g:Nat} {x:Ct} (h:Kg w g x):Kg w.drew g x:=LA (Below.refl _ _).drew h
theorem Iy (args:Array Value) (w:World):(callFunc 172 args).run Tryz.prog w = .ok (.enter 172 args) w:=by kernel_rfl
theorem BG (gO gI b off c k n:Nat) (F:List Ct) (hn:F.length=n) (hk:k<F.length) (x:Ct) (w:World) (o0:w.cell? ⟨gO,0,none⟩=some (.slice (some ⟨b,off,none⟩) n c)) (i0:w.cell? ⟨gI,0,none⟩=some (.int .i64 k)) (hC:aJ bZ w b off F) :
  Calls Tryz.prog 172 #[.agg #[.int .i64 x.a,.int .i64 x.b,.int .i64 x.id,.int .i64 x.px,.int .i64 x.py,.int .i64 x.nx,.int .i64 x.ny,.int .i64 x.dep,.int .i64 x.push,.int .i64 x.sli],.pointer (some ⟨gO,0,none⟩),.pointer (some ⟨gI,0,none⟩)] w (dG (.bool (zi x F[k] == 0)) w):=by
 obtain ⟨y,hy⟩:∃ y,y=F[k]:=⟨_,rfl⟩;have HCO:=hid (uJ x y);have HX:=hid hy;rw [← hy];generalize zi x y=z at *
 obtain ⟨g,hg⟩:∃ g,g=w.heap.size:=⟨_,rfl⟩;obtain ⟨W,hW⟩:∃ W,W=w.alloc (.cells #[.int .i64 x.a,.int .i64 x.b,.int .i64 x.id,.int .i64 x.px,.int .i64 x.py,.int .i64 x.nx,.int .i64 x.ny,.int .i64 x.dep,.int .i64 x.push,.int .i64 x.sli] 106):=⟨_,rfl⟩;have hB:Below w.heap.size w W:=by rw [hW];go_grown
 have HK:Hid (Kg W g x):=by rw [hW,hg];exact ⟨by go_simp,by go_simp,by go_simp,by go_simp,by go_simp,by go_simp,by go_simp,by go_simp,by go_simp,by go_simp⟩
 have HCE:Hid (aJ bZ W b off F):=aJ.below hB hC;replace o0:=keepCell hB o0;replace i0:=keepCell hB i0;have hk':(k:Int)<(n:Int):=by omega
 clear hC hy hn
 go_enter Tryz.func172,Tryz.ntmps172
 go_upto_region 1 with fail
 rw [← hW,← hg];clear hW hg;refine wp_region_noPanic ?_;refine au (S:=(S2 (fun w'=>Kg w' g x∧aJ bZ w' b off F∧w'.cell? ⟨gO,0,none⟩=some (.slice (some ⟨b,off,none⟩) n c)∧w'.cell? ⟨gI,0,none⟩=some (.int .i64 k)∧Below w.heap.size w w'))) (T:=(fun _=>0)) (by kernel_rfl) (aC ⟨HK.out.drew,aJ.below (Below.refl _ _).drew HCE.out,o0,i0,hB.drew⟩) (fun hH=>?_);have hWr2:aH (S2 (fun w'=>Kg w' g x∧aJ bZ w' b off F∧w'.cell? ⟨gO,0,none⟩=some (.slice (some ⟨b,off,none⟩) n c)∧w'.cell? ⟨gI,0,none⟩=some (.int .i64 k)∧Below w.heap.size w w')):=aK _;refine dn [(0,5),(1,6),(2,7),(3,8),(4,9)] 3 0 0 (L':=?Lr2_1) hWr2 hH ?hyr2_1 ?_
 case hyr2_1=>((iterate 5 apply dA;rfl;kernel_rfl;intro w' hSw;replace hSw:=aA hSw;(try dsimp only at hSw);have q0:=hSw.1;have q1:=hSw.2.1;have q2:=hSw.2.2.1;have q3:=hSw.2.2.2.1;have q4:=hSw.2.2.2.2;obtain ⟨qa0_0,qa0_1,qa0_2,qa0_3,qa0_4,qa0_5,qa0_6,qa0_7,qa0_8,qa0_9⟩:=id q0;obtain ⟨qa1_0,qa1_1,qa1_2,qa1_3,qa1_4,qa1_5,qa1_6,qa1_7,qa1_8,qa1_9⟩:=kr (q1) hk HX.out;(try simp only [sB,sC]);go_simp;(try with_reducible rfl));exact dw)
 simp only [sB,sC];refine U1 5 0 rfl (fun K hK=>?_)
 try clear hb
 go_simp
 (go_at_call 60;refine (HCO.out _).mono ?_;rintro e wn ⟨rfl,hb⟩)
 refine hK.out _ _ ?hsr2_6 (fun hH2=>?hrr2_6)
 case hsr2_6=>exact aC (by have hG:=hH;replace hG:=aA hG;(try dsimp only at hG);have q0:=hG.1;have q1:=hG.2.1;have q2:=hG.2.2.1;have q3:=hG.2.2.2.1;have q4:=hG.2.2.2.2;exact ⟨LA hb q0,aJ.below hb q1,keepCell hb q2,keepCell hb q3,aj hb q4⟩)
 clear hK K hH;have hH:=hH2;clear hH2
 try simp only [Act.put,sA,sB,sC]
 refine dn [(6,11),(7,4)] 0 0 0 (L':=?Lr2_7) hWr2 hH ?hyr2_7 ?_
 case hyr2_7=>((iterate 2 apply dA;rfl;kernel_rfl;intro w' hSw;clear hSw;(try simp only [sB,sC]);go_simp;(try with_reducible rfl));exact dw)
 simp only [sB,sC];refine ak (by kernel_rfl) ?_ _ _;refine NoPanic.normal ?_;clear hWr2;replace hH:=aA hH
 (try dsimp only at hH)
 have t0:=hH.1;have t1:=hH.2.1;have t2:=hH.2.2.1;have t3:=hH.2.2.2.1;have t4:=hH.2.2.2.2;go_wp2
 go_returns
 exact bR (by simp) t4

theorem Dr (F : Nat) (p1 p2 : Value) (f : Ct → Bool) (hcf : ∀ (args : Array Value) (w : World), (callFunc F args).run Tryz.prog w = .ok (.enter F args) w) (A : Option Addr) (n c : Nat) (l : List Ct) (w : World) (hS : dW bZ w A n c l)
  (hG:∀ x w',Below w.heap.size w w'→Calls Tryz.prog F #[.agg #[.int .i64 x.a,.int .i64 x.b,.int .i64 x.id,.int .i64 x.px,.int .i64 x.py,.int .i64 x.nx,.int .i64 x.ny,.int .i64 x.dep,.int .i64 x.push,.int .i64 x.sli],p1,p2] w' (dG (.bool (f x)) w')) :
  Calls Tryz.prog 171 #[.slice A n c,.func (.func F) #[] #[p1,p2]] w fun e w'=>(∃ r:Int,e = .returned (.int .i64 r)∧((r = -1∧∀ i (hi:i<l.length),f l[i]=false)∨∃ k:Nat,r=k∧∃ hk:k<l.length,f l[k]=true∧∀ i (hi:i<l.length),i<k→f l[i]=false))∧Below w.heap.size w w':=by
 have hn:=hS.len;subst hn;have HS:=hid hS;have HG:=hid hG;have hbig:=Nat.le_trans hS.cap hS.big;clear hS hG
 go_enter Tryz.func171,Tryz.ntmps171
 go_wp2
 go_loopw [8] (fun j wr=>∃ k:Nat,k≤l.length∧j = .int .i64 k∧(∀ i (hi:i<l.length),i<k→f l[i]=false)∧Below w.heap.size w wr) (fun j _=>l.length-(intOf j).toNat)
 case atStart=>exact ⟨0,Nat.zero_le _,rfl,fun i _ h=>absurd h (Nat.not_lt_zero i),Below.refl _ _⟩
 case round =>
  obtain ⟨i,hi,rfl,hno,hB⟩:=hrel;have HNO:=hid hno;clear hno;obtain ⟨wo,rfl⟩:∃ wo:World,wo=wr:=⟨_,rfl⟩
  by_cases hlt:i<l.length
  ·have hlt' : (i : Int) < (l.length : Int) := by omega
   have hwk:IntKind.i64.wrap ((i:Int)+1)=(i:Int)+1:=IntWalk.i64_in _ (by omega);obtain ⟨b,off,rfl,hC⟩:=(HS.out.below hB).at_ (by intro h;rw [h] at hlt;simp at hlt);obtain ⟨x,hx⟩:∃ x,x=l[i]:=⟨_,rfl⟩;obtain ⟨d0,d1,d2,d3,d4,d5,d6,d7,d8,d9⟩:=kr hC hlt hx;have hbl:=hC.lt;have HCL:=hid (HG.out x wo hB);have HX:Hid (f l[i]=f x):=by show _=_;rw [hx]
   generalize f x=fx at *
   clear hC hx
   go_wp2_with fail
   refine HCL.out.mono ?_;rintro e w5 ⟨rfl,hb5⟩;have hB5:=aj hb5 hB;clear hb5 HCL d0 d1 d2 d3 d4 d5 d6 d7 d8 d9 hbl hB
   cases fx with
   | true =>
    have HR:Hid ((∃ r:Int,(Ending.returned (.int .i64 (i:Int))) = .returned (.int .i64 r)∧((r = -1∧∀ i (hi:i<l.length),f l[i]=false)∨∃ k:Nat,r=k∧∃ hk:k<l.length,f l[k]=true∧∀ i (hi:i<l.length),i<k→f l[i]=false))∧Below w.heap.size w w5):=⟨⟨i,rfl,.inr ⟨i,rfl,hlt,HX.out,HNO.out⟩⟩,hB5⟩;clear HX HNO;go_wp2;refine bodyPost_ret (v:=.int .i64 i) (by simp [results,Tryz.results171,go_sem]) rfl HR.out
   | false =>
    have HN2:Hid (∀ j (hj:j<l.length),j<i+1→f l[j]=false):=fun j hj hji=>by
     rcases Nat.lt_or_ge j i with q | q
     ·exact HNO.out j hj q
     ·obtain rfl : j = i := by omega
      exact HX.out
    clear HX HNO;go_wp2;go_roundw
    case rel=>exact ⟨i+1,hlt,by go_num,HN2.out,hB5⟩
    case measure=>simp [intOf];omega
  ·have hie : i = l.length := by omega
   subst hie;have HR:Hid ((∃ r:Int,(Ending.returned (.int .i64 (-1))) = .returned (.int .i64 r)∧((r = -1∧∀ i (hi:i<l.length),f l[i]=false)∨∃ k:Nat,r=k∧∃ hk:k<l.length,f l[k]=true∧∀ i (hi:i<l.length),i<k→f l[i]=false))∧Below w.heap.size w wo):=⟨⟨-1,rfl,.inl ⟨rfl,fun i hi=>HNO.out i hi hi⟩⟩,hB⟩;clear HNO;go_wp2;refine bodyPost_ret (v:=.int .i64 (-1)) (by simp [results,Tryz.results171,go_sem]) rfl HR.out
theorem aJ.set_push {g i:Nat} {C:List Ct} {x:Ct} (h:aJ bZ w g 0 C) (hi:i<C.length) (hxi:C[i]=x) (v:Int):aJ bZ (w.setCell ⟨g,i*10+8,none⟩ (.int .i64 v)) g 0 (C.set i { x with push:=v }):=by
 refine ⟨by simp;exact h.lt,fun j hj k u hu=>?_⟩;have hlen:∀ x:Ct,(nP x).length=10:=fun _=>rfl
 have hj':j<C.length:=by simpa using hj
 by_cases e:j=i
 ·subst e;have hu:(nP { x with push:=v })[k]? = some u:=by have hu2:(nP (C.set j { x with push:=v })[j])[k]? = some u:=hu;rwa [List.getElem_set_self] at hu2
  show (w.setCell ⟨g,j*10+8,none⟩ (.int .i64 v)).cell? ⟨g,0+j*10+k,none⟩=some u;rw [Nat.zero_add]
  by_cases e2:k=8
  ·subst e2;have hu:some (Value.int .i64 v)=some u:=hu
   cases hu
   have h2:=h.at_ j hj' 8 _ (show (nP C[j])[8]? = some (.int .i64 C[j].push) from rfl);rw [Nat.zero_add] at h2;exact dH h2
  ·have hu2:(nP C[j])[k]? = some u:=by
    rw [hxi]
    have hk:k<10:=by
     rcases Nat.lt_or_ge k 10 with q | q
     ·exact q
     ·rw [List.getElem?_eq_none (by rw [hlen];exact q)] at hu;cases hu
    rw [← hu]
    match k,hk,e2 with
    | 0,_,_ | 1,_,_ | 2,_,_ | 3,_,_ | 4,_,_ | 5,_,_ | 6,_,_ | 7,_,_ | 9,_,_=>rfl
    | 8,_,e2=>exact (e2 rfl).elim
   have h2:w.cell? ⟨g,0+j*10+k,none⟩=some u:=h.at_ j hj' k u hu2;rw [Nat.zero_add] at h2;exact aW h2 (by omega)
 ·have hu : (nP C[j])[k]? = some u := by have hu2 : (nP (C.set i { x with push := v })[j])[k]? = some u := hu; rwa [List.getElem_set_ne (by omega)] at hu2
  have hk:k<10:=by
   rcases Nat.lt_or_ge k 10 with q | q
   ·exact q
   ·rw [List.getElem?_eq_none (by rw [hlen];exact q)] at hu;cases hu
  have h2:w.cell? ⟨g,0+j*10+k,none⟩=some u:=h.at_ j hj' k u hu;show (w.setCell ⟨g,i*10+8,none⟩ (.int .i64 v)).cell? ⟨g,0+j*10+k,none⟩=some u;exact aW h2 (by omega)
theorem aJ.set_sli {g i:Nat} {C:List Ct} {x:Ct} (h:aJ bZ w g 0 C) (hi:i<C.length) (hxi:C[i]=x) (v:Int):aJ bZ (w.setCell ⟨g,i*10+9,none⟩ (.int .i64 v)) g 0 (C.set i { x with sli:=v }):=by
 refine ⟨by simp;exact h.lt,fun j hj k u hu=>?_⟩;have hlen:∀ x:Ct,(nP x).length=10:=fun _=>rfl
 have hj':j<C.length:=by simpa using hj
 by_cases e:j=i
 ·subst e;have hu:(nP { x with sli:=v })[k]? = some u:=by have hu2:(nP (C.set j { x with sli:=v })[j])[k]? = some u:=hu;rwa [List.getElem_set_self] at hu2
  show (w.setCell ⟨g,j*10+9,none⟩ (.int .i64 v)).cell? ⟨g,0+j*10+k,none⟩=some u;rw [Nat.zero_add]
  by_cases e2:k=9
  ·subst e2;have hu:some (Value.int .i64 v)=some u:=hu
   cases hu
   have h2:=h.at_ j hj' 9 _ (show (nP C[j])[9]? = some (.int .i64 C[j].sli) from rfl);rw [Nat.zero_add] at h2;exact dH h2
  ·have hu2:(nP C[j])[k]? = some u:=by
    rw [hxi]
    have hk:k<10:=by
     rcases Nat.lt_or_ge k 10 with q | q
     ·exact q
     ·rw [List.getElem?_eq_none (by rw [hlen];exact q)] at hu;cases hu
    rw [← hu]
    match k,hk,e2 with
    | 0,_,_ | 1,_,_ | 2,_,_ | 3,_,_ | 4,_,_ | 5,_,_ | 6,_,_ | 7,_,_ | 8,_,_=>rfl
    | 9,_,e2=>exact (e2 rfl).elim
   have h2:w.cell? ⟨g,0+j*10+k,none⟩=some u:=h.at_ j hj' k u hu2;rw [Nat.zero_add] at h2;exact aW h2 (by omega)
 ·have hu : (nP C[j])[k]? = some u := by have hu2 : (nP (C.set i { x with sli := v })[j])[k]? = some u := hu; rwa [List.getElem_set_ne (by omega)] at hu2
  have hk:k<10:=by
   rcases Nat.lt_or_ge k 10 with q | q
   ·exact q
   ·rw [List.getElem?_eq_none (by rw [hlen];exact q)] at hu;cases hu
  have h2:w.cell? ⟨g,0+j*10+k,none⟩=some u:=h.at_ j hj' k u hu;show (w.setCell ⟨g,i*10+9,none⟩ (.int .i64 v)).cell? ⟨g,0+j*10+k,none⟩=some u;exact aW h2 (by omega)
theorem qy {g i:Nat} {l:List Ct} {x:Ct} (h:aJ bZ w g 0 l) (hk:i<l.length) (hx:x=l[i]):w.cell? ⟨g,i*10,none⟩=some (.int .i64 x.a)∧w.cell? ⟨g,i*10+1,none⟩=some (.int .i64 x.b)∧w.cell? ⟨g,i*10+2,none⟩=some (.int .i64 x.id)∧w.cell? ⟨g,i*10+3,none⟩=some (.int .i64 x.px)∧w.cell? ⟨g,i*10+4,none⟩=some (.int .i64 x.py)∧w.cell? ⟨g,i*10+5,none⟩=some (.int .i64 x.nx)∧w.cell? ⟨g,i*10+6,none⟩=some (.int .i64 x.ny)∧w.cell? ⟨g,i*10+7,none⟩=some (.int .i64 x.dep)∧w.cell? ⟨g,i*10+8,none⟩=some (.int .i64 x.push)∧w.cell? ⟨g,i*10+9,none⟩=some (.int .i64 x.sli):=by
 have h2:=kr h hk hx;rw [Nat.zero_add] at h2;exact h2

structure Cy (w0 : World) (gO gq n cap : Nat) (L : List Ct) (w : World) : Prop where
 co:w.cell? ⟨gO,0,none⟩=some (.slice (some ⟨gq,0,none⟩) n cap)
 cl:aJ bZ w gq 0 L
 cf:∀ j,w.frozen? ⟨gq,j,none⟩=false
 bel:Below w0.heap.size w0 w
 lo:w0.heap.size≤gq∧gq<gO
 ln:L.length=n
theorem Cy.keep {gO gq n cap:Nat} {L:List Ct} {w w':World} (hb:Below w.heap.size w w') (h:Cy w0 gO gq n cap L w):Cy w0 gO gq n cap L w' :=
 ⟨keepCell hb h.co,h.cl.below hb,fun j=>((dF hb).2 _ _ h.cl.lt).trans (h.cf j),aj hb h.bel,h.lo,h.ln⟩
theorem Cy.set2 {gO gq n cap k:Nat} {L:List Ct} {w:World} {x:Ct} (h:Cy w0 gO gq n cap L w) (hk:k<L.length) (hx:L[k]=x) (p s:Int) :
  Cy w0 gO gq n cap (L.set k { x with push:=p,sli:=s }) ((w.setCell ⟨gq,k*10+8,none⟩ (.int .i64 p)).setCell ⟨gq,k*10+9,none⟩ (.int .i64 s)):=by
 obtain ⟨l1,l2⟩:=h.lo;have h1:=aJ.set_push h.cl hk hx p;have h2:=aJ.set_sli (x:={ x with push:=p }) h1 (by simpa using hk) (by simp) s;rw [List.set_set] at h2;refine ⟨aY (by omega) (aY (by omega) h.co),h2,fun j=>by rw [World.frozen?_setCell,World.frozen?_setCell];exact h.cf j,?_,h.lo,by simpa using h.ln⟩;exact (h.bel.setCell (p:=⟨gq,_,none⟩) l1 _).setCell (p:=⟨gq,_,none⟩) l1 _
theorem Na {old F:List Ct} {k:Nat} (hk:k<F.length):(iR old (F.take k) ++ F.drop k).length=F.length∧(iR old (F.take k) ++ F.drop k)[k]? = some F[k]:=by
 have hl:(iR old (F.take k)).length=k:=by unfold iR;rw [List.length_map,List.length_take];omega
 refine ⟨by rw [List.length_append,hl,List.length_drop];omega,?_⟩;rw [List.getElem?_append_right (by omega),hl,Nat.sub_self,List.getElem?_drop,Nat.add_zero,List.getElem?_eq_getElem hk]
theorem IK {old F:List Ct} {k:Nat} (hk:k<F.length):(iR old (F.take k) ++ F.drop k).set k (vI old F[k])=iR old (F.take (k+1)) ++ F.drop (k+1):=by
 have hl:(iR old (F.take k)).length=k:=by unfold iR;rw [List.length_map,List.length_take];omega
 rw [List.set_append_right _ _ (by omega),hl,Nat.sub_self,List.drop_eq_getElem_cons hk,List.set_cons_zero];unfold iR;rw [List.take_succ_eq_append_getElem hk,List.map_append,List.append_assoc];rfl

def tV (l:List Ct) (w:World) (e:Ending) (w':World):Prop:=∃ A n c,e = .returned (.slice A n c)∧dW bZ w' A n c l∧Below w.heap.size w w'
theorem Cy.sl {gO gq n cap:Nat} {L:List Ct} {w:World} (h:Cy w0 gO gq n cap L w) (h1:n≤cap) (h2:cap≤maxLen):dW bZ w (some ⟨gq,0,none⟩) n cap L:=⟨h.ln.symm,h1,h2,fun _=>⟨gq,0,rfl,h.cl⟩⟩
theorem Df (A B:Option Addr) (m c m' c':Nat) (old F:List Ct) (w:World) (hO:dW bZ w A m c old) (hF:dW bZ w B m' c' F) (hl:F.length≤100000):Calls Tryz.prog 108 #[.slice A m c,.slice B m' c'] w (tV (iR old F) w):=by
 have HCL:=hid (mQ B m' c' F w hF hl);have HO:=hid hO;have hol:=hO.len;subst hol;have hbig:=hO.big;have hcap:=hO.cap;clear hO hF
 go_enter Tryz.func108,Tryz.ntmps108
 go_wp2_with fail
 refine HCL.out.mono ?_;rintro e w1 ⟨s,rfl,hs,hb1⟩;clear HCL;obtain ⟨gO,hgO⟩:∃ g,g=w1.heap.size:=⟨_,rfl⟩
 rcases hs.form with ⟨rfl,h0⟩ | ⟨gq,cap,rfl,hB,hg,hn,hm,hf,hcl⟩
 ·have HR : Hid (tV (iR old F) w (.returned (.slice none 0 0)) (w1.alloc (.cells #[.slice none 0 0] 31))) := by rw [h0]; exact ⟨_, _, _, rfl, dW.nil _ _, hb1.alloc hb1.size _⟩
  clear hs h0 hgO;go_wp2
  go_loopw [12] (fun i wr=>i = .int .i64 0∧wr=(w1.alloc (.cells #[.slice none 0 0] 31))) (fun _ _=>0)
  case atStart=>exact ⟨rfl,rfl⟩
  case round =>
   obtain ⟨rfl,rfl⟩:=hrel;go_wp2;refine bodyPost_ret (v:=.slice none 0 0) (by simp [results,Tryz.results108,go_sem]) rfl HR.out
 obtain ⟨n,hn'⟩:∃ n,n=F.length:=⟨_,rfl⟩;obtain ⟨W,hW⟩:∃ W,W=w1.alloc (.cells #[.slice (some ⟨gq,0,none⟩) n cap] 31):=⟨_,rfl⟩;have hBW:Below w1.heap.size w1 W:=by rw [hW];go_grown
 have HCY0:Hid (Cy w gO gq n cap F W):=⟨by rw [hW,hgO];go_simp,aJ.below hBW hcl,fun j=>((dF hBW).2 _ _ hg).trans (hf j),aj hBW hb1,⟨hB,by rw [hgO];exact hg⟩,hn'.symm⟩;have hnc:n≤cap:=by rw [hn'];exact hn
 have hn0:n≤100000:=by rw [hn'];exact hl
 have hc0:=HCY0.out.co;rw [← hn'];clear hs hB hg hn hf hcl hBW hl;have HN:=hid hn';clear hn';go_wp2;rw [← hgO,← hW];clear hW hgO hc0
 go_loopw [12] (fun i wr=>∃ k:Nat,k≤n∧i = .int .i64 k∧Cy w gO gq n cap (iR old (F.take k) ++ F.drop k) wr) (fun i _=>n-(intOf i).toNat)
 case atStart=>exact ⟨0,Nat.zero_le _,rfl,by simpa [iR] using HCY0.out⟩
 case round =>
  clear HCY0;obtain ⟨k,hk,rfl,hcy⟩:=hrel;obtain ⟨wo,rfl⟩:∃ wo:World,wo=wr:=⟨_,rfl⟩;have HCY:=hid hcy;clear hcy
  by_cases hlt:k<n
  ·have hkF : k < F.length := by rw [← HN.out]; exact hlt
   obtain ⟨x,hx⟩:∃ x,x=F[k]:=⟨_,rfl⟩;have HSU:Hid ((iR old (F.take k) ++ F.drop k).set k (vI old x)=iR old (F.take (k+1)) ++ F.drop (k+1)):=by show _=_;rw [hx];exact IK hkF
   obtain ⟨hm1,hm2⟩:=Na (old:=old) hkF;rw [← hx] at hm2;generalize iR old (F.take k) ++ F.drop k=L1 at *
   have hk1:k<L1.length:=by omega
   have HX:Hid (x=L1[k]):=by show _=_;rw [List.getElem?_eq_getElem hk1] at hm2;exact (Option.some.inj hm2).symm
   clear hx hm1 hm2 hkF;have hlt':(k:Int)<(n:Int):=by omega
   have hkw:IntKind.i64.wrap ((k:Int)+1)=(k:Int)+1:=IntWalk.i64_in _ (by omega);obtain ⟨gI,hgI⟩:∃ g,g=wo.heap.size:=⟨_,rfl⟩;obtain ⟨wj,hwj⟩:∃ wj,wj=wo.alloc (.cells #[.int .i64 k] 3):=⟨_,rfl⟩;have hoi:gO<gI:=by have:=lt_of_cell HCY.out.co;omega
   have hqo:gq<gO:=HCY.out.lo.2;replace HCY:Hid (Cy w gO gq n cap L1 wj):=by rw [hwj];exact HCY.out.keep Ba
   have i0:wj.cell? ⟨gI,0,none⟩=some (.int .i64 k):=by rw [hwj,hgI];go_simp
   obtain ⟨e0,e1,e2,e3,e4,e5,e6,e7,e8,e9⟩:=qy HCY.out.cl hk1 HX.out;have hcf:=HCY.out.cf
   go_upto_region 5 with fail
   rw [← hwj,← hgI];clear hwj hgI;refine wp_region_noPanic ?_;refine au (S:=(S3 (fun w'=>w'.cell? ⟨gO,0,none⟩=some (.slice (some ⟨gq,0,none⟩) n cap)∧w'.cell? ⟨gI,0,none⟩=some (.int .i64 k)∧aJ bZ w' gq 0 L1∧(∀ j,w'.frozen? ⟨gq,j,none⟩=false)) (fun w'=>w'.cell? ⟨gO,0,none⟩=some (.slice (some ⟨gq,0,none⟩) n cap)∧w'.cell? ⟨gI,0,none⟩=some (.int .i64 k)))) (T:=(fun j=>[0,0,0,0,0,0,1,0,0,2].getD j 0)) (by kernel_rfl) (iC ⟨HCY.out.co,i0,aJ.below (Below.refl _ _).drew HCY.out.cl,HCY.out.cf⟩) (fun hH=>?_);have hWr3:aH (S3 (fun w'=>w'.cell? ⟨gO,0,none⟩=some (.slice (some ⟨gq,0,none⟩) n cap)∧w'.cell? ⟨gI,0,none⟩=some (.int .i64 k)∧aJ bZ w' gq 0 L1∧(∀ j,w'.frozen? ⟨gq,j,none⟩=false)) (fun w'=>w'.cell? ⟨gO,0,none⟩=some (.slice (some ⟨gq,0,none⟩) n cap)∧w'.cell? ⟨gI,0,none⟩=some (.int .i64 k))):=fP (fun _ ⟨q0,q1,q2,q3⟩=>⟨q0,q1⟩);refine dn [(0,15),(1,16),(4,19),(5,20)] 6 0 0 (L':=?Lr3_1) hWr3 hH ?hyr3_1 ?_
   case hyr3_1=>((iterate 4 apply dA;rfl;kernel_rfl;intro w' hSw;replace hSw:=dR hSw;(try dsimp only at hSw);have q0:=hSw.1;have q1:=hSw.2.1;have q2:=hSw.2.2.1;have q3:=hSw.2.2.2;obtain ⟨qa2_0,qa2_1,qa2_2,qa2_3,qa2_4,qa2_5,qa2_6,qa2_7,qa2_8,qa2_9⟩:=qy (q2) hk1 HX.out;(try simp only [sB,sC]);go_simp;(try with_reducible rfl));exact dw)
   simp only [sB,sC];refine dn [(2,17),(3,18)] 4 1 0 (L':=?Lr3_5) hWr3 hH ?hyr3_5 ?_
   case hyr3_5=>((iterate 2 apply dA;rfl;kernel_rfl;intro w' hSw;replace hSw:=rV hSw;(try dsimp only at hSw);have q0:=hSw.1;have q1:=hSw.2;(try simp only [sB,sC]);go_simp;(try with_reducible rfl));exact dw)
   simp only [sB,sC];refine U1 6 1 rfl (fun K hK=>?_);go_simp;refine hK.out _ _ ?hsr3_7 (fun hH2=>?hrr3_7)
   case hsr3_7=>exact rF ⟨aY (w:=wj) (by omega) HCY.out.co,aY (w:=wj) (by omega) i0⟩
   clear hK K hH;have hH:=hH2;clear hH2
   try simp only [Act.put,sA,sB,sC]
   refine dn [(7,21),(8,22)] 1 1 1 (L':=?Lr3_8) hWr3 hH ?hyr3_8 ?_
   case hyr3_8=>((iterate 2 apply dA;rfl;kernel_rfl;intro w' hSw;clear hSw;(try simp only [sB,sC]);go_simp;(try with_reducible rfl));exact dw)
   simp only [sB,sC];refine U1 9 2 rfl (fun K hK=>?_);go_simp;refine hK.out _ _ ?hsr3_10 (fun hH2=>?hrr3_10)
   case hsr3_10=>exact vR
   clear hK K hH;have hH:=hH2;clear hH2
   try simp only [Act.put,sA,sB,sC]
   refine ak (by kernel_rfl) ?_ _ _;refine NoPanic.normal ?_;clear hWr3 hH;have HCY5:=hid ((Cy.set2 HCY.out hk1 HX.out.symm 0 0).keep (Below.refl _ _).drew);generalize hw5:((wj.setCell ⟨gq,k*10+8,none⟩ (.int .i64 0)).setCell ⟨gq,k*10+9,none⟩ (.int .i64 0)).drew=w5 at *
   have i5:w5.cell? ⟨gI,0,none⟩=some (.int .i64 k):=by rw [← hw5];exact aY (w:=wj.setCell ⟨gq,k*10+8,none⟩ (.int .i64 0)) (by omega) (aY (w:=wj) (by omega) i0)
   clear hw5 HCY i0 e0 e1 e2 e3 e4 e5 e6 e7 e8 e9 hcf;obtain ⟨y,hy⟩:∃ y:Ct,y={ x with push:=0,sli:=0 }:=⟨_,rfl⟩;have HY:=hid hy;obtain ⟨L2,hL2⟩:∃ L2,L2=L1.set k { x with push:=0,sli:=0 }:=⟨_,rfl⟩;rw [← hL2] at HCY5;have hk2:k<L2.length:=by rw [hL2];simpa using hk1
   have HX2:Hid (y=L2[k]):=by show _=_;rw [hy];simp [hL2]
   have HSU2:Hid (L2.set k (vI old x)=iR old (F.take (k+1)) ++ F.drop (k+1)):=by show _=_;rw [hL2,List.set_set];exact HSU.out
   clear hL2 hy HSU HX hk1;have hi5:=HCY5.out.bel
   have HI:=hid (Dr 172 (.pointer (some ⟨gO,0,none⟩)) (.pointer (some ⟨gI,0,none⟩)) (fun o=>zi o y == 0) Iy A old.length c old w5 (HO.out.below hi5) (fun o w' hb=>by
    have:=BG gO gI gq 0 cap k n L2 HCY5.out.ln hk2 o w' (keepCell hb HCY5.out.co) (keepCell hb i5) (HCY5.out.cl.below hb)
    rwa [← HX2.out] at this))
   clear hi5
   go_wp2_with fail
   refine HI.out.mono ?_;rintro e w6 ⟨⟨r,rfl,hr⟩,hb⟩;clear HI;have HCY6:=hid (HCY5.out.keep hb);replace i5:=keepCell hb i5;clear HCY5 hb
   have HSK:Hid (∀ o:Ct,qo x o=(zi o y == 0)):=fun o=>by
    have e1:qo x o=qo y o:=by rw [HY.out];rfl
    rw [e1,Bool.eq_iff_iff,← Iq];simp
   have HR:=hid hr;clear hr;have hr2:r = -1∨∃ j:Nat,r=j∧j<old.length:=by rcases HR.out with ⟨h,-⟩ | ⟨j,h,hj,-⟩;exact .inl h;exact .inr ⟨j,h,hj⟩
   rcases hr2 with rfl | ⟨j,rfl,hj⟩
   ·have HC:Hid (vI old x=y):=by
     show _=_
     rcases HR.out with ⟨-,h⟩ | ⟨j,h,-⟩
     ·rw [HY.out];exact Ho fun i hi=>by rw [HSK.out];exact h i hi
     ·omega
    have HF:Hid (L2=iR old (F.take (k+1)) ++ F.drop (k+1)):=by show _=_;rw [← HSU2.out,HC.out,HX2.out,List.set_getElem_self]
    clear HR HSK HC HSU2 HX2 hk2 HY;go_wp2;go_roundw
    case rel=>exact ⟨k+1,hlt,by go_num,by rw [← HF.out];exact HCY6.out⟩
    case measure=>simp [intOf];omega
   ·obtain ⟨o, ho⟩ : ∃ o, o = old[j] := ⟨_, rfl⟩;have HXO:=hid ho
    have HC:Hid (vI old x={ y with push:=o.push,sli:=o.sli }):=by
     show _=_
     rcases HR.out with ⟨h,-⟩ | ⟨j',h,hj',h1,h2⟩
     ·omega
     ·obtain rfl : j = j' := by omega
      rw [Nc hj (by rw [HSK.out];exact h1) (fun i hi hij=>by rw [HSK.out];exact h2 i hi hij),HY.out,ho]
    rw [HC.out] at HSU2;clear HR HSK HC ho;obtain ⟨bo,oo,hA,hCO⟩:=(HO.out.below HCY6.out.bel).at_ (by intro h;rw [h] at hj;simp at hj);subst hA;have HCO:=hid hCO;have HCY2:=HCY6;have i2:=i5;have hj':(j:Int)<(old.length:Int):=by omega
    have hj0:(0:Int)≤j:=by omega
    clear HCY6 i5 hCO;obtain ⟨e0,e1,e2,e3,e4,e5,e6,e7,e8,e9⟩:=qy HCY2.out.cl hk2 HX2.out;have hcf:=HCY2.out.cf
    go_upto_region 8 with fail
    refine wp_region_noPanic ?_;refine au (S:=(S3 (fun w'=>w'.cell? ⟨gO,0,none⟩=some (.slice (some ⟨gq,0,none⟩) n cap)∧w'.cell? ⟨gI,0,none⟩=some (.int .i64 k)∧aJ bZ w' gq 0 L2∧(∀ j,w'.frozen? ⟨gq,j,none⟩=false)∧aJ bZ w' bo oo old) (fun w'=>w'.cell? ⟨gO,0,none⟩=some (.slice (some ⟨gq,0,none⟩) n cap)∧w'.cell? ⟨gI,0,none⟩=some (.int .i64 k)))) (T:=(fun j=>[0,0,0,0,0,0,0,0,0,0,0,0,0,0,0,0,1,0,0,2].getD j 0)) (by kernel_rfl) (iC ⟨HCY2.out.co,i2,aJ.below (Below.refl _ _).drew HCY2.out.cl,HCY2.out.cf,aJ.below (Below.refl _ _).drew HCO.out⟩) (fun hH=>?_);have hWr4:aH (S3 (fun w'=>w'.cell? ⟨gO,0,none⟩=some (.slice (some ⟨gq,0,none⟩) n cap)∧w'.cell? ⟨gI,0,none⟩=some (.int .i64 k)∧aJ bZ w' gq 0 L2∧(∀ j,w'.frozen? ⟨gq,j,none⟩=false)∧aJ bZ w' bo oo old) (fun w'=>w'.cell? ⟨gO,0,none⟩=some (.slice (some ⟨gq,0,none⟩) n cap)∧w'.cell? ⟨gI,0,none⟩=some (.int .i64 k))):=fP (fun _ ⟨q0,q1,q2,q3,q4⟩=>⟨q0,q1⟩);refine dn [(0,28),(1,29),(4,32),(5,33),(6,34),(7,35),(8,36),(9,37),(10,38),(11,39),(12,40),(13,41),(14,42),(15,43)] 6 0 0 (L':=?Lr4_1) hWr4 hH ?hyr4_1 ?_
    case hyr4_1=>((iterate 14 apply dA;rfl;kernel_rfl;intro w' hSw;replace hSw:=dR hSw;(try dsimp only at hSw);have q0:=hSw.1;have q1:=hSw.2.1;have q2:=hSw.2.2.1;have q3:=hSw.2.2.2.1;have q4:=hSw.2.2.2.2;obtain ⟨qa2_0,qa2_1,qa2_2,qa2_3,qa2_4,qa2_5,qa2_6,qa2_7,qa2_8,qa2_9⟩:=qy (q2) hk2 HX2.out;obtain ⟨qa4_0,qa4_1,qa4_2,qa4_3,qa4_4,qa4_5,qa4_6,qa4_7,qa4_8,qa4_9⟩:=kr (q4) hj HXO.out;(try simp only [sB,sC]);go_simp;(try with_reducible rfl));exact dw)
    simp only [sB,sC];refine dn [(2,30),(3,31)] 4 1 0 (L':=?Lr4_15) hWr4 hH ?hyr4_15 ?_
    case hyr4_15=>((iterate 2 apply dA;rfl;kernel_rfl;intro w' hSw;replace hSw:=rV hSw;(try dsimp only at hSw);have q0:=hSw.1;have q1:=hSw.2;(try simp only [sB,sC]);go_simp;(try with_reducible rfl));exact dw)
    simp only [sB,sC];refine U1 16 1 rfl (fun K hK=>?_);go_simp;refine hK.out _ _ ?hsr4_17 (fun hH2=>?hrr4_17)
    case hsr4_17=>exact rF ⟨aY (w:=w6) (by omega) HCY2.out.co,aY (w:=w6) (by omega) i2⟩
    clear hK K hH;have hH:=hH2;clear hH2
    try simp only [Act.put,sA,sB,sC]
    refine dn [(17,44),(18,45)] 1 1 1 (L':=?Lr4_18) hWr4 hH ?hyr4_18 ?_
    case hyr4_18=>((iterate 2 apply dA;rfl;kernel_rfl;intro w' hSw;clear hSw;(try simp only [sB,sC]);go_simp;(try with_reducible rfl));exact dw)
    simp only [sB,sC];refine U1 19 2 rfl (fun K hK=>?_);go_simp;refine hK.out _ _ ?hsr4_20 (fun hH2=>?hrr4_20)
    case hsr4_20=>exact vR
    clear hK K hH;have hH:=hH2;clear hH2
    try simp only [Act.put,sA,sB,sC]
    refine ak (by kernel_rfl) ?_ _ _;refine NoPanic.normal ?_;clear hWr4 hH;have HCY8:=hid ((Cy.set2 HCY2.out hk2 HX2.out.symm o.push o.sli).keep (Below.refl _ _).drew);clear HCY2 i2 e0 e1 e2 e3 e4 e5 e6 e7 e8 e9 hcf;generalize ((w6.setCell ⟨gq,k*10+8,none⟩ (.int .i64 o.push)).setCell ⟨gq,k*10+9,none⟩ (.int .i64 o.sli)).drew=w8 at *
    go_wp2;go_roundw
    case rel=>exact ⟨k+1,hlt,by go_num,by rw [← HSU2.out];exact HCY8.out⟩
    case measure=>simp [intOf];omega
  ·have hkn : k = n := by omega
   subst hkn
   have HR:Hid (tV (iR old F) w (.returned (.slice (some ⟨gq,0,none⟩) k cap)) wo):=by
    have e:iR old (F.take k) ++ F.drop k=iR old F:=by rw [HN.out,List.take_length,List.drop_length,List.append_nil]
    have h:=HCY.out;rw [e] at h;exact ⟨_,_,_,rfl,h.sl hnc hm,h.bel⟩
   have hc1:=HCY.out.co;clear HCY;go_wp2;refine bodyPost_ret (v:=.slice (some ⟨gq,0,none⟩) k cap) (by simp [results,Tryz.results108,go_sem]) rfl HR.out
end
end Go.Proofs.YtokgmcomgflloaaGreat
