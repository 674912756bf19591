/- Parts of a proof: contracts and laws. -/
import Derived.Test.YtokgmcomgflloaaGreatQP27
import Derived.Test.YtokgmcomgflloaaGreatQP28
import Derived.Test.YtokgmcomgflloaaGreatQPLB
import Derived.Test.YtokgmcomgflloaaGreatQP14
import Derived.Test.YtokgmcomgflloaaGreatQP08
import Derived.Test.YtokgmcomgflloaaGreatQP07
import Derived.Test.YtokgmcomgflloaaGreatQP01
import Derived.Test.YtokgmcomgflloaaGreatQP09
import Derived.Test.YtokgmcomgflloaaGreatQP02
import Derived.Test.YtokgmcomgflloaaGreatQP03
set_option maxRecDepth 100000
set_option maxHeartbeats 16000000
namespace Go.Proofs.YtokgmcomgflloaaGreat
section
set_option linter.unusedVariables false
set_option linter.unusedSimpArgs false
open Go.RowKit
variable {w0 w w':World}
theorem ko {x:BE} (h:bG x.b x.l=0):aX [x]=0:=uo (by simp) (fun y hy=>by rw [List.mem_singleton.1 hy];exact h)
theorem JJ {x:BE} {gx gy st:Int} (h:bG x.b x.l=0) (hg:¬ jM gx gy st):jg [x] [] [] gx gy st=0:=by
 have hb:=ko h;have hc:bI [x] []=0:=by unfold bI;rw [if_neg (by simp [hb]),if_neg (by simp)];rfl
 have hj:dK [x] []=0:=by unfold dK;rw [if_neg (by simp [hb]),if_neg (by simp)];rfl
 unfold jg;rw [if_neg (by simp [hc]),if_neg (by simp [hj]),if_neg (by decide),if_neg hg]
theorem zT (b:Bx):dM [b]=[]:=List.eq_nil_iff_forall_not_mem.2 fun p hp=>by
 have:=kJ.1 hp;simp at this;omega
theorem vI {L:List BE} {y:Bd} {l:List V} (h:L.map dw=[(y,l)]):∃ z:BE,L=[z]∧z.b=y∧z.l=l:=by
 match L,h with
 | [z],h =>
  simp only [List.map_cons,List.map_nil,List.cons.injEq,and_true] at h;exact ⟨z,rfl,congrArg Prod.fst h,congrArg Prod.snd h⟩
 | [],h=>cases h
 | a :: b :: r,h=>cases h
theorem MV {x:BE} {f:Nat→Nat} (h:x.b.asleep=false):lY [x] f=[x]:=by
 unfold lY N9;simp [h]
theorem zZ {w : World} {A Aj Ac : Option Addr} {c nj cj nc cc : Nat} (x : BE) (gx gy st : Int) (y : Bd) (hS : kM w A 1 c [x]) (hJ : dN kF w Aj nj cj []) (hC : dN iC w Ac nc cc [])
  (hE:bG x.b x.l=0) (hg:¬ jM gx gy st) (ha:x.b.asleep=false) (hy:(kW gx gy st x).b=y) (hyE:bG y x.l=0) (hyc:0≤y.calm∧y.calm≤1000) (hym:0≤y.mass) :
  Calls Tryz.prog 13 #[.agg #[.slice A 1 c,.slice Aj nj cj,.slice Ac nc cc,.int .i64 gx,.int .i64 gy,.int .i64 st]] w (vL [(moveB y x.l (bH st 65536),x.l)] id [] [] gx gy st w):=by
 have hst:1≤st∧st≤65536:=by unfold jM at hg;omega
 have hx3:x.l≠[]:=fun e=>by rw [e] at hE;exact absurd (fA hE).1 (by decide)
 have hx8:x.l.length≤8:=(aU (jk (fA hE).1)).1
 have hfv:((lY [x] id).map (kW gx gy st)).map dw=[(y,x.l)]:=by
  rw [MV ha];show [dw (kW gx gy st x)]=_;unfold dw;rw [hy,(GN gx gy st x).2]
 have hm := CS hS hJ hC gx gy st (JJ hE hg) (by omega) [] [] id rfl [(y, x.l)] [(y, x.l)] [65536] (fun z hz => by cases hz)
  (fun w' h1 h2 h3=>yX h1 h2 h3 gx gy st rfl rfl)
  (fun w' A' c' Ak nk ck h1 h2 h3=>uV h1 h2 h3 (fun z hz=>by cases hz) (fun z hz=>by cases hz) (by omega) rfl rfl)
  (fun w' h1 h2=>AB A Ac 1 c nc cc [x] [] w' h1 h2 (ko hE) (by unfold iU;rw [show ([x]:List BE).map bxB=[bxB x] from rfl,zT];rfl))
  (fun w' A' n' c' L1 hs hm hj=>by
   rw [hfv] at hm;have h:=DV A' Aj n' c' nj cj L1 [] st 8 w' hs hj rfl;obtain ⟨z,rfl,hz1,hz2⟩:=vI hm
   have he:yT [z] [] st 8=0:=by
    have hj:dK [z] []=0:=by unfold dK;rw [ko (by rw [hz1,hz2];exact hyE)];rfl
    unfold yT;rw [if_neg (by simp [hj]),if_neg (by omega)]
   have hq:Gf [z] [] st 8=[(y,x.l)]:=by unfold Gf;rw [if_pos he,hm];rfl
   rwa [he,hq] at h)
  (fun w' A' n' c' L2 B m d hs hm hk=>by
   have h:=Ez A' B n' c' m d L2 [] st 8 w' hs hk rfl;obtain ⟨z,rfl,hz1,hz2⟩:=vI hm
   have he:pX [z] [] st 8=0:=by
    have hc:bI [z] []=0:=by unfold bI;rw [ko (by rw [hz1,hz2];exact hyE)];rfl
    unfold pX;rw [if_neg (by simp [hc]),if_neg (by omega)]
   have hq:uF [z] [] st 8=([(y,x.l)],[]):=by unfold uF;rw [if_pos he,hm];exact xu _ _ _
   rwa [he,hq] at h)
  (fun w' A' n' c' L3 hs hm=>by
   obtain ⟨z,rfl,hz1,hz2⟩:=vI hm;have hn:n'=1:=hs.sl.len;subst hn
   have h := Br A' 1 c' [z] st w' hs (by omega) (fun q hq bx off e => by rw [List.mem_singleton.1 hq] at e; exact pY (hs.co z (List.mem_singleton.2 rfl)) (by rw [hz2]; exact hx3) bx off e) (fun q hq => by rw [List.mem_singleton.1 hq, hz2]; omega)
    (fun p hp=>by rw [show (([z]:List BE).map dw).map (swB st)=[swB st (dw z)] from rfl,zT] at hp;cases hp)
   refine h.mono ?_;rintro e w2 ⟨gs,rfl,h1,-,h2,-,h3⟩;refine ⟨gs,rfl,h1,fun j hj=>?_,h3⟩;have hj0:j=0:=by simpa using hj
   subst hj0
   exact h2 0 (by omega))
  rfl rfl (fun q hq=>by rw [List.mem_singleton.1 hq];exact ⟨hx3,by show x.l.length≤1000;omega,hym,hyc⟩)
 exact hm
def LA (b:Bd) (l:List V) (w:World) (e:Ending) (w':World):Prop:=∃ A n c,e = .returned (gH b A n c)∧Sl w' A n c l∧(∀ bx off,A=some ⟨bx,off,none⟩→w.heap.size≤bx)∧Below w.heap.size w w'
theorem SS:¬ jM 0 (-655360) 1024:=by decide

def sumTo (f : Nat → Int) : Nat → Int
 | 0=>0
 | k+1=>sumTo f k+f k
theorem wC {f:Nat→Int} {B:Int} (k:Nat) (h:∀ j,j<k → -B≤f j∧f j≤B) : -(B*k)≤sumTo f k∧sumTo f k≤B*k:=by
 induction k with
 | zero=>simp [sumTo]
 | succ k ih =>
  have h1:=ih (fun j hj=>h j (by omega));have h2:=h k (by omega);have e:B*((k+1:Nat):Int)=B*k+B:=by rw [Int.natCast_add];grind
  simp only [sumTo];rw [e];omega


def nx (l:List V) (i:Nat):Nat:=(i+1) % l.length
def eZ (a b c d:Int):Int:=a*d-b*c
def pz (l:List V) (i:Nat):Int:=eZ (px l i) (py l i) (px l (nx l i)) (py l (nx l i))
def nN (l:List V) (i:Nat):Int:=(px l i+px l (nx l i))*pz l i
def Cm (l:List V) (i:Nat):Int:=(py l i+py l (nx l i))*pz l i
def pI (l:List V):Int:=sumTo (nN l) l.length
def oZ (l:List V):Int:=sumTo (Cm l) l.length


def tC (l:List V):V:=(bU (pI l) (3*jo l),bU (oZ l) (3*jo l))

def O7 (l:List V) (i:Nat):Int:=px l i*px l i+px l i*px l (nx l i)+px l (nx l i)*px l (nx l i)+py l i*py l i+py l i*py l (nx l i)+py l (nx l i)*py l (nx l i)
def wS (l:List V) (i:Nat):Int:=pz l i*O7 l i

def Pv (l:List V) (c:V):Int:=bU (sumTo (wS (yt l (-c.1) (-c.2))) l.length) 51539607552
def qV (l:List V) (d:Int):Int:=bU (jo l*d) 8589934592
def qY (l:List V) (d:Int):Int:=bU (Pv l (tC l)*d) 4294967296
structure Wd (w : World) (g : Nat) (z : Int) : Prop where
 c0:w.cell? ⟨g,0,none⟩=some (.int .i64 (lV z))
 c1:w.cell? ⟨g,1,none⟩=some (.int .u64 (iZ z))
 f0:w.frozen? ⟨g,0,none⟩=false
 f1:w.frozen? ⟨g,1,none⟩=false
theorem Wd.lt {g:Nat} {z:Int} (h:Wd w g z):g<w.heap.size:=lt_of_cell h.c0
theorem iW {g:Nat} {z:Int} (hb:Below w.heap.size w w') (h:Wd w g z):Wd w' g z :=
 ⟨keepCell hb h.c0,keepCell hb h.c1,((cO hb).2 _ _ h.lt).trans h.f0,((cO hb).2 _ _ h.lt).trans h.f1⟩
theorem Wd.drew {g:Nat} {z:Int} (h:Wd w g z):Wd w.drew g z:=⟨h.c0,h.c1,h.f0,h.f1⟩
theorem Wd.alloc {g:Nat} {z:Int} (h:Wd w g z) (o:Obj):Wd (w.alloc o) g z:=iW Ba h
theorem Wd.far2 {g b:Nat} {z:Int} {v0 v1:Value} (h:Wd w g z) (hb:b≠g):Wd ((w.setCell ⟨b,0,none⟩ v0).setCell ⟨b,1,none⟩ v1) g z :=
 ⟨Go.Proofs.YtokgmcomgflloaaGreat.far2 hb h.c0,Go.Proofs.YtokgmcomgflloaaGreat.far2 hb h.c1,by rw [World.frozen?_setCell,World.frozen?_setCell];exact h.f0,by rw [World.frozen?_setCell,World.frozen?_setCell];exact h.f1⟩
theorem Wd.sets2 {g:Nat} {y z:Int} (h:Wd w g y):Wd ((w.setCell ⟨g,0,none⟩ (.int .i64 (lV z))).setCell ⟨g,1,none⟩ (.int .u64 (iZ z))) g z:=by
 have a:=h.c0;have b:=h.c1;have c:=h.f0;have d:=h.f1;have e:=h.lt;exact ⟨by go_simp,by go_simp,by go_simp,by go_simp⟩
theorem RP:lV 0=0:=by unfold lV wrap64;omega
theorem Q9:iZ 0=0:=by unfold iZ;omega
theorem Wd.zero {g:Nat} (h0:w.cell? ⟨g,0,none⟩=some (.int .i64 0)) (h1:w.cell? ⟨g,1,none⟩=some (.int .u64 0)) (f0:w.frozen? ⟨g,0,none⟩=false) (f1:w.frozen? ⟨g,1,none⟩=false):Wd w g 0 :=
 ⟨by rw [RP];exact h0,by rw [Q9];exact h1,f0,f1⟩
theorem wV (a b c d:Int) (w:World) :
  Calls Tryz.prog 96 #[cZ a b,cZ c d] w (dS (.int .i64 (wrap64 (wrap64 (a*d)-wrap64 (b*c)))) w):=by
 go_enter Tryz.func96,Tryz.ntmps96
 go_wp2
 go_returns
 exact ⟨rfl,by go_grown⟩
theorem AP {a b c d:Int} (h1:aL 65536000 a b=true) (h2:aL 65536000 c d=true):wrap64 (wrap64 (a*d)-wrap64 (b*c))=eZ a b c d ∧ -8589934592000000≤eZ a b c d∧eZ a b c d≤8589934592000000:=by
 obtain ⟨_,_,_,_⟩:=aA.1 h1;obtain ⟨_,_,_,_⟩:=aA.1 h2;have m1:=bZ (x:=a) (y:=d) (M:=65536000) (N:=65536000) (by omega) (by omega) (by omega) (by omega);have m2:=bZ (x:=b) (y:=c) (M:=65536000) (N:=65536000) (by omega) (by omega) (by omega) (by omega);unfold eZ;generalize a*d=X at *
 generalize b*c=Y at *
 rw [fI (n:=X) (by omega) (by omega),fI (n:=Y) (by omega) (by omega),fI (by omega) (by omega)];omega
theorem Ap (a b c d:Int) (h1:aL 65536000 a b=true) (h2:aL 65536000 c d=true) (w:World) :
  Calls Tryz.prog 96 #[cZ a b,cZ c d] w (dS (.int .i64 (eZ a b c d)) w):=by
 have h:=wV a b c d w;rwa [(AP h1 h2).1] at h
theorem qR (a b n:Int) (ha:i64 a) (hb:i64 b) (hn:i64 n) (w:World) :
  Calls Tryz.prog 98 #[.int .i64 a,.int .i64 b,.int .i64 n] w (dS (.int .i64 (bU (a*b) n)) w):=by
 have hm:=bZ (x:=a) (y:=b) (M:=9223372036854775808) (N:=9223372036854775808) (by unfold i64 at ha;omega) (by unfold i64 at ha;omega) (by unfold i64 at hb;omega) (by unfold i64 at hb;omega);have HM:=hid hm;have HA:=hid ha;have HB:=hid hb;have HN:=hid hn;clear hm ha hb hn
 go_enter Tryz.func98,Tryz.ntmps98
 go_wp2_with fail
 refine (gI a b HA.out.1 HA.out.2 HB.out.1 HB.out.2 _).mono ?_;rintro e w1 ⟨rfl,hb1⟩
 go_wp2_with fail
 refine (mQ (a*b) n (by have:=HM.out;omega) (by have:=HM.out;omega) HN.out.1 HN.out.2 _).mono ?_;rintro e w2 ⟨rfl,hb2⟩;go_wp2
 go_returns
 exact aH rfl (aj hb2 hb1)
theorem yI (A : Option Addr) (n c : Nat) (l : List V) (z : Int) (w : World) (hS : Sl w A n c l) (hw : aF 65536000 l = true) (h8 : l.length ≤ 8) (h0 : 3 ≤ l.length) (hz : -1000000000000000000 ≤ z ∧ z ≤ 1000000000000000000)
  (hX : -9223372036854775808000000000≤pI l∧pI l≤9223372036854775808000000000) (hY : -9223372036854775808000000000≤oZ l∧oZ l≤9223372036854775808000000000) :
  Calls Tryz.prog 93 #[.slice A n c,.int .i64 z] w (dS (cZ (bU (pI l) (3*z)) (bU (oZ l) (3*z))) w):=by
 obtain ⟨b,off,rfl,hC⟩:=hS.at_ (by intro h;subst h;simp at h0);have hn:=hS.len;subst hn;have hb2:=hC.lt;have hcap:=hS.cap;have HC:=hid hC;have HW:=hid hw;have HXB:=hid hX;have HYB:=hid hY;clear hS hC hw hX hY
 go_enter Tryz.func93,Tryz.ntmps93
 go_wp2
 go_loopw [17] (fun i wr=>∃ k:Nat,k≤l.length∧i = .int .i64 k∧Wd wr (w.heap.size+1) (sumTo (nN l) k)∧Wd wr (w.heap.size+2) (sumTo (Cm l) k)∧There wr w.heap.size 2∧Below w.heap.size w wr) (fun i _=>l.length-(intOf i).toNat)
 case atStart =>
  refine ⟨0,by omega,rfl,Wd.zero (by go_simp) (by go_simp) (by go_simp) (by go_simp),Wd.zero (by go_simp) (by go_simp) (by go_simp) (by go_simp),fun j hj=>?_,by go_grown⟩
  match j,hj with
  | 0,_ | 1,_=>exact ⟨⟨_,by go_simp;rfl⟩,by go_simp⟩
 case round =>
  obtain ⟨k,hk,rfl,hX,hY,hT,hB⟩:=hrel;obtain ⟨wo,rfl⟩:∃ wo:World,wo=wr:=⟨_,rfl⟩
  by_cases hlt:k<l.length
  ·obtain ⟨X, hXe⟩ : ∃ X, X = sumTo (nN l) k := ⟨_, rfl⟩;obtain ⟨Y,hYe⟩:∃ Y,Y=sumTo (Cm l) k:=⟨_,rfl⟩;obtain ⟨j,hje⟩:∃ j,j=(k+1) % l.length:=⟨_,rfl⟩;have hj:j<l.length:=by rw [hje];exact Nat.mod_lt _ (by omega)
   have hji:((k:Int)+1) % (l.length:Int)=(j:Int):=by rw [hje];simp
   have hsX:Hid (sumTo (nN l) (k+1)=X+(px l k+px l j)*eZ (px l k) (py l k) (px l j) (py l j)):=by rw [hXe,hje];rfl
   have hsY:Hid (sumTo (Cm l) (k+1)=Y+(py l k+py l j)*eZ (px l k) (py l k) (px l j) (py l j)):=by rw [hYe,hje];rfl
   rw [← hXe] at hX;rw [← hYe] at hY;obtain ⟨q1,q2,q3,q4⟩:=aA.1 (aD HW.out hlt);obtain ⟨q5,q6,q7,q8⟩:=aA.1 (aD HW.out hj);have hcb:=(AP (aD HW.out hlt) (aD HW.out hj)).2;have hw1:=hid (aD HW.out hlt);have hw2:=hid (aD HW.out hj);have hCo:=HC.out.below hB;have hx:=hCo.x k hlt;have hy:=hCo.y k hlt;have hx2:=hCo.x j hj;have hy2:=hCo.y j hj;have hbo:=hCo.lt;have hl0:=hX.lt;have hl1:=hY.lt;have HX0:=hid hX;have HY0:=hid hY;have HT0:=hid hT;clear hCo hX hY hT hXe hYe hje
   go_wp2_with fail
   refine (Ap _ _ _ _ hw1.out hw2.out _).mono ?_;rintro e w1 ⟨rfl,hb1⟩;have g0:w1.cell? ⟨wo.heap.size,0,none⟩=some (.int .i64 (px l k)):=keepCell hb1 (by go_simp);have g1:w1.cell? ⟨wo.heap.size,1,none⟩=some (.int .i64 (py l k)):=keepCell hb1 (by go_simp);have g2:w1.cell? ⟨wo.heap.size+1,0,none⟩=some (.int .i64 (px l j)):=keepCell hb1 (by go_simp);have g3:w1.cell? ⟨wo.heap.size+1,1,none⟩=some (.int .i64 (py l j)):=keepCell hb1 (by go_simp);have HX:=hid (iW hb1 ((HX0.out.alloc _).alloc _)).drew;have HY:=hid (iW hb1 ((HY0.out.alloc _).alloc _)).drew;have hT1:There w1 w.heap.size 2:=There.below hb1 ((There.below Ba (There.below Ba HT0.out)));have HT:Hid (There w1.drew w.heap.size 2):=hT1;clear hT1;have hB1:Below w.heap.size w w1:=((hB.alloc hB.size _).alloc (by have:=hB.size;simp;omega) _).trans (hb1.mono (by have:=hB.size;simp;omega));obtain ⟨t,ht⟩:∃ t,t=eZ (px l k) (py l k) (px l j) (py l j):=⟨_,rfl⟩;rw [← ht] at hcb ⊢;have HTt:=hid ht;clear ht hb1 hx hy hx2 hy2;have w1x:IntKind.i64.wrap (px l k+px l j)=px l k+px l j:=IntWalk.i64_in _ (by omega);have w1y:IntKind.i64.wrap (py l k+py l j)=py l k+py l j:=IntWalk.i64_in _ (by omega)
   go_wp2_with fail
   refine wp_region_noPanic ?_;refine EG (S:=(S2 (fun w'=>Wd w' (w.heap.size+1) (X)∧Wd w' (w.heap.size+2) (Y)∧w'.cell? ⟨wo.heap.size,0,none⟩=some (.int .i64 (px l k))∧w'.cell? ⟨wo.heap.size,1,none⟩=some (.int .i64 (py l k))∧w'.cell? ⟨wo.heap.size+1,0,none⟩=some (.int .i64 (px l j))∧w'.cell? ⟨wo.heap.size+1,1,none⟩=some (.int .i64 (py l j))∧There w' (w.heap.size) 2∧Below w.heap.size w w'))) (T:=(fun j=>[0,0,0,0,0,0,0,0,0,0,0,0,0,0,0,0,0,0,1,1].getD j 0)) (by kernel_rfl) (aK ⟨HX.out,HY.out,by go_simp,by go_simp,by go_simp,by go_simp,HT.out,by go_grown⟩) (fun hH=>?_);have hWr1:aG (S2 (fun w'=>Wd w' (w.heap.size+1) (X)∧Wd w' (w.heap.size+2) (Y)∧w'.cell? ⟨wo.heap.size,0,none⟩=some (.int .i64 (px l k))∧w'.cell? ⟨wo.heap.size,1,none⟩=some (.int .i64 (py l k))∧w'.cell? ⟨wo.heap.size+1,0,none⟩=some (.int .i64 (px l j))∧w'.cell? ⟨wo.heap.size+1,1,none⟩=some (.int .i64 (py l j))∧There w' (w.heap.size) 2∧Below w.heap.size w w')):=aI _;refine jB 0 33 19 0 (v:=?vr1_1) rfl (by kernel_rfl) (by kernel_rfl) hWr1 (by kernel_rfl) (by kernel_rfl) (by kernel_rfl) (by kernel_rfl) (by kernel_rfl) (by kernel_rfl) (fun _ _ _ _ h=>h) (by kernel_rfl) ?hyr1_1 hH ?_
   case hyr1_1=>(intro w' hSw;replace hSw:=aB hSw;(try dsimp only at hSw);have q0:=hSw.1;have q1:=hSw.2.1;have q2:=hSw.2.2.1;have q3:=hSw.2.2.2.1;have q4:=hSw.2.2.2.2.1;have q5:=hSw.2.2.2.2.2.1;have q6:=hSw.2.2.2.2.2.2.1;have q7:=hSw.2.2.2.2.2.2.2;obtain ⟨qa0_0,qa0_1,qa0_2,qa0_3⟩:=id q0;obtain ⟨qa1_0,qa1_1,qa1_2,qa1_3⟩:=id q1;go_simp;try (with_reducible rfl))
   simp only [sB,sC];refine jB 1 34 18 0 (v:=?vr1_2) rfl (by kernel_rfl) (by kernel_rfl) hWr1 (by kernel_rfl) (by kernel_rfl) (by kernel_rfl) (by kernel_rfl) (by kernel_rfl) (by kernel_rfl) (fun _ _ _ _ h=>h) (by kernel_rfl) ?hyr1_2 hH ?_
   case hyr1_2=>(intro w' hSw;clear hSw;go_simp;try (with_reducible rfl))
   simp only [sB,sC];refine jB 2 35 17 0 (v:=?vr1_3) rfl (by kernel_rfl) (by kernel_rfl) hWr1 (by kernel_rfl) (by kernel_rfl) (by kernel_rfl) (by kernel_rfl) (by kernel_rfl) (by kernel_rfl) (fun _ _ _ _ h=>h) (by kernel_rfl) ?hyr1_3 hH ?_
   case hyr1_3=>(intro w' hSw;replace hSw:=aB hSw;(try dsimp only at hSw);have q0:=hSw.1;have q1:=hSw.2.1;have q2:=hSw.2.2.1;have q3:=hSw.2.2.2.1;have q4:=hSw.2.2.2.2.1;have q5:=hSw.2.2.2.2.2.1;have q6:=hSw.2.2.2.2.2.2.1;have q7:=hSw.2.2.2.2.2.2.2;obtain ⟨qa0_0,qa0_1,qa0_2,qa0_3⟩:=id q0;obtain ⟨qa1_0,qa1_1,qa1_2,qa1_3⟩:=id q1;go_simp;try (with_reducible rfl))
   simp only [sB,sC];refine jB 3 36 16 0 (v:=?vr1_4) rfl (by kernel_rfl) (by kernel_rfl) hWr1 (by kernel_rfl) (by kernel_rfl) (by kernel_rfl) (by kernel_rfl) (by kernel_rfl) (by kernel_rfl) (fun _ _ _ _ h=>h) (by kernel_rfl) ?hyr1_4 hH ?_
   case hyr1_4=>(intro w' hSw;clear hSw;go_simp;try (with_reducible rfl))
   simp only [sB,sC];refine jB 4 37 15 0 (v:=?vr1_5) rfl (by kernel_rfl) (by kernel_rfl) hWr1 (by kernel_rfl) (by kernel_rfl) (by kernel_rfl) (by kernel_rfl) (by kernel_rfl) (by kernel_rfl) (fun _ _ _ _ h=>h) (by kernel_rfl) ?hyr1_5 hH ?_
   case hyr1_5=>(intro w' hSw;replace hSw:=aB hSw;(try dsimp only at hSw);have q0:=hSw.1;have q1:=hSw.2.1;have q2:=hSw.2.2.1;have q3:=hSw.2.2.2.1;have q4:=hSw.2.2.2.2.1;have q5:=hSw.2.2.2.2.2.1;have q6:=hSw.2.2.2.2.2.2.1;have q7:=hSw.2.2.2.2.2.2.2;obtain ⟨qa0_0,qa0_1,qa0_2,qa0_3⟩:=id q0;obtain ⟨qa1_0,qa1_1,qa1_2,qa1_3⟩:=id q1;go_simp;try (with_reducible rfl))
   simp only [sB,sC];refine jB 5 38 14 0 (v:=?vr1_6) rfl (by kernel_rfl) (by kernel_rfl) hWr1 (by kernel_rfl) (by kernel_rfl) (by kernel_rfl) (by kernel_rfl) (by kernel_rfl) (by kernel_rfl) (fun _ _ _ _ h=>h) (by kernel_rfl) ?hyr1_6 hH ?_
   case hyr1_6=>(intro w' hSw;clear hSw;go_simp;try (with_reducible rfl))
   simp only [sB,sC];refine jB 6 39 13 0 (v:=?vr1_7) rfl (by kernel_rfl) (by kernel_rfl) hWr1 (by kernel_rfl) (by kernel_rfl) (by kernel_rfl) (by kernel_rfl) (by kernel_rfl) (by kernel_rfl) (fun _ _ _ _ h=>h) (by kernel_rfl) ?hyr1_7 hH ?_
   case hyr1_7=>(intro w' hSw;clear hSw;go_simp;try (with_reducible rfl))
   simp only [sB,sC];refine jB 9 42 12 0 (v:=?vr1_8) rfl (by kernel_rfl) (by kernel_rfl) hWr1 (by kernel_rfl) (by kernel_rfl) (by kernel_rfl) (by kernel_rfl) (by kernel_rfl) (by kernel_rfl) (fun _ _ _ _ h=>h) (by kernel_rfl) ?hyr1_8 hH ?_
   case hyr1_8=>(intro w' hSw;replace hSw:=aB hSw;(try dsimp only at hSw);have q0:=hSw.1;have q1:=hSw.2.1;have q2:=hSw.2.2.1;have q3:=hSw.2.2.2.1;have q4:=hSw.2.2.2.2.1;have q5:=hSw.2.2.2.2.2.1;have q6:=hSw.2.2.2.2.2.2.1;have q7:=hSw.2.2.2.2.2.2.2;obtain ⟨qa0_0,qa0_1,qa0_2,qa0_3⟩:=id q0;obtain ⟨qa1_0,qa1_1,qa1_2,qa1_3⟩:=id q1;go_simp;try (with_reducible rfl))
   simp only [sB,sC];refine jB 10 43 11 0 (v:=?vr1_9) rfl (by kernel_rfl) (by kernel_rfl) hWr1 (by kernel_rfl) (by kernel_rfl) (by kernel_rfl) (by kernel_rfl) (by kernel_rfl) (by kernel_rfl) (fun _ _ _ _ h=>h) (by kernel_rfl) ?hyr1_9 hH ?_
   case hyr1_9=>(intro w' hSw;clear hSw;go_simp;try (with_reducible rfl))
   simp only [sB,sC];refine jB 11 44 10 0 (v:=?vr1_10) rfl (by kernel_rfl) (by kernel_rfl) hWr1 (by kernel_rfl) (by kernel_rfl) (by kernel_rfl) (by kernel_rfl) (by kernel_rfl) (by kernel_rfl) (fun _ _ _ _ h=>h) (by kernel_rfl) ?hyr1_10 hH ?_
   case hyr1_10=>(intro w' hSw;replace hSw:=aB hSw;(try dsimp only at hSw);have q0:=hSw.1;have q1:=hSw.2.1;have q2:=hSw.2.2.1;have q3:=hSw.2.2.2.1;have q4:=hSw.2.2.2.2.1;have q5:=hSw.2.2.2.2.2.1;have q6:=hSw.2.2.2.2.2.2.1;have q7:=hSw.2.2.2.2.2.2.2;obtain ⟨qa0_0,qa0_1,qa0_2,qa0_3⟩:=id q0;obtain ⟨qa1_0,qa1_1,qa1_2,qa1_3⟩:=id q1;go_simp;try (with_reducible rfl))
   simp only [sB,sC];refine jB 12 45 9 0 (v:=?vr1_11) rfl (by kernel_rfl) (by kernel_rfl) hWr1 (by kernel_rfl) (by kernel_rfl) (by kernel_rfl) (by kernel_rfl) (by kernel_rfl) (by kernel_rfl) (fun _ _ _ _ h=>h) (by kernel_rfl) ?hyr1_11 hH ?_
   case hyr1_11=>(intro w' hSw;clear hSw;go_simp;try (with_reducible rfl))
   simp only [sB,sC];refine jB 13 46 8 0 (v:=?vr1_12) rfl (by kernel_rfl) (by kernel_rfl) hWr1 (by kernel_rfl) (by kernel_rfl) (by kernel_rfl) (by kernel_rfl) (by kernel_rfl) (by kernel_rfl) (fun _ _ _ _ h=>h) (by kernel_rfl) ?hyr1_12 hH ?_
   case hyr1_12=>(intro w' hSw;replace hSw:=aB hSw;(try dsimp only at hSw);have q0:=hSw.1;have q1:=hSw.2.1;have q2:=hSw.2.2.1;have q3:=hSw.2.2.2.1;have q4:=hSw.2.2.2.2.1;have q5:=hSw.2.2.2.2.2.1;have q6:=hSw.2.2.2.2.2.2.1;have q7:=hSw.2.2.2.2.2.2.2;obtain ⟨qa0_0,qa0_1,qa0_2,qa0_3⟩:=id q0;obtain ⟨qa1_0,qa1_1,qa1_2,qa1_3⟩:=id q1;go_simp;try (with_reducible rfl))
   simp only [sB,sC];refine jB 14 47 7 0 (v:=?vr1_13) rfl (by kernel_rfl) (by kernel_rfl) hWr1 (by kernel_rfl) (by kernel_rfl) (by kernel_rfl) (by kernel_rfl) (by kernel_rfl) (by kernel_rfl) (fun _ _ _ _ h=>h) (by kernel_rfl) ?hyr1_13 hH ?_
   case hyr1_13=>(intro w' hSw;clear hSw;go_simp;try (with_reducible rfl))
   simp only [sB,sC];refine jB 15 48 6 0 (v:=?vr1_14) rfl (by kernel_rfl) (by kernel_rfl) hWr1 (by kernel_rfl) (by kernel_rfl) (by kernel_rfl) (by kernel_rfl) (by kernel_rfl) (by kernel_rfl) (fun _ _ _ _ h=>h) (by kernel_rfl) ?hyr1_14 hH ?_
   case hyr1_14=>(intro w' hSw;clear hSw;go_simp;try (with_reducible rfl))
   simp only [sB,sC];refine iQ (rs:=[7]) (by kernel_rfl) (by simp) ?_;refine dJ.cons 0 (by kernel_rfl) (o:=_) rfl (fun K hK=>?_) dJ.nil
   try clear hb
   go_simp
   (go_at_call 95;refine (gI (px l k+px l j) t (by omega) (by omega) (by omega) (by omega) _).mono ?_;rintro e wn ⟨rfl,hb⟩)
   refine hK.out _ _ ?hsr1_15 (fun hH2=>?hrr1_15)
   case hsr1_15=>exact aK (by have hG:=hH;replace hG:=aB hG;(try dsimp only at hG);have q0:=hG.1;have q1:=hG.2.1;have q2:=hG.2.2.1;have q3:=hG.2.2.2.1;have q4:=hG.2.2.2.2.1;have q5:=hG.2.2.2.2.2.1;have q6:=hG.2.2.2.2.2.2.1;have q7:=hG.2.2.2.2.2.2.2;exact ⟨iW hb q0,iW hb q1,keepCell hb q2,keepCell hb q3,keepCell hb q4,keepCell hb q5,There.below hb q6,aj hb q7⟩)
   clear hK K hH;have hH:=hH2;clear hH2
   try simp only [Act.put,sA,sB,sC]
   refine iQ (rs:=[8]) (by kernel_rfl) (by simp) ?_;refine dJ.cons 0 (by kernel_rfl) (o:=_) rfl (fun K hK=>?_) dJ.nil
   try clear hb
   go_simp
   (go_at_call 94;refine (qC X ((px l k+px l j)*t) _).mono ?_;rintro e wn ⟨rfl,hb⟩)
   refine hK.out _ _ ?hsr1_16 (fun hH2=>?hrr1_16)
   case hsr1_16=>exact aK (by have hG:=hH;replace hG:=aB hG;(try dsimp only at hG);have q0:=hG.1;have q1:=hG.2.1;have q2:=hG.2.2.1;have q3:=hG.2.2.2.1;have q4:=hG.2.2.2.2.1;have q5:=hG.2.2.2.2.2.1;have q6:=hG.2.2.2.2.2.2.1;have q7:=hG.2.2.2.2.2.2.2;exact ⟨iW hb q0,iW hb q1,keepCell hb q2,keepCell hb q3,keepCell hb q4,keepCell hb q5,There.below hb q6,aj hb q7⟩)
   clear hK K hH;have hH:=hH2;clear hH2
   try simp only [Act.put,sA,sB,sC]
   refine iQ (rs:=[16]) (by kernel_rfl) (by simp) ?_;refine dJ.cons 0 (by kernel_rfl) (o:=_) rfl (fun K hK=>?_) dJ.nil
   try clear hb
   go_simp
   (go_at_call 95;refine (gI (py l k+py l j) t (by omega) (by omega) (by omega) (by omega) _).mono ?_;rintro e wn ⟨rfl,hb⟩)
   refine hK.out _ _ ?hsr1_17 (fun hH2=>?hrr1_17)
   case hsr1_17=>exact aK (by have hG:=hH;replace hG:=aB hG;(try dsimp only at hG);have q0:=hG.1;have q1:=hG.2.1;have q2:=hG.2.2.1;have q3:=hG.2.2.2.1;have q4:=hG.2.2.2.2.1;have q5:=hG.2.2.2.2.2.1;have q6:=hG.2.2.2.2.2.2.1;have q7:=hG.2.2.2.2.2.2.2;exact ⟨iW hb q0,iW hb q1,keepCell hb q2,keepCell hb q3,keepCell hb q4,keepCell hb q5,There.below hb q6,aj hb q7⟩)
   clear hK K hH;have hH:=hH2;clear hH2
   try simp only [Act.put,sA,sB,sC]
   refine iQ (rs:=[17]) (by kernel_rfl) (by simp) ?_;refine dJ.cons 0 (by kernel_rfl) (o:=_) rfl (fun K hK=>?_) dJ.nil
   try clear hb
   go_simp
   (go_at_call 94;refine (qC Y ((py l k+py l j)*t) _).mono ?_;rintro e wn ⟨rfl,hb⟩)
   refine hK.out _ _ ?hsr1_18 (fun hH2=>?hrr1_18)
   case hsr1_18=>exact aK (by have hG:=hH;replace hG:=aB hG;(try dsimp only at hG);have q0:=hG.1;have q1:=hG.2.1;have q2:=hG.2.2.1;have q3:=hG.2.2.2.1;have q4:=hG.2.2.2.2.1;have q5:=hG.2.2.2.2.2.1;have q6:=hG.2.2.2.2.2.2.1;have q7:=hG.2.2.2.2.2.2.2;exact ⟨iW hb q0,iW hb q1,keepCell hb q2,keepCell hb q3,keepCell hb q4,keepCell hb q5,There.below hb q6,aj hb q7⟩)
   clear hK K hH;have hH:=hH2;clear hH2
   try simp only [Act.put,sA,sB,sC]
   refine iQ (rs:=[18]) (by kernel_rfl) (by simp) ?_;refine dJ.cons 1 (by kernel_rfl) (o:=_) rfl (fun K hK=>?_) dJ.nil;have hG:=hH;replace hG:=aB hG;(try dsimp only at hG);have q0:=hG.1;have q1:=hG.2.1;have q2:=hG.2.2.1;have q3:=hG.2.2.2.1;have q4:=hG.2.2.2.2.1;have q5:=hG.2.2.2.2.2.1;have q6:=hG.2.2.2.2.2.2.1;have q7:=hG.2.2.2.2.2.2.2;obtain ⟨qa0_0,qa0_1,qa0_2,qa0_3⟩:=id q0;obtain ⟨qa1_0,qa1_1,qa1_2,qa1_3⟩:=id q1;go_simp;refine hK.out _ _ ?hsr1_19 (fun hH2=>?hrr1_19)
   case hsr1_19=>exact gV
   clear hK K hH;have hH:=hH2;clear hH2
   try simp only [Act.put,sA,sB,sC]
   refine iQ (rs:=[19]) (by kernel_rfl) (by simp) ?_;refine dJ.cons 1 (by kernel_rfl) (o:=_) rfl (fun K hK=>?_) dJ.nil;go_simp;refine hK.out _ _ ?hsr1_20 (fun hH2=>?hrr1_20)
   case hsr1_20=>exact gV
   clear hK K hH;have hH:=hH2;clear hH2
   try simp only [Act.put,sA,sB,sC]
   refine Eh (by kernel_rfl) ?_ _;refine NoPanic.normal ?_;have HQ0:=hid q0;have HQ1:=hid q1;have HQ6:=hid q6;have HQ7:=hid q7;clear q0 q1 q2 q3 q4 q5 q6 q7 hH w1x w1y HX HY HT g0 g1 g2 g3 hB1;clear qa0_0 qa0_1 qa0_2 qa0_3 qa1_0 qa1_1 qa1_2 qa1_3
   go_wp2_with fail
   have hB9:=HQ7.out;exact ⟨⟨k+1,hlt,by go_num,by rw [hsX.out,← HTt.out];exact HQ0.out.sets2.far2 (by omega),by rw [hsY.out,← HTt.out];exact (HQ1.out.far2 (by omega)).sets2,((((HQ6.out.set _ _).set _ _).set _ _).set _ _),by go_grown⟩,by simp [intOf];omega⟩
  ·obtain rfl : k = l.length := by omega
   have hX2:Wd wo (w.heap.size+1) (pI l):=hX;have hY2:Wd wo (w.heap.size+2) (oZ l):=hY;obtain ⟨a0,a1,_,_⟩:=hX2;have HY2:=hid hY2;have HT2:=hid hT;clear hX hY hT hY2
   go_wp2_with fail
   refine (mQ (pI l) (3*z) (by have:=HXB.out;omega) (by have:=HXB.out;omega) (by omega) (by omega) _).mono ?_;rintro e w1 ⟨rfl,hb1⟩;obtain ⟨a2,a3,_,_⟩:=iW hb1 HY2.out;have HT3:=hid (There.below hb1 HT2.out);have hB1:=aj hb1 hB;clear a0 a1 hb1
   go_wp2_with fail
   refine (mQ (oZ l) (3*z) (by have:=HYB.out;omega) (by have:=HYB.out;omega) (by omega) (by omega) _).mono ?_;rintro e w2 ⟨rfl,hb2⟩;obtain ⟨z0,z1,y0,y1,f0,f1⟩:=(There.below hb2 HT3.out).get2;have hB2:=aj hb2 hB1;have hlt2:=lt_of_cell y0;clear hb2 a2 a3;go_wp2;refine bodyPost_ret (v:=cZ (bU (pI l) (3*z)) (bU (oZ l) (3*z))) (by simp [results,Tryz.results93,go_sem,y0,y1,hlt2]) rfl ⟨rfl,?_⟩
   go_grown
theorem Hg {l:List V} {i:Nat} (h:i<l.length):nx l i<l.length:=Nat.mod_lt _ (by omega)
theorem Ij {l:List V} (hw:aF 65536000 l=true) {i:Nat} (hi:i<l.length) : -8589934592000000≤pz l i∧pz l i≤8589934592000000 :=
 (AP (aD hw hi) (aD hw (Hg hi))).2
theorem Qe {l:List V} (hw:aF 65536000 l=true) {i:Nat} (hi:i<l.length) : -1125899906842624000000000≤nN l i∧nN l i≤1125899906842624000000000:=by
 obtain ⟨_,_,_,_⟩:=aA.1 (aD hw hi);obtain ⟨_,_,_,_⟩:=aA.1 (aD hw (Hg hi));have h:=Ij hw hi;have:=bZ (x:=px l i+px l (nx l i)) (y:=pz l i) (M:=131072000) (N:=8589934592000000) (by omega) (by omega) (by omega) (by omega);unfold nN;omega
theorem QC {l:List V} (hw:aF 65536000 l=true) {i:Nat} (hi:i<l.length) : -1125899906842624000000000≤Cm l i∧Cm l i≤1125899906842624000000000:=by
 obtain ⟨_,_,_,_⟩:=aA.1 (aD hw hi);obtain ⟨_,_,_,_⟩:=aA.1 (aD hw (Hg hi));have h:=Ij hw hi;have:=bZ (x:=py l i+py l (nx l i)) (y:=pz l i) (M:=131072000) (N:=8589934592000000) (by omega) (by omega) (by omega) (by omega);unfold Cm;omega
theorem Qu {l:List V} (hw:aF 65536000 l=true) (h8:l.length≤8):(-9223372036854775808000000000≤pI l∧pI l≤9223372036854775808000000000)∧(-9223372036854775808000000000≤oZ l∧oZ l≤9223372036854775808000000000):=by
 have h1:=wC (f:=nN l) (B:=1125899906842624000000000) l.length (fun j hj=>Qe hw hj);have h2:=wC (f:=Cm l) (B:=1125899906842624000000000) l.length (fun j hj=>QC hw hj);unfold pI oZ;omega

def Na (l:List V) (i:Nat):Int:=(px l 0+px l (i+1)+px l (i+2))*dH l 0 (i+1) (i+2)
def KG (l:List V) (i:Nat):Int:=(py l 0+py l (i+1)+py l (i+2))*dH l 0 (i+1) (i+2)
theorem Lm (a b c d e f:Int):(c+e)*eZ c d e f+(e+a)*eZ e f a b-(c+a)*eZ c d a b=(a+c+e)*fQ a b c d e f:=by unfold eZ fQ;grind
theorem Jh (a b c d e f:Int):(d+f)*eZ c d e f+(f+b)*eZ e f a b-(d+b)*eZ c d a b=(b+d+f)*fQ a b c d e f:=by unfold eZ fQ;grind
theorem IC (l:List V) (m:Nat) (h:m+2≤l.length):sumTo (nN l) (m+1)+(px l (m+1)+px l 0)*eZ (px l (m+1)) (py l (m+1)) (px l 0) (py l 0)=sumTo (Na l) m:=by
 induction m with
 | zero =>
  simp only [sumTo,nN,pz,nx];rw [Nat.mod_eq_of_lt (by omega)];unfold eZ;grind
 | succ m ih =>
  have h1:=ih (by omega);have h2:=Lm (px l 0) (py l 0) (px l (m+1)) (py l (m+1)) (px l (m+2)) (py l (m+2))
  have e:nN l (m+1)=(px l (m+1)+px l (m+2))*eZ (px l (m+1)) (py l (m+1)) (px l (m+2)) (py l (m+2)):=by
   simp only [nN,pz,nx];rw [Nat.mod_eq_of_lt (by omega)]
  show sumTo (nN l) (m+1)+nN l (m+1)+(px l (m+2)+px l 0)*eZ (px l (m+2)) (py l (m+2)) (px l 0) (py l 0)=sumTo (Na l) m+Na l m;rw [e,← h1];unfold Na dH;rw [← h2];omega
theorem Ji (l:List V) (m:Nat) (h:m+2≤l.length):sumTo (Cm l) (m+1)+(py l (m+1)+py l 0)*eZ (px l (m+1)) (py l (m+1)) (px l 0) (py l 0)=sumTo (KG l) m:=by
 induction m with
 | zero =>
  simp only [sumTo,Cm,pz,nx];rw [Nat.mod_eq_of_lt (by omega)];unfold eZ;grind
 | succ m ih =>
  have h1:=ih (by omega);have h2:=Jh (px l 0) (py l 0) (px l (m+1)) (py l (m+1)) (px l (m+2)) (py l (m+2))
  have e:Cm l (m+1)=(py l (m+1)+py l (m+2))*eZ (px l (m+1)) (py l (m+1)) (px l (m+2)) (py l (m+2)):=by
   simp only [Cm,pz,nx];rw [Nat.mod_eq_of_lt (by omega)]
  show sumTo (Cm l) (m+1)+Cm l (m+1)+(py l (m+2)+py l 0)*eZ (px l (m+2)) (py l (m+2)) (px l 0) (py l 0)=sumTo (KG l) m+KG l m;rw [e,← h1];unfold KG dH;rw [← h2];omega
theorem NC (l:List V) (h3:3≤l.length):pI l=sumTo (Na l) (l.length-2):=by
 obtain ⟨m,hm⟩:∃ m,l.length=m+2:=⟨l.length-2,by omega⟩;rw [show l.length-2=m by omega,← IC l m (by omega)];unfold pI;rw [hm];have e:sumTo (nN l) (m+2)=sumTo (nN l) (m+1)+nN l (m+1):=rfl;rw [e];simp only [nN,pz,nx];rw [hm,Nat.mod_self]
theorem KL (l:List V) (h3:3≤l.length):oZ l=sumTo (KG l) (l.length-2):=by
 obtain ⟨m,hm⟩:∃ m,l.length=m+2:=⟨l.length-2,by omega⟩;rw [show l.length-2=m by omega,← Ji l m (by omega)];unfold oZ;rw [hm];have e:sumTo (Cm l) (m+2)=sumTo (Cm l) (m+1)+Cm l (m+1):=rfl;rw [e];simp only [Cm,pz,nx];rw [hm,Nat.mod_self]
theorem KS {l:List V} (h:aP l=0) {i:Nat} (hi:i+2<l.length):0<dH l 0 (i+1) (i+2):=by
 obtain ⟨h8,h3,hw,hr⟩:=aU h;have e:dH l 0 (i+1) (i+2)=dH l (i+1) (i+2) 0:=by unfold dH fQ;grind
 rw [e];have:=Nk hr (i:=i+1) (k:=0) (by omega) (by omega) (by omega) (by rw [Nat.mod_eq_of_lt (by omega)];omega);rwa [Nat.mod_eq_of_lt (by omega)] at this
theorem MP {l:List V} (h:aP l=0) (f:Nat→Int) (hf:∀ i,i<l.length → -65536000≤f i∧f i≤65536000) (k:Nat) (hk:k+2≤l.length) :
  -(196608000*ig l k)≤sumTo (fun i=>(f 0+f (i+1)+f (i+2))*dH l 0 (i+1) (i+2)) k∧sumTo (fun i=>(f 0+f (i+1)+f (i+2))*dH l 0 (i+1) (i+2)) k≤196608000*ig l k:=by
 induction k with
 | zero=>simp [sumTo,ig]
 | succ k ih =>
  have h1:=ih (by omega);have hs:=KS h (i:=k) (by omega);have a:=hf 0 (by omega);have b:=hf (k+1) (by omega);have c:=hf (k+2) (by omega);have u:=Int.mul_nonneg (show 0≤196608000-(f 0+f (k+1)+f (k+2)) by omega) (Int.le_of_lt hs);have v:=Int.mul_nonneg (show 0≤196608000+(f 0+f (k+1)+f (k+2)) by omega) (Int.le_of_lt hs);rw [Int.sub_mul] at u;rw [Int.add_mul] at v;simp only [sumTo,ig];generalize (f 0+f (k+1)+f (k+2))*dH l 0 (k+1) (k+2)=X at *
  generalize dH l 0 (k+1) (k+2)=s at *
  omega
theorem Ku {x n M:Int} (hn:0<n) (h1 : -(n*M)≤x) (h2:x≤n*M) : -M≤mK x n∧mK x n≤M:=by
 unfold mK;rw [if_neg (by omega)];have e1:M*(2*n)=2*(n*M):=by grind
 have e2:(-M)*(2*n) = -(2*(n*M)):=by grind
 refine ⟨Int.le_ediv_of_mul_le (by omega) (by omega),?_⟩;have:(2*x+n) / (2*n)<M+1:=Int.ediv_lt_of_lt_mul (by omega) (by rw [Int.add_mul,e1];omega);omega
theorem IW {l:List V} (h:aP l=0) : -1000000000000000000≤jo l∧jo l≤1000000000000000000:=by
 obtain ⟨h8,h3,hw,_⟩:=aU h;have:=zB hw (l.length-2) (by omega);unfold jo;omega

theorem Oa {l:List V} (h:aP l=0):aL 65536000 (tC l).1 (tC l).2=true:=by
 obtain ⟨h8,h3,hw,hr⟩:=aU h;have hA:=M8 h;have hx:=MP h (px l) (fun i hi=>by have:=aA.1 (aD hw hi);omega) (l.length-2) (by omega);have hy:=MP h (py l) (fun i hi=>by have:=aA.1 (aD hw hi);omega) (l.length-2) (by omega);have ex:pI l=sumTo (fun i=>(px l 0+px l (i+1)+px l (i+2))*dH l 0 (i+1) (i+2)) (l.length-2):=NC l h3;have ey:oZ l=sumTo (fun i=>(py l 0+py l (i+1)+py l (i+2))*dH l 0 (i+1) (i+2)) (l.length-2):=KL l h3;rw [← ex] at hx;rw [← ey] at hy;have e:jo l=ig l (l.length-2):=rfl;rw [← e] at hx hy;have bx:=Ku (x:=pI l) (n:=3*jo l) (M:=65536000) (by omega) (by omega) (by omega);have b_y:=Ku (x:=oZ l) (n:=3*jo l) (M:=65536000) (by omega) (by omega) (by omega);have qx:=lH (W:=pI l) (n:=3*jo l) (by omega) rfl (by omega) (by omega);have qy:=lH (W:=oZ l) (n:=3*jo l) (by omega) rfl (by omega) (by omega);refine aA.2 ?_;unfold tC;rw [qx.1,qy.1];dsimp only;omega
end
end Go.Proofs.YtokgmcomgflloaaGreat
