/- Parts of a proof: contracts and laws. -/
import Derived.Test.YtokgmcomgflloaaGreatQA32
import Derived.Test.YtokgmcomgflloaaGreatQA13
import Derived.Test.YtokgmcomgflloaaGreatQA12
import Derived.Test.YtokgmcomgflloaaGreatQA06
import Derived.BigRegion
import Derived.Deep.DeepCutAuto
import Derived.Test.YtokgmcomgflloaaGreatQA09
import Derived.Test.YtokgmcomgflloaaGreatQA07
import Derived.Test.YtokgmcomgflloaaGreatQA34
set_option maxRecDepth 100000
set_option maxHeartbeats 16000000
namespace Go.Proofs.YtokgmcomgflloaaGreat
section
set_option linter.unusedVariables false
set_option linter.unusedSimpArgs false
open Go.RowKit
variable {w0 w w':World}
theorem sP {z S L:Int} (hL:0≤L) (h1:S<(L+1)*(L+1)) (h2:z*z≤2*S):z≤2*L:=by
 rcases Int.lt_or_le (2*L) z with h | h
 ·exfalso;have m:(2*L+1)*(2*L+1)≤z*z:=Int.mul_le_mul (by omega) (by omega) (by omega) (by omega);have e1:(2*L+1)*(2*L+1)=4*(L*L)+4*L+1:=by grind
  have e2:(L+1)*(L+1)=L*L+2*L+1:=by grind
  have p:=sq_nonneg L;omega
 ·exact h
theorem MJ {x y:Int} (hx : -131072000≤x∧x≤131072000) (hy : -131072000≤y∧y≤131072000):x+y≤2*fQ x y∧x-y≤2*fQ x y ∧ -x+y≤2*fQ x y ∧ -x-y≤2*fQ x y:=by
 have q1:=dh (x:=x) (y:=x) (M:=131072000) (N:=131072000) (by omega) (by omega) (by omega) (by omega);have q2:=dh (x:=y) (y:=y) (M:=131072000) (N:=131072000) (by omega) (by omega) (by omega) (by omega);have s1:=sq_nonneg x;have s2:=sq_nonneg y;obtain ⟨h0,-,h2⟩:=lG (n:=x*x+y*y) (by omega) (by omega)
 change 0≤fQ x y at h0
 change x*x+y*y<(fQ x y+1)*(fQ x y+1) at h2
 have t1:=sq_nonneg (x-y);have t2:=sq_nonneg (x+y);have e1:(x+y)*(x+y)+(x-y)*(x-y)=2*(x*x+y*y):=by grind
 refine ⟨sP h0 h2 (by omega),sP h0 h2 (by omega),sP h0 h2 ?_,sP h0 h2 ?_⟩
 ·have e : (-x + y) * (-x + y) = (x - y) * (x - y) := by grind
  omega
 ·have e : (-x - y) * (-x - y) = (x + y) * (x + y) := by grind
  omega
theorem Gw {M:Int} (hM:M≤65536000) {p q:V} {a b:Int} (h1:aI M p.1 p.2=true) (h2:aI M q.1 q.2=true):aI M (kL p q a b).1.1.1 (kL p q a b).1.1.2=true∧aI M (kL p q a b).1.2.1 (kL p q a b).1.2.2=true:=by
 obtain ⟨_,_,_,_⟩:=aD.1 h1;obtain ⟨_,_,_,_⟩:=aD.1 h2;unfold kL
 by_cases ha:a<0 <;> by_cases hb:b<0
 ·rw [if_pos ⟨ha,hb⟩];exact ⟨h1,h2⟩
 ·have k1 := jW (D := q.1 - p.1) (a := a) (b := b) (by omega) (by omega);have k2:=jW (D:=q.2-p.2) (a:=a) (b:=b) (by omega) (by omega);rw [if_neg (by omega),if_pos ha];exact ⟨aD.2 (by dsimp only;omega),h2⟩
 ·have k1 := jW (D := q.1 - p.1) (a := a) (b := b) (by omega) (by omega);have k2:=jW (D:=q.2-p.2) (a:=a) (b:=b) (by omega) (by omega);rw [if_neg (by omega),if_neg ha,if_pos hb];exact ⟨h1,aD.2 (by dsimp only;omega)⟩
 ·rw [if_neg (by omega),if_neg ha,if_neg hb];exact ⟨h1,h2⟩
theorem MZ {M:Int} (hM:M≤65536000) {ref inc:List V} {e:Nat} (hw:aP M inc=true) (h0:0<inc.length):aI M (yM ref inc e).1.1.1 (yM ref inc e).1.1.2=true∧aI M (yM ref inc e).1.2.1 (yM ref inc e).1.2.2=true:=by
 have hk:=Bg (l:=inc) (eX ref e) (eZ ref e) h0;have c1:=Gw hM (p:=rQ inc (kV inc (eX ref e) (eZ ref e))) (q:=xM inc (kV inc (eX ref e) (eZ ref e))) (a:=tT (rQ inc (kV inc (eX ref e) (eZ ref e))) (rQ ref e) ((xM ref e).1-(rQ ref e).1,(xM ref e).2-(rQ ref e).2)) (b:=tT (xM inc (kV inc (eX ref e) (eZ ref e))) (rQ ref e) ((xM ref e).1-(rQ ref e).1,(xM ref e).2-(rQ ref e).2)) (aQ hw hk) (aQ hw (Nat.mod_lt _ h0));unfold yM
 split
 ·exact Gw hM c1.1 c1.2
 ·exact c1


theorem xu {l m : List V} {i : Nat} {B : Int} (hB : ∀ j, j < m.length → Ns l m i j ≤ B) : ∀ k, k < m.length → jN l m i k ≤ B
 | 0,h=>hB 0 h
 | k+1,h=>by
  rw [jN]
  split
  ·exact hB _ h
  ·exact xu hB k (by omega)
theorem Nz {ref inc:List V} {e:Nat} (h0:0<inc.length):jC ref inc e≤lT ref e (px inc (kE inc (eX ref e) (eZ ref e) inc.length)) (py inc (kE inc (eX ref e) (eZ ref e) inc.length)):=by
 unfold jC;refine xu (fun j hj=>?_) _ (by omega);have h:=(FB inc (-eX ref e) (-eZ ref e) inc.length h0).2.1 j hj;rw [← xZ] at h;unfold kN at h;show eX ref e*(px ref e-px inc j)+eZ ref e*(py ref e-py inc j)≤lT _ _ _ _;unfold lT;generalize kE inc (eX ref e) (eZ ref e) inc.length=f at *
 simp only [Int.mul_sub,Int.mul_neg] at *
 rw [Int.mul_comm (px inc j),Int.mul_comm (py inc j),Int.mul_comm (px inc f),Int.mul_comm (py inc f)] at h;omega

structure Hz (w : World) (g : Nat) (b : Bd) (l : List V) (k : Nat) : Prop where
 lt:g<w.heap.size
 x:∀ j,j<k→w.cell? ⟨g,j*2,none⟩=some (.int .i64 (wX b (px l j) (py l j)))
 y:∀ j,j<k→w.cell? ⟨g,j*2+1,none⟩=some (.int .i64 (wY b (px l j) (py l j)))
 c:∀ j,j<l.length*2→∃ v,w.cell? ⟨g,j,none⟩=some v
 free:∀ j,w.frozen? ⟨g,j,none⟩=false
theorem Hz.drew {g:Nat} {b:Bd} {l:List V} {k:Nat} (h:Hz w g b l k):Hz w.drew g b l k:=⟨h.lt,h.x,h.y,h.c,h.free⟩
theorem Hz.set {g:Nat} {b:Bd} {l:List V} {k:Nat} (h:Hz w g b l k) (hk:k<l.length) :
  Hz ((w.setCell ⟨g,k*2,none⟩ (.int .i64 (wX b (px l k) (py l k)))).setCell ⟨g,k*2+1,none⟩ (.int .i64 (wY b (px l k) (py l k)))) g b l (k+1):=by
 obtain ⟨z0,y0⟩:=h.c (k*2) (by omega);obtain ⟨z1,y1⟩:=h.c (k*2+1) (by omega);refine ⟨by simpa using h.lt,fun j hj=>?_,fun j hj=>?_,fun j hj=>?_,fun j=>by rw [World.frozen?_setCell,World.frozen?_setCell];exact h.free j⟩
 ·by_cases e : j = k
  ·subst e;go_simp
  ·have := h.x j (by omega);have n1:¬ (k*2=j*2):=by omega
   have n2:¬ (k*2+1=j*2):=by omega
   have n3:¬ (j*2=k*2):=by omega
   have n4:¬ (j*2=k*2+1):=by omega
   go_simp
 ·by_cases e : j = k
  ·subst e;go_simp
  ·have := h.y j (by omega);have n1:¬ (k*2=j*2+1):=by omega
   have n2:¬ (k*2+1=j*2+1):=by omega
   have n3:¬ (j*2+1=k*2):=by omega
   have n4:¬ (j*2+1=k*2+1):=by omega
   go_simp
 ·obtain ⟨v, hv⟩ := h.c j hj
  by_cases e:k*2+1=j
  ·subst e;exact ⟨.int .i64 (wY b (px l k) (py l k)),by go_simp⟩
  ·by_cases e2 : k * 2 = j
   ·subst e2;exact ⟨.int .i64 (wX b (px l k) (py l k)),by go_simp⟩
   ·exact ⟨v,by go_simp⟩
theorem Jc {b:Bd} {l:List V} {j:Nat} (h:j<l.length):px (dO b l) j=wX b (px l j) (py l j):=by simp [px,py,dO,h]
theorem IC {b:Bd} {l:List V} {j:Nat} (h:j<l.length):py (dO b l) j=wY b (px l j) (py l j):=by simp [px,py,dO,h]
theorem aL.far {g:Nat} {b:Bd} {A:Option Addr} {n c:Nat} (h:aL w g b A n c) (k o:Nat) (v:Value) (hne:k≠g):aL (w.setCell ⟨k,o,none⟩ v) g b A n c :=
 ⟨aY hne h.c0,aY hne h.c1,aY hne h.c2,aY hne h.c3,aY hne h.c4,aY hne h.c5,aY hne h.c6,aY hne h.c7,aY hne h.c8,aY hne h.c9,aY hne h.c10,aY hne h.c11,aY hne h.c12,fun j=>by rw [World.frozen?_setCell];exact h.free j⟩
theorem yg (b:Bd) (A A':Option Addr) (n c n' c':Nat) (l:List V) (w:World) (hS:Sl w A n c l) (hS':Sl w A' n' c' l):Calls Tryz.prog 20 #[dK b A n c,dK b A' n' c'] w (dG (.bool true) w):=by
 obtain ⟨W,hW⟩:∃ W,W=(w.alloc (.cells #[.int .i64 b.px,.int .i64 b.py,.int .i64 b.vx,.int .i64 b.vy,.int .i64 b.ang,.int .i64 b.spin,.int .i64 b.mass,.int .i64 b.iner,.int .i64 b.bounce,.int .i64 b.rub,.slice A n c,.bool b.asleep,.int .i64 b.calm] 27)).alloc (.cells #[.int .i64 b.px,.int .i64 b.py,.int .i64 b.vx,.int .i64 b.vy,.int .i64 b.ang,.int .i64 b.spin,.int .i64 b.mass,.int .i64 b.iner,.int .i64 b.bounce,.int .i64 b.rub,.slice A' n' c',.bool b.asleep,.int .i64 b.calm] 27):=⟨_,rfl⟩;have HA:=hid (show aL W w.heap.size b A n c by rw [hW];exact (aL.here w b A n c _).alloc _);have HA':=hid (show aL W (w.heap.size+1) b A' n' c' by rw [hW];have:=aL.here (w.alloc (.cells #[.int .i64 b.px,.int .i64 b.py,.int .i64 b.vx,.int .i64 b.vy,.int .i64 b.ang,.int .i64 b.spin,.int .i64 b.mass,.int .i64 b.iner,.int .i64 b.bounce,.int .i64 b.rub,.slice A n c,.bool b.asleep,.int .i64 b.calm] 27)) b A' n' c' 27;simpa using this);have hB:Below w.heap.size w W:=by rw [hW];go_grown
 have HS:=hid (hS.below hB);have HS':=hid (hS'.below hB);obtain ⟨k0,k1,k2,k3,k4,k5,k6,k7,k8,k9,k10,k11,k12,_⟩:=HA.out;obtain ⟨m0,m1,m2,m3,m4,m5,m6,m7,m8,m9,m10,m11,m12,_⟩:=HA'.out;have hl1:=HA.out.lt;have hl2:=HA'.out.lt;clear hS hS'
 go_enter Tryz.func20,Tryz.ntmps20
 go_upto_region 1 with fail
 rw [← hW];clear hW
 go_cut [5,6] from 7 to 8 (fun p q wx=>∃ ga gb:Nat,p = .pointer (some ⟨ga,0,none⟩)∧q = .pointer (some ⟨gb,0,none⟩)∧ga≠gb∧W.heap.size≤ga∧W.heap.size≤gb∧aL wx ga b A n c∧aL wx gb b A' n' c'∧Below W.heap.size W wx)
 case first =>
  go_region
  all_goals
   clear k0 k1 k2 k3 k4 k5 k6 k7 k8 k9 k10 k11 k12 m0 m1 m2 m3 m4 m5 m6 m7 m8 m9 m10 m11 m12
   go_wp2_with fail
   go_meet
   refine ⟨_,_,rfl,rfl,by omega,by omega,by omega,?_,?_,by go_grown⟩
   ·refine aL.drew ?_
    first
     | exact (aL.here W b A n c 27).alloc _
     | (have:=aL.here (W.alloc (.cells #[.int .i64 b.px,.int .i64 b.py,.int .i64 b.vx,.int .i64 b.vy,.int .i64 b.ang,.int .i64 b.spin,.int .i64 b.mass,.int .i64 b.iner,.int .i64 b.bounce,.int .i64 b.rub,.slice A' n' c',.bool b.asleep,.int .i64 b.calm] 27)) b A n c 27;simpa using this)
   ·refine aL.drew ?_
    first
     | exact (aL.here W b A' n' c' 27).alloc _
     | (have:=aL.here (W.alloc (.cells #[.int .i64 b.px,.int .i64 b.py,.int .i64 b.vx,.int .i64 b.vy,.int .i64 b.ang,.int .i64 b.spin,.int .i64 b.mass,.int .i64 b.iner,.int .i64 b.bounce,.int .i64 b.rub,.slice A n c,.bool b.asleep,.int .i64 b.calm] 27)) b A' n' c' 27;simpa using this)
 case rest =>
  obtain ⟨ga,gb,rfl,rfl,hne,hga,hgb,h1,h2,hBc⟩:=hcut;replace k10:=keepCell hBc k10;replace m10:=keepCell hBc m10;have hl3:=h1.lt;have hl4:=h2.lt;have n1:¬ ga=w.heap.size:=by omega
  have n2:¬ w.heap.size=ga:=by omega
  have n3:¬ gb=w.heap.size:=by omega
  have n4:¬ w.heap.size=gb:=by omega
  have n5:¬ ga=w.heap.size+1:=by omega
  have n6:¬ w.heap.size+1=ga:=by omega
  have n7:¬ gb=w.heap.size+1:=by omega
  have n8:¬ w.heap.size+1=gb:=by omega
  have n9:¬ gb=ga:=by omega
  have u10:=h1.c10;have uf:=h1.free;have v10:=h2.c10;have vf:=h2.free;have H1:=hid h1;have H2:=hid h2;clear k0 k1 k2 k3 k4 k5 k6 k7 k8 k9 k11 k12 m0 m1 m2 m3 m4 m5 m6 m7 m8 m9 m11 m12 h1 h2
  go_wp2_with fail
  have hg1:aL ((wc.setCell ⟨ga,10,none⟩ (.slice none 0 0)).setCell ⟨gb,10,none⟩ (.slice none 0 0)) ga b none 0 0:=(H1.out.set_slice (A':=none) (n':=0) (c':=0)).far gb 10 _ n9;have hg2:aL ((wc.setCell ⟨ga,10,none⟩ (.slice none 0 0)).setCell ⟨gb,10,none⟩ (.slice none 0 0)) gb b none 0 0:=(H2.out.far ga 10 _ hne).set_slice;have hBe:Below W.heap.size W ((wc.setCell ⟨ga,10,none⟩ (.slice none 0 0)).setCell ⟨gb,10,none⟩ (.slice none 0 0)):=by go_grown
  have H1e:=hid hg1;have H2e:=hid hg2;have HSe:=hid (HS.out.below hBe);have HSe':=hid (HS'.out.below hBe);clear hg1 hg2 H1 H2 u10 v10 k10 m10 uf vf;refine (Ew _ _ _ _ _ _ l l _ HSe.out HSe'.out).mono ?_;rintro e w5 ⟨rfl,hb5⟩;rw [show decide (l=l)=true by simp];have g1:=aM hb5 H1e.out;have g2:=aM hb5 H2e.out;have hB5:Below w.heap.size w w5:=hB.trans ((aj hb5 hBe).mono hB.size);obtain ⟨k0,k1,k2,k3,k4,k5,k6,k7,k8,k9,k10,k11,k12,_⟩:=g1;obtain ⟨m0,m1,m2,m3,m4,m5,m6,m7,m8,m9,m10,m11,m12,_⟩:=g2;clear hb5 hBe HSe HSe' H1e H2e;go_wp2
  go_returns
  exact bR (by simp) hB5
theorem CS {W n:Int} (hn:0<n):2*(n*kM W n)≤2*W+n∧2*W+n<2*(n*kM W n)+2*n:=by
 have e:kM W n=(2*W+n) / (2*n):=by unfold kM;rw [if_neg (by omega)]
 rw [e];have h:=Int.emod_add_mul_ediv (2*W+n) (2*n);have h0:=Int.emod_nonneg (2*W+n) (show 2*n≠0 by omega);have h1:=Int.emod_lt_of_pos (2*W+n) (show 0<2*n by omega);rw [Int.mul_assoc] at h;omega
theorem M5 {x n M:Int} (hn:0<n) (h1 : -(n*M)≤x) (h2:x≤n*M) : -M≤kM x n∧kM x n≤M:=by
 obtain ⟨a,b⟩:=CS (W:=x) hn
 constructor
 ·rcases Int.lt_or_le (kM x n) (-M) with h | h
  ·have := Int.mul_le_mul_of_nonneg_left (show kM x n + 1 ≤ -M by omega) (show 0 ≤ n by omega);rw [Int.mul_add,Int.mul_neg] at this;omega
  ·exact h
 ·rcases Int.lt_or_le M (kM x n) with h | h
  ·have := Int.mul_le_mul_of_nonneg_left (show M + 1 ≤ kM x n by omega) (show 0 ≤ n by omega);rw [Int.mul_add] at this;omega
  ·exact h


theorem Nb {a b:Int} (ha : -1441792≤a∧a≤1441792) (hb : -786432≤b∧b≤786432):aX a b=kM (a*b) 65536 ∧ -17301504≤aX a b∧aX a b≤17301504:=by
 have m:=dh (x:=a) (y:=b) (M:=1441792) (N:=786432) (by omega) (by omega) (by omega) (by omega);have hr:=M5 (x:=a*b) (n:=65536) (M:=17301504) (by omega) (by omega) (by omega)
 have e:aX a b=kM (a*b) 65536:=by
  unfold aX IL;rw [gK (a:=a) (by omega) (by omega),gK (a:=b) (by omega) (by omega),show aO 65536=65536 by decide,if_neg (by omega)];exact gK (by omega) (by omega)
 rw [e];exact ⟨rfl,hr⟩

theorem BQ {a b:Int} (ha : -549755813888≤a∧a≤549755813888) (hb : -549755813888≤b∧b≤549755813888):bT a b=a+b:=by
 unfold bT;rw [gK (a:=a) (by omega) (by omega),gK (a:=b) (by omega) (by omega)];exact gK (by omega) (by omega)
theorem NA {a b:Int} (ha : -549755813888≤a∧a≤549755813888) (hb : -549755813888≤b∧b≤549755813888):dI a b=a-b:=by
 unfold dI;rw [gK (a:=a) (by omega) (by omega),gK (a:=b) (by omega) (by omega)];exact gK (by omega) (by omega)

theorem GI {a M:Int} (h1 : -M≤a) (h2:a≤M):aV a≤M:=by unfold aV;split <;> omega
theorem yO {l:List V} (h:aP 262144 l=true) {i k:Nat} (hi:i<l.length) (hk:k<l.length):DL l i k≤1048576:=by
 have h1:=aD.1 (aQ h hi);have h2:=aD.1 (aQ h hk);have e1:=GI (a:=px l k-px l i) (M:=524288) (by omega) (by omega);have e2:=GI (a:=py l k-py l i) (M:=524288) (by omega) (by omega);unfold DL;omega
theorem Gi {l:List V} (hw:aP 262144 l=true) {i k:Nat} (hi:i<l.length) (hk:k<l.length) (h:k=i∨k=(i+1) % l.length∨16777216≤mI l i ((i+1) % l.length) k):jL l i k=false:=by
 unfold jL;refine decide_eq_false ?_;rintro ⟨n1,n2,n3⟩
 rcases h with h | h | h
 ·exact n1 h
 ·exact n2 h
 ·have a1 := yO hw hi (Nat.mod_lt (i + 1) (show 0 < l.length by omega));have a2:=yO hw hi hk;omega
theorem Ox {l:List V} (hw:aP 262144 l=true) (h:∀ i,i<l.length→∀ k,k<l.length→(k=i∨k=(i+1) % l.length∨16777216≤mI l i ((i+1) % l.length) k)):tY l=true :=
 Gy fun i hi k hk=>Gi hw hi hk (h i hi k hk)
theorem Nq {w h x:Int} (hw:w=65536∨w=131072∨w=196608∨w=262144) (hh:h=65536∨h=131072∨h=196608∨h=262144) (h1 : -w≤x) (h2:x<w):tY [(-w,-h),(w,-h),(x,h)]=true:=by
 have hp:4294967296≤w*h:=by rcases hw with rfl | rfl | rfl | rfl <;> omega
 refine Ox (by simp [aP,aI];omega) ?_;intro i hi k hk;simp only [List.length_cons,List.length_nil] at hi hk
 match i,hi,k,hk with
 | 0,_,0,_=>exact .inl rfl
 | 0,_,1,_=>exact .inr (.inl rfl)
 | 0,_,2,_=>refine .inr (.inr ?_);simp [mI,iZ,px,py];grind
 | 1,_,0,_=>refine .inr (.inr ?_);simp [mI,iZ,px,py];grind
 | 1,_,1,_=>exact .inl rfl
 | 1,_,2,_=>exact .inr (.inl rfl)
 | 2,_,0,_=>exact .inr (.inl (by simp))
 | 2,_,1,_=>refine .inr (.inr ?_);simp [mI,iZ,px,py];grind
 | 2,_,2,_=>exact .inl rfl
theorem KI {l:List V} (h:Made l):tY l=true:=by
 obtain ⟨a,b,k,x,ha,hb,hk,h1,h2,rfl⟩:=h
 rcases hk with rfl | rfl | rfl | rfl
 ·rw [iL _ _ _ _ (by decide)];rcases ha with rfl | rfl | rfl | rfl <;> rcases hb with rfl | rfl | rfl | rfl <;> decide
 ·exact Nq (by omega) (by omega) h1 h2
 ·rw [iL _ _ _ _ (by decide)];rcases ha with rfl | rfl | rfl | rfl <;> rcases hb with rfl | rfl | rfl | rfl <;> decide
 ·rw [iL _ _ _ _ (by decide)];rcases ha with rfl | rfl | rfl | rfl <;> rcases hb with rfl | rfl | rfl | rfl <;> decide
theorem Nu {w h x:Int} (hw:w=65536∨w=131072∨w=196608∨w=262144) (hh:h=65536∨h=131072∨h=196608∨h=262144) (h1 : -w≤x) (h2:x<w):hasB [(-w,-h),(w,-h),(x,h)] 0 0=true:=by
 refine zI (D6 _ _ _ (by omega) (by omega) (by omega) (by omega) h1 h2) (by decide) ?_;intro i hi;simp only [List.length_cons,List.length_nil] at hi
 match i,hi with
 | 0,_=>rcases hw with rfl | rfl | rfl | rfl <;> rcases hh with rfl | rfl | rfl | rfl <;> simp [vw,iZ,px,py]
 | 1,_=>rcases hw with rfl | rfl | rfl | rfl <;> rcases hh with rfl | rfl | rfl | rfl <;> simp [vw,iZ,px,py] <;> omega
 | 2,_=>rcases hw with rfl | rfl | rfl | rfl <;> rcases hh with rfl | rfl | rfl | rfl <;> simp [vw,iZ,px,py] <;> omega
theorem KS {l:List V} (h:Made l):hasB l 0 0=true:=by
 obtain ⟨a,b,k,x,ha,hb,hk,h1,h2,rfl⟩:=h
 rcases hk with rfl | rfl | rfl | rfl
 ·rw [iL _ _ _ _ (by decide)];rcases ha with rfl | rfl | rfl | rfl <;> rcases hb with rfl | rfl | rfl | rfl <;> decide
 ·exact Nu (by omega) (by omega) h1 h2
 ·rw [iL _ _ _ _ (by decide)];rcases ha with rfl | rfl | rfl | rfl <;> rcases hb with rfl | rfl | rfl | rfl <;> decide
 ·rw [iL _ _ _ _ (by decide)];rcases ha with rfl | rfl | rfl | rfl <;> rcases hb with rfl | rfl | rfl | rfl <;> decide
theorem F9 {l:List V} (h:Made l):gV l=0:=by
 have hw:aP 2097152 l=true:=by
  have:=uN h;unfold aP at this ⊢;rw [List.all_eq_true] at this ⊢;intro p hp;have:=aD.1 (this p hp);exact aD.2 (by omega)
 unfold gV;rw [if_neg (by simp [F7 h]),if_neg (by simp [hw]),if_neg (by simp [KI h,KS h])]
theorem I7 {b:Bd} (h:jO b):kT b=0:=by
 obtain ⟨hpx,hpy,ang,bo,ru,asl,ca,k⟩:=h;have a1:aI 58982400 b.px b.py=true:=aD.2 (by omega);have a2:aI 268435456 b.vx b.vy=true:=aD.2 (by rcases k with k | k <;> omega);have a3:iA b.spin (-16777216) 16777216=true:=bX.2 (by rcases k with k | k <;> omega);have a4:iA b.ang 0 65535=true:=bX.2 ang;have a5:iA b.mass 0 1099511627776=true:=bX.2 (by rcases k with k | k <;> omega);have a6:iA b.iner 0 1099511627776=true:=bX.2 (by rcases k with k | k <;> omega);have a7:iA b.bounce 0 65536=true:=bX.2 bo;have a8:iA b.rub 0 65536=true:=bX.2 ru;have a9:iA b.calm 0 1000=true:=bX.2 (by omega);unfold kT;rw [if_pos (by simp [a1,a2,a3,a4]),if_pos (by simp [a5,a6,a7,a8,a9])]
 rcases k with ⟨k1,k2,k3,k4,k5⟩ | ⟨k1,k2,k3,k4,k5⟩
 ·rw [if_neg (by simp [fG,k1,k2,k3,k4,k5,asl,ca])]
 ·have m1 : (b.mass == 0) = false := by simp; omega
  have m2:(b.iner == 0)=false:=by simp;omega
  rw [if_neg (by simp [m1,m2,asl])]
theorem D7 {b:Bd} {l:List V} (h:jO b) (hl:Made l):aT b l=0:=by
 unfold aT;rw [if_neg (by simp [F9 hl])];exact I7 h
theorem CJ:∀ k,k<64→iD k≤iD (k+1):=by decide
theorem Lh:∀ k,k<64→4000000000≤iD k*iD k+iD (63-k)*iD (63-k):=by decide
theorem zG {a:Int} (h0:0≤a) (h1:a≤16384):iD (a / 256).toNat≤bQ a∧bQ a≤65536:=by
 unfold bQ;obtain ⟨k,hk⟩:∃ k,k=(a / 256).toNat:=⟨_,rfl⟩;rw [← hk];have bk:=l9 k
 by_cases hz:a % 256=0
 ·rw [if_pos hz];omega
 ·rw [if_neg hz];have hm:=CJ k (by omega);have bk1:=l9 (k+1);obtain ⟨d,hd⟩:∃ d,d=iD (k+1)-iD k:=⟨_,rfl⟩;obtain ⟨f,hf⟩:∃ f,f=a % 256:=⟨_,rfl⟩;rw [← hd,← hf];have m0:0≤d*f:=Int.mul_nonneg (by omega) (by omega);have m1:d*f≤d*255:=Int.mul_le_mul_of_nonneg_left (by omega) (by omega);rw [Int.tdiv_eq_ediv_of_nonneg (by omega)];generalize d*f=z at *
  omega

theorem FP {r:Int} (h0:0≤r) (h1:r<16384):4000000000≤bQ r*bQ r+bQ (16384-r)*bQ (16384-r)∧(0≤bQ r∧bQ r≤65536)∧(0≤bQ (16384-r)∧bQ (16384-r)≤65536):=by
 obtain ⟨a1,a2⟩:=zG (a:=r) h0 (by omega);obtain ⟨b1,b2⟩:=zG (a:=16384-r) (by omega) (by omega);obtain ⟨k,hk⟩:∃ k,k=(r / 256).toNat:=⟨_,rfl⟩;have hk64:k<64:=by omega
 have hb:iD (63-k)≤iD ((16384-r) / 256).toNat:=by
  by_cases hz:r % 256=0
  ·rw [show ((16384-r) / 256).toNat=63-k+1 by omega];exact CJ _ (by omega)
  ·rw [show ((16384-r) / 256).toNat=63-k by omega];exact Int.le_refl _
 rw [← hk] at a1;have n:=Lh k hk64;have t1:=l9 k;have t2:=l9 (63-k);have s1:iD k*iD k≤bQ r*bQ r:=Int.mul_le_mul a1 a1 (by omega) (by omega);have s2:iD (63-k)*iD (63-k)≤bQ (16384-r)*bQ (16384-r):=Int.mul_le_mul (by omega) (by omega) (by omega) (by omega);exact ⟨by omega,⟨by omega,a2⟩,⟨by omega,b2⟩⟩
theorem JH {a:Int} (h0:0≤a) (h1:a≤65535):4000000000≤ni a*ni a+kZ a*kZ a∧(-65536≤ni a∧ni a≤65536)∧(-65536≤kZ a∧kZ a≤65536):=by
 obtain ⟨r,hr⟩:∃ r,r=a % 16384:=⟨_,rfl⟩;obtain ⟨n,p1,p2⟩:=FP (r:=r) (by omega) (by omega)
 have hs:kZ a=if a / 16384=0 then bQ r else if a / 16384=1 then bQ (16384-r) else if a / 16384=2 then-bQ r else-bQ (16384-r):=by
  unfold kZ;rw [show a % 65536 / 16384=a / 16384 by omega,← hr]
 have hc:ni a=if (a / 16384+1) % 4=0 then bQ r else if (a / 16384+1) % 4=1 then bQ (16384-r) else if (a / 16384+1) % 4=2 then-bQ r else-bQ (16384-r):=by
  unfold ni kZ;rw [show (a % 65536+16384) % 65536 / 16384=(a / 16384+1) % 4 by omega,show (a % 65536+16384) % 16384=r by omega]
 generalize bQ r=x at *
 generalize bQ (16384-r)=y at *
 have hq:a / 16384=0∨a / 16384=1∨a / 16384=2∨a / 16384=3:=by omega
 have e1 : -x * -x=x*x:=Int.neg_mul_neg x x;have e2 : -y * -y=y*y:=Int.neg_mul_neg y y
 rcases hq with h | h | h | h
 ·have s' : kZ a = x := by rw [hs]; (repeat' split) <;> omega
  have c':ni a=y:=by rw [hc];(repeat' split) <;> omega
  rw [s',c'];exact ⟨by omega,by omega,by omega⟩
 ·have s' : kZ a = y := by rw [hs]; (repeat' split) <;> omega
  have c':ni a = -x:=by rw [hc];(repeat' split) <;> omega
  rw [s',c'];exact ⟨by omega,by omega,by omega⟩
 ·have s' : kZ a = -x := by rw [hs]; (repeat' split) <;> omega
  have c':ni a = -y:=by rw [hc];(repeat' split) <;> omega
  rw [s',c'];exact ⟨by omega,by omega,by omega⟩
 ·have s' : kZ a = -y := by rw [hs]; (repeat' split) <;> omega
  have c':ni a=x:=by rw [hc];(repeat' split) <;> omega
  rw [s',c'];exact ⟨by omega,by omega,by omega⟩

theorem Jj {x y a:Int} (hx : -262144≤x∧x≤262144) (hy : -262144≤y∧y≤262144) (h0:0≤a) (h1:a≤65535) :
  (-65536≤65536*mE x y a-(ni a*x-kZ a*y)∧65536*mE x y a-(ni a*x-kZ a*y)≤65536)∧(-65536≤65536*mg x y a-(kZ a*x+ni a*y)∧65536*mg x y a-(kZ a*x+ni a*y)≤65536)∧(-600000≤mE x y a∧mE x y a≤600000)∧(-600000≤mg x y a∧mg x y a≤600000):=by
 obtain ⟨_,bc,bs⟩:=JH h0 h1;unfold mE mg;generalize ni a=c at *
 generalize kZ a=s at *
 have H:∀ u v:Int,(-262144≤u∧u≤262144)→(-65536≤v∧v≤65536)→(-32768≤65536*aX u v-u*v∧65536*aX u v-u*v≤32768)∧(-262145≤aX u v∧aX u v≤262145):=by
  intro u v hu hv;obtain ⟨e,_,_⟩:=Nb (a:=u) (b:=v) (by omega) (by omega);obtain ⟨r1,r2⟩:=CS (W:=u*v) (n:=65536) (by omega);have m:=dh (x:=u) (y:=v) (M:=262144) (N:=65536) (by omega) (by omega) (by omega) (by omega);rw [e];generalize kM (u*v) 65536=q at *
  generalize u*v=z at *
  omega
 obtain ⟨a1,a2⟩:=H x c hx bc;obtain ⟨b1,b2⟩:=H y s hy bs;obtain ⟨c1,c2⟩:=H x s hx bs;obtain ⟨d1,d2⟩:=H y c hy bc;rw [NA (by omega) (by omega),BQ (by omega) (by omega),Int.mul_comm c x,Int.mul_comm s y,Int.mul_comm s x,Int.mul_comm c y];generalize x*c=z1 at *
 generalize y*s=z2 at *
 generalize x*s=z3 at *
 generalize y*c=z4 at *
 omega

theorem O9 {b:Bd} (h:jO b) {p q:Int} (ht : -600000≤mE p q b.ang∧mE p q b.ang≤600000):wX b p q=mE p q b.ang+b.px:=by
 have:=h.px;unfold wX;exact BQ (by omega) (by omega)
theorem OW {b:Bd} (h:jO b) {p q:Int} (ht : -600000≤mg p q b.ang∧mg p q b.ang≤600000):wY b p q=mg p q b.ang+b.py:=by
 have:=h.py;unfold wY;exact BQ (by omega) (by omega)
theorem Dy {l:List V} {m:Int} (h:∀ j,j<l.length→aI m (px l j) (py l j)=true):aP m l=true:=by
 unfold aP;rw [List.all_eq_true];intro x hx;obtain ⟨j,hj,rfl⟩:=List.mem_iff_getElem.1 hx;have:=h j hj;simpa [px,py,hj] using this

end
end Go.Proofs.YtokgmcomgflloaaGreat
