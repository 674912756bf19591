/- Parts of a proof: contracts and laws. -/
import Derived.Test.YtokgmcomgflloaaGreatQP15
import Derived.Test.YtokgmcomgflloaaGreatQP09
import Derived.Test.YtokgmcomgflloaaGreatQP10
import Derived.Test.YtokgmcomgflloaaGreatQP35
set_option maxRecDepth 100000
set_option maxHeartbeats 16000000
namespace Go.Proofs.YtokgmcomgflloaaGreat
section
set_option linter.unusedVariables false
set_option linter.unusedSimpArgs false
open Go.RowKit
variable {w0 w w':World}

structure JW (w : World) (g : Nat) (b : Bd) (l : List V) (k : Nat) : Prop where
 lt:g<w.heap.size
 x:∀ j,j<k→w.cell? ⟨g,j*2,none⟩=some (.int .i64 (wX b (px l j) (py l j)))
 y:∀ j,j<k→w.cell? ⟨g,j*2+1,none⟩=some (.int .i64 (wY b (px l j) (py l j)))
 c:∀ j,j<l.length*2→∃ v,w.cell? ⟨g,j,none⟩=some v
 free:∀ j,w.frozen? ⟨g,j,none⟩=false
theorem JW.drew {g:Nat} {b:Bd} {l:List V} {k:Nat} (h:JW w g b l k):JW w.drew g b l k:=⟨h.lt,h.x,h.y,h.c,h.free⟩
theorem JW.set {g:Nat} {b:Bd} {l:List V} {k:Nat} (h:JW w g b l k) (hk:k<l.length) :
  JW ((w.setCell ⟨g,k*2,none⟩ (.int .i64 (wX b (px l k) (py l k)))).setCell ⟨g,k*2+1,none⟩ (.int .i64 (wY b (px l k) (py l k)))) g b l (k+1):=by
 obtain ⟨z0,y0⟩:=h.c (k*2) (by omega);obtain ⟨z1,y1⟩:=h.c (k*2+1) (by omega);refine ⟨by simpa using h.lt,fun j hj=>?_,fun j hj=>?_,fun j hj=>?_,fun j=>by rw [World.frozen?_setCell,World.frozen?_setCell];exact h.free j⟩
 ·by_cases e : j = k
  ·subst e;go_simp
  ·have := h.x j (by omega);have n1:¬ (k*2=j*2):=by omega
   have n2:¬ (k*2+1=j*2):=by omega
   have n3:¬ (j*2=k*2):=by omega
   have n4:¬ (j*2=k*2+1):=by omega
   go_simp
 ·by_cases e : j = k
  ·subst e;go_simp
  ·have := h.y j (by omega);have n1:¬ (k*2=j*2+1):=by omega
   have n2:¬ (k*2+1=j*2+1):=by omega
   have n3:¬ (j*2+1=k*2):=by omega
   have n4:¬ (j*2+1=k*2+1):=by omega
   go_simp
 ·obtain ⟨v, hv⟩ := h.c j hj
  by_cases e:k*2+1=j
  ·subst e;exact ⟨.int .i64 (wY b (px l k) (py l k)),by go_simp⟩
  ·by_cases e2 : k * 2 = j
   ·subst e2;exact ⟨.int .i64 (wX b (px l k) (py l k)),by go_simp⟩
   ·exact ⟨v,by go_simp⟩
theorem oJ {b:Bd} {l:List V} {j:Nat} (h:j<l.length):px (bT b l) j=wX b (px l j) (py l j):=by simp [px,py,bT,h]
theorem oI {b:Bd} {l:List V} {j:Nat} (h:j<l.length):py (bT b l) j=wY b (px l j) (py l j):=by simp [px,py,bT,h]
theorem zy:∀ k,k<64→iH k≤iH (k+1):=by decide
theorem I7:∀ k,k<64→4000000000≤iH k*iH k+iH (63-k)*iH (63-k):=by decide
theorem xK {a:Int} (h0:0≤a) (h1:a≤16384):iH (a / 256).toNat≤bE a∧bE a≤65536:=by
 unfold bE;obtain ⟨k,hk⟩:∃ k,k=(a / 256).toNat:=⟨_,rfl⟩;rw [← hk];have bk:=lD k
 by_cases hz:a % 256=0
 ·rw [if_pos hz];omega
 ·rw [if_neg hz];have hm:=zy k (by omega);have bk1:=lD (k+1);obtain ⟨d,hd⟩:∃ d,d=iH (k+1)-iH k:=⟨_,rfl⟩;obtain ⟨f,hf⟩:∃ f,f=a % 256:=⟨_,rfl⟩;rw [← hd,← hf];have m0:0≤d*f:=Int.mul_nonneg (by omega) (by omega);have m1:d*f≤d*255:=Int.mul_le_mul_of_nonneg_left (by omega) (by omega);rw [Int.tdiv_eq_ediv_of_nonneg (by omega)];generalize d*f=z at *
  omega

theorem CK {r:Int} (h0:0≤r) (h1:r<16384):4000000000≤bE r*bE r+bE (16384-r)*bE (16384-r)∧(0≤bE r∧bE r≤65536)∧(0≤bE (16384-r)∧bE (16384-r)≤65536):=by
 obtain ⟨a1,a2⟩:=xK (a:=r) h0 (by omega);obtain ⟨b1,b2⟩:=xK (a:=16384-r) (by omega) (by omega);obtain ⟨k,hk⟩:∃ k,k=(r / 256).toNat:=⟨_,rfl⟩;have hk64:k<64:=by omega
 have hb:iH (63-k)≤iH ((16384-r) / 256).toNat:=by
  by_cases hz:r % 256=0
  ·rw [show ((16384-r) / 256).toNat=63-k+1 by omega];exact zy _ (by omega)
  ·rw [show ((16384-r) / 256).toNat=63-k by omega];exact Int.le_refl _
 rw [← hk] at a1;have n:=I7 k hk64;have t1:=lD k;have t2:=lD (63-k);have s1:iH k*iH k≤bE r*bE r:=Int.mul_le_mul a1 a1 (by omega) (by omega);have s2:iH (63-k)*iH (63-k)≤bE (16384-r)*bE (16384-r):=Int.mul_le_mul (by omega) (by omega) (by omega) (by omega);exact ⟨by omega,⟨by omega,a2⟩,⟨by omega,b2⟩⟩
theorem zH {a:Int} (h0:0≤a) (h1:a≤65535):4000000000≤lS a*lS a+kE a*kE a∧(-65536≤lS a∧lS a≤65536)∧(-65536≤kE a∧kE a≤65536):=by
 obtain ⟨r,hr⟩:∃ r,r=a % 16384:=⟨_,rfl⟩;obtain ⟨n,p1,p2⟩:=CK (r:=r) (by omega) (by omega)
 have hs:kE a=if a / 16384=0 then bE r else if a / 16384=1 then bE (16384-r) else if a / 16384=2 then-bE r else-bE (16384-r):=by
  unfold kE;rw [show a % 65536 / 16384=a / 16384 by omega,← hr]
 have hc:lS a=if (a / 16384+1) % 4=0 then bE r else if (a / 16384+1) % 4=1 then bE (16384-r) else if (a / 16384+1) % 4=2 then-bE r else-bE (16384-r):=by
  unfold lS kE;rw [show (a % 65536+16384) % 65536 / 16384=(a / 16384+1) % 4 by omega,show (a % 65536+16384) % 16384=r by omega]
 generalize bE r=x at *
 generalize bE (16384-r)=y at *
 have hq:a / 16384=0∨a / 16384=1∨a / 16384=2∨a / 16384=3:=by omega
 have e1 : -x * -x=x*x:=Int.neg_mul_neg x x;have e2 : -y * -y=y*y:=Int.neg_mul_neg y y
 rcases hq with h | h | h | h
 ·have s' : kE a = x := by rw [hs]; (repeat' split) <;> omega
  have c':lS a=y:=by rw [hc];(repeat' split) <;> omega
  rw [s',c'];exact ⟨by omega,by omega,by omega⟩
 ·have s' : kE a = y := by rw [hs]; (repeat' split) <;> omega
  have c':lS a = -x:=by rw [hc];(repeat' split) <;> omega
  rw [s',c'];exact ⟨by omega,by omega,by omega⟩
 ·have s' : kE a = -x := by rw [hs]; (repeat' split) <;> omega
  have c':lS a = -y:=by rw [hc];(repeat' split) <;> omega
  rw [s',c'];exact ⟨by omega,by omega,by omega⟩
 ·have s' : kE a = -y := by rw [hs]; (repeat' split) <;> omega
  have c':lS a=x:=by rw [hc];(repeat' split) <;> omega
  rw [s',c'];exact ⟨by omega,by omega,by omega⟩

theorem zN {W n:Int} (hn:0<n):2*(n*mK W n)≤2*W+n∧2*W+n<2*(n*mK W n)+2*n:=by
 have e:mK W n=(2*W+n) / (2*n):=by unfold mK;rw [if_neg (by omega)]
 rw [e];have h:=Int.emod_add_mul_ediv (2*W+n) (2*n);have h2:=Int.emod_nonneg (2*W+n) (show 2*n≠0 by omega);have h3:=Int.emod_lt_of_pos (2*W+n) (show 0<2*n by omega);have h4:2*n*((2*W+n) / (2*n))=2*(n*((2*W+n) / (2*n))):=by grind
 omega
theorem NI {a b:Int} (ha : -2097152≤a∧a≤2097152) (hb : -65536≤b∧b≤65536):bH a b=mK (a*b) 65536:=by
 have m:=bZ (x:=a) (y:=b) (M:=2097152) (N:=65536) (by omega) (by omega) (by omega) (by omega);obtain ⟨r1,r2⟩:=zN (W:=a*b) (n:=65536) (by omega);unfold bH NW;rw [iR (a:=a) (by omega) (by omega),iR (a:=b) (by omega) (by omega),show aS 65536=65536 by decide,if_neg (by omega)];exact iR (by omega) (by omega)
theorem xZ {a b:Int} (ha : -549755813888≤a∧a≤549755813888) (hb : -549755813888≤b∧b≤549755813888):fV a b=a+b:=by
 unfold fV;rw [iR (a:=a) (by omega) (by omega),iR (a:=b) (by omega) (by omega)];exact iR (by omega) (by omega)
theorem MF {a b:Int} (ha : -549755813888≤a∧a≤549755813888) (hb : -549755813888≤b∧b≤549755813888):iN a b=a-b:=by
 unfold iN;rw [iR (a:=a) (by omega) (by omega),iR (a:=b) (by omega) (by omega)];exact iR (by omega) (by omega)
theorem EY {x y a:Int} (hx : -2097152≤x∧x≤2097152) (hy : -2097152≤y∧y≤2097152) (h0:0≤a) (h1:a≤65535) :
  (-65536≤65536*l9 x y a-(lS a*x-kE a*y)∧65536*l9 x y a-(lS a*x-kE a*y)≤65536)∧(-65536≤65536*mE x y a-(kE a*x+lS a*y)∧65536*mE x y a-(kE a*x+lS a*y)≤65536)∧(-4200000≤l9 x y a∧l9 x y a≤4200000)∧(-4200000≤mE x y a∧mE x y a≤4200000):=by
 obtain ⟨_,bc,bs⟩:=zH h0 h1;unfold l9 mE;generalize lS a=c at *
 generalize kE a=s at *
 have H:∀ u v:Int,(-2097152≤u∧u≤2097152)→(-65536≤v∧v≤65536)→(-32768≤65536*bH u v-u*v∧65536*bH u v-u*v≤32768)∧(-2097153≤bH u v∧bH u v≤2097153):=by
  intro u v hu hv;have e:=NI (a:=u) (b:=v) (by omega) (by omega);obtain ⟨r1,r2⟩:=zN (W:=u*v) (n:=65536) (by omega);have m:=bZ (x:=u) (y:=v) (M:=2097152) (N:=65536) (by omega) (by omega) (by omega) (by omega);rw [e];generalize mK (u*v) 65536=q at *
  generalize u*v=z at *
  omega
 obtain ⟨a1,a2⟩:=H x c hx bc;obtain ⟨b1,b2⟩:=H y s hy bs;obtain ⟨c1,c2⟩:=H x s hx bs;obtain ⟨d1,d2⟩:=H y c hy bc;rw [MF (by omega) (by omega),xZ (by omega) (by omega),Int.mul_comm c x,Int.mul_comm s y,Int.mul_comm s x,Int.mul_comm c y];generalize x*c=z1 at *
 generalize y*s=z2 at *
 generalize x*s=z3 at *
 generalize y*c=z4 at *
 omega
theorem vH (x:Int) : -aO x≤x∧x≤aO x∧0≤aO x∧(aO x=0→x=0):=by unfold aO;split <;> omega

theorem LX {c s ex ey fx fy d1 d2 d3 d4 Ex Ey Fx Fy : Int} (h1 : 65536 * Ex = c * ex - s * ey + d1) (h2 : 65536 * Ey = s * ex + c * ey + d2) (h3 : 65536 * Fx = c * fx - s * fy + d3) (h4 : 65536 * Fy = s * fx + c * fy + d4)
  (b1 : -131072≤d1∧d1≤131072) (b2 : -131072≤d2∧d2≤131072) (b3 : -131072≤d3∧d3≤131072) (b4 : -131072≤d4∧d4≤131072)
  (bc : -65536≤c∧c≤65536) (bs : -65536≤s∧s≤65536) (hN:4000000000≤c*c+s*s) (h0:0<ex*fy-ey*fx) (hC:8*((aO ex+aO ey)+(aO fx+aO fy))≤ex*fy-ey*fx):0<Ex*Fy-Ey*Fx:=by
 obtain ⟨P,hP⟩:∃ P,P=c*ex-s*ey:=⟨_,rfl⟩;obtain ⟨Q,hQ⟩:∃ Q,Q=s*ex+c*ey:=⟨_,rfl⟩;obtain ⟨R,hR⟩:∃ R,R=c*fx-s*fy:=⟨_,rfl⟩;obtain ⟨S,hS⟩:∃ S,S=s*fx+c*fy:=⟨_,rfl⟩;have id1:P*S-Q*R=(c*c+s*s)*(ex*fy-ey*fx):=by rw [hP,hQ,hR,hS];grind
 obtain ⟨x1,x2,x3,x4⟩:=vH ex;obtain ⟨y1,y2,y3,y4⟩:=vH ey;obtain ⟨u1,u2,u3,u4⟩:=vH fx;obtain ⟨v1,v2,v3,v4⟩:=vH fy;have M:∀ u v m:Int,(-65536≤u∧u≤65536) → -m≤v→v≤m → -(65536*m)≤u*v∧u*v≤65536*m:=fun u v m hu h1 h2=>bZ (x:=u) (y:=v) (M:=65536) (N:=m) hu.1 hu.2 h1 h2
 have g1:=M c ex _ bc x1 x2;have g2:=M s ey _ bs y1 y2;have g3:=M s ex _ bs x1 x2;have g4:=M c ey _ bc y1 y2;have g5:=M c fx _ bc u1 u2;have g6:=M s fy _ bs v1 v2;have g7:=M s fx _ bs u1 u2;have g8:=M c fy _ bc v1 v2
 have three:3≤(aO ex+aO ey)+(aO fx+aO fy):=by
  have m1:=bZ (x:=ex) (y:=fy) (M:=aO ex) (N:=aO fy) x1 x2 v1 v2;have m2:=bZ (x:=ey) (y:=fx) (M:=aO ey) (N:=aO fx) y1 y2 u1 u2
  rcases Int.lt_or_le ((aO ex+aO ey)+(aO fx+aO fy)) 3 with g | g
  ·exfalso
   have k1:aO ex*aO fy≤1:=by
    have e:aO ex=0∨aO ex=1∨aO ex=2:=by omega
    rcases e with h | h | h <;> rw [h] <;> omega
   have k2:aO ey*aO fx≤1:=by
    have e:aO ey=0∨aO ey=1∨aO ey=2:=by omega
    rcases e with h | h | h <;> rw [h] <;> omega
   have e1:1≤(aO ex+aO ey)+(aO fx+aO fy):=by
    rcases Int.lt_or_le ((aO ex+aO ey)+(aO fx+aO fy)) 1 with q | q
    ·have := x4 (by omega);have:=y4 (by omega);subst ex ey;simp at h0
    ·exact q
   omega
  ·exact g
 generalize hE:aO ex+aO ey=E at *
 generalize hF:aO fx+aO fy=F at *
 have bP : -(65536*E)≤P∧P≤65536*E:=by omega
 have bQ : -(65536*E)≤Q∧Q≤65536*E:=by omega
 have bR : -(65536*F)≤R∧R≤65536*F:=by omega
 have bS : -(65536*F)≤S∧S≤65536*F:=by omega
 have D:∀ u v m:Int,(-(65536*m)≤u∧u≤65536*m)→(-131072≤v∧v≤131072) → -(8589934592*m)≤u*v∧u*v≤8589934592*m:=fun u v m hu hv=>by
  have:=bZ (x:=u) (y:=v) (M:=65536*m) (N:=131072) hu.1 hu.2 hv.1 hv.2;omega
 have k1:=D P d4 E bP b4;have k2:=D S d1 F bS b1;have k3:=D Q d3 E bQ b3;have k4:=D R d2 F bR b2;have k5:=bZ (x:=d1) (y:=d4) (M:=131072) (N:=131072) b1.1 b1.2 b4.1 b4.2;have k6:=bZ (x:=d2) (y:=d3) (M:=131072) (N:=131072) b2.1 b2.2 b3.1 b3.2;have hbig:4000000000*(ex*fy-ey*fx)≤(c*c+s*s)*(ex*fy-ey*fx):=Int.mul_le_mul_of_nonneg_right hN (by omega)
 have e:65536*Ex*(65536*Fy)-65536*Ey*(65536*Fx)=P*S-Q*R+P*d4+S*d1+d1*d4-Q*d3-R*d2-d2*d3:=by
  rw [h1,h2,h3,h4,← hP,← hQ,← hR,← hS];grind
 have e2:65536*Ex*(65536*Fy)-65536*Ey*(65536*Fx)=4294967296*(Ex*Fy-Ey*Fx):=by grind
 rw [e2,id1] at e;generalize (c*c+s*s)*(ex*fy-ey*fx)=z at *
 generalize ex*fy-ey*fx=cr0 at *
 generalize Ex*Fy-Ey*Fx=y at *
 generalize P*d4=z1 at *
 generalize S*d1=z2 at *
 generalize d1*d4=z3 at *
 generalize Q*d3=z4 at *
 generalize R*d2=z5 at *
 generalize d2*d3=z6 at *
 omega
theorem Qy {l:List V} (h:oq l=true) {i k:Nat} (hi:i<l.length) (hk:k<l.length):iJ l i k=false:=by
 cases hb:iJ l i k with
 | false=>rfl
 | true=>rw [CW hi hk hb] at h;cases h
theorem FW {l:List V} (h:fT l=0):aP l=0∧aF 2097152 l=true∧oq l=true:=by
 have hc:=jk h;unfold fT at h;rw [if_neg (by simp [hc])] at h
 by_cases hw:aF 2097152 l=false
 ·rw [if_pos hw] at h;cases h
 ·rw [if_neg hw] at h
  by_cases hf:oq l=false∨hasB l 0 0=false
  ·rw [if_pos hf] at h;cases h
  ·refine ⟨hc, by simpa using hw, ?_⟩
   cases q:oq l with
   | true=>rfl
   | false=>exact absurd (.inl q) hf
theorem Cc {l:List V} {m:Int} (h:∀ j,j<l.length→aL m (px l j) (py l j)=true):aF m l=true:=by
 unfold aF;rw [List.all_eq_true];intro x hx;obtain ⟨j,hj,rfl⟩:=List.mem_iff_getElem.1 hx;have:=h j hj;simpa [px,py,hj] using this
theorem oK {b:Bd} {l:List V} (h:bG b l=0):aP (bT b l)=0:=by
 obtain ⟨hsh,hnu⟩:=fA h;obtain ⟨hc,hw,hf⟩:=FW hsh;obtain ⟨h8,h3,_,hrow⟩:=aU hc;obtain ⟨hp,_,_,hang,_,_⟩:=sM hnu;obtain ⟨hN,bc,bs⟩:=zH hang.1 hang.2;have T:∀ j,j<l.length→_:=fun j hj=>EY (x:=px l j) (y:=py l j) (a:=b.ang) (by have:=aA.1 (aD hw hj);omega) (by have:=aA.1 (aD hw hj);omega) hang.1 hang.2
 have WX:∀ j,j<l.length→wX b (px l j) (py l j)=l9 (px l j) (py l j) b.ang+b.px:=fun j hj=>by have:=(T j hj).2.2.1;unfold wX;exact xZ (by omega) (by omega)
 have WY:∀ j,j<l.length→wY b (px l j) (py l j)=mE (px l j) (py l j) b.ang+b.py:=fun j hj=>by have:=(T j hj).2.2.2;unfold wY;exact xZ (by omega) (by omega)
 refine oM (by rw [iI];omega) (by rw [iI];omega) ?_ ?_
 ·refine Cc fun j hj => ?_
  rw [iI] at hj;obtain ⟨_,_,t3,t4⟩:=T j hj;rw [oJ hj,oI hj,WX j hj,WY j hj];exact aA.2 (by omega)
 ·intro i hi k hk;rw [iI] at hi hk;have hj:(i+1) % l.length<l.length:=Nat.mod_lt _ (by omega);refine jU ?_;rw [iI]
  by_cases hki:k=i
  ·exact .inl hki
  by_cases hkj:k=(i+1) % l.length
  ·exact .inr (.inl hkj)
  refine .inr (.inr ?_);have hfa:=Qy hf hi hk;have hro:=hrow i hi k hk;unfold iJ at hfa;unfold fP at hro;rw [decide_eq_false_iff_not] at hfa hro;have e0:0<dH l i ((i+1) % l.length) k:=Int.lt_of_not_ge fun q=>hro ⟨hki,hkj,q⟩
  have e:8*(uP l i ((i+1) % l.length)+uP l i k)≤dH l i ((i+1) % l.length) k:=Int.le_of_not_gt fun q=>hfa ⟨hki,hkj,q⟩
  clear hfa hro;obtain ⟨j,hje⟩:∃ j,j=(i+1) % l.length:=⟨_,rfl⟩;rw [← hje] at hj e e0 ⊢;unfold dH fQ at e e0 ⊢;unfold uP at e;obtain ⟨i1,i2,i3,i4⟩:=T i hi;obtain ⟨j1,j2,j3,j4⟩:=T j hj;obtain ⟨k1,k2,k3,k4⟩:=T k hk;rw [oJ hi,oI hi,oJ hj,oI hj,oJ hk,oI hk,WX i hi,WY i hi,WX j hj,WY j hj,WX k hk,WY k hk];generalize lS b.ang=c at *
  generalize kE b.ang=s at *
  clear T WX WY;generalize l9 (px l i) (py l i) b.ang=Xi at *
  generalize mE (px l i) (py l i) b.ang=Yi at *
  generalize l9 (px l j) (py l j) b.ang=Xj at *
  generalize mE (px l j) (py l j) b.ang=Yj at *
  generalize l9 (px l k) (py l k) b.ang=Xk at *
  generalize mE (px l k) (py l k) b.ang=Yk at *
  generalize px l i=xi at *
  generalize py l i=yi at *
  generalize px l j=xj at *
  generalize py l j=yj at *
  generalize px l k=xk at *
  generalize py l k=yk at *
  have r1:c*(xj-xi)-s*(yj-yi)=(c*xj-s*yj)-(c*xi-s*yi):=by grind
  have r2:s*(xj-xi)+c*(yj-yi)=(s*xj+c*yj)-(s*xi+c*yi):=by grind
  have r3:c*(xk-xi)-s*(yk-yi)=(c*xk-s*yk)-(c*xi-s*yi):=by grind
  have r4:s*(xk-xi)+c*(yk-yi)=(s*xk+c*yk)-(s*xi+c*yi):=by grind
  have := LX (c := c) (s := s) (ex := xj - xi) (ey := yj - yi) (fx := xk - xi) (fy := yk - yi) (Ex := Xj - Xi) (Ey := Yj - Yi) (Fx := Xk - Xi) (Fy := Yk - Yi)
   (d1:=(65536*Xj-(c*xj-s*yj))-(65536*Xi-(c*xi-s*yi))) (d2:=(65536*Yj-(s*xj+c*yj))-(65536*Yi-(s*xi+c*yi))) (d3:=(65536*Xk-(c*xk-s*yk))-(65536*Xi-(c*xi-s*yi))) (d4:=(65536*Yk-(s*xk+c*yk))-(65536*Yi-(s*xi+c*yi)))
   (by rw [r1];omega) (by rw [r2];omega) (by rw [r3];omega) (by rw [r4];omega) (by omega) (by omega) (by omega) (by omega) bc bs hN (by grind) (by grind)
  grind
def FE (k:Nat) (h:Option Int) (o:Option (Nat × Int)):Option (Nat × Int) :=
 match h with
 | none=>o
 | some t=>match o with
  | none=>some (k,t)
  | some (a,b)=>if t<b then some (k,t) else some (a,b)

def qZ (hit : List V → Option Int) (L : List BE) : Nat → Option (Nat × Int)
 | 0=>none
 | k+1=>match L[k]? with
  | none=>qZ hit L k
  | some x=>FE k (hit (bT x.b x.l)) (qZ hit L k)
theorem IZ {hit:List V→Option Int} {L:List BE} {k:Nat} (hk:k<L.length):qZ hit L (k+1)=FE k (hit (bT L[k].b L[k].l)) (qZ hit L k):=by
 rw [qZ,List.getElem?_eq_getElem hk]
def RA : Option (Nat × Int) → Int
 | none => -1
 | some (a,_)=>a
def beZ : Option (Nat × Int) → Int
 | none=>0
 | some (_,b)=>b
def Tm : Option (Nat × Int) → Int
 | none=>0
 | some (a,_)=>a
def Tn : Option (Nat × Int) → Int
 | none=>4
 | some _=>0
def SF (o:Option (Nat × Int)):Value:=.tuple #[.int .i64 (Tm o),.int .i64 (beZ o),.int .i64 (Tn o)]


theorem xD (F : Nat) (c1 c2 : Value) (hcf : ∀ (args : Array Value) (w : World), (callFunc F args).run Tryz.prog w = .ok (.enter F args) w) (hit : List V → Option Int) (A : Option Addr) (n c : Nat) (L : List BE) (w : World) (hS : kM w A n c L) (hv : ∀ x ∈ L, bG x.b x.l = 0) (h64 : L.length ≤ 64)
  (HH0:∀ x ∈ L,∀ A n c w',Below w.heap.size w w'→Sl w' A n c (bT x.b x.l)→Calls Tryz.prog F #[.slice A n c,c1,c2] w' (dS (.tuple #[.int .i64 ((hit (bT x.b x.l)).getD 0),.bool (hit (bT x.b x.l)).isSome]) w')) :
  Calls Tryz.prog 104 #[.slice A n c,.func (.func F) #[] #[c1,c2]] w (dS (SF (qZ hit L L.length)) w):=by
 have hn:=hS.sl.len;have hcap:=hS.sl.cap;have hbig:=hS.sl.big;subst hn;have HS:=hid hS;have HV:=hid hv;have HH:=hid HH0;clear hS hv HH0
 go_enter Tryz.func104,Tryz.ntmps104
 go_wp2
 go_loopw [7,8,15] (fun a b i wr=>∃ (k:Nat) (o:Option (Nat × Int)),k≤L.length∧i = .int .i64 k∧a = .int .i64 (RA o)∧b = .int .i64 (beZ o)∧qZ hit L k=o∧Below w.heap.size w wr) (fun _ _ i _=>L.length-(intOf i).toNat)
 case atStart=>exact ⟨0,none,Nat.zero_le _,rfl,rfl,rfl,rfl,Below.refl _ _⟩
 case round =>
  obtain ⟨k,o,hk,rfl,rfl,rfl,ho,hB⟩:=hrel;obtain ⟨wo,rfl⟩:∃ wo:World,wo=wr:=⟨_,rfl⟩;have HSw:=hid (HS.out.below hB);have HO:=hid ho;clear ho
  by_cases hlt:k<L.length
  ·obtain ⟨ba, off, hA, hC⟩ := HSw.out.sl.at_ (by intro h; subst h; simp at hlt);subst hA;obtain ⟨x,hx⟩:∃ x,x=L[k]:=⟨_,rfl⟩;have hxm:x ∈ L:=by rw [hx];exact List.getElem_mem hlt
   have HX:=hid (show Sl wo x.A x.n x.c x.l from HSw.out.co x hxm);obtain ⟨d0,d1,d2,d3,d4,d5,d6,d7,d8,d9,d10,d11,d12⟩:=dP hC hlt hx;have hbo:=hC.lt;have hlt':(k:Int)<(L.length:Int):=by omega
   have hkw:IntKind.i64.wrap ((k:Int)+1)=(k:Int)+1:=IntWalk.i64_in _ (by omega);have HPR:Hid (jH x.b x.l=bT x.b x.l):=by show _=_;unfold jH;rw [if_neg (by rw [HV.out x hxm];simp)]
   have HST:Hid (qZ hit L (k+1)=FE k (hit (bT x.b x.l)) o):=by show _=_;rw [IZ hlt,HO.out,hx]
   have HF:=hid (HH.out x hxm);clear hC hx HSw HO hxm
   go_wp2_with fail
   have HX2:=hid (HX.out.alloc (.cells #[.int .i64 x.b.px,.int .i64 x.b.py,.int .i64 x.b.vx,.int .i64 x.b.vy,.int .i64 x.b.ang,.int .i64 x.b.spin,.int .i64 x.b.mass,.int .i64 x.b.iner,.int .i64 x.b.bounce,.int .i64 x.b.rub,.slice x.A x.n x.c,.bool x.b.asleep,.int .i64 x.b.calm] 27));refine (kH x.b x.A x.n x.c x.l _ HX2.out).mono ?_;rintro e w1 ⟨A1,n1,c1',rfl,hs1,-,-,hb1⟩;rw [HPR.out] at hs1;have HS1:=hid hs1;have hB1:Below w.heap.size w w1:=aj hb1 (hB.alloc hB.size _);clear hb1 HX HX2 hB hs1 HPR d0 d1 d2 d3 d4 d5 d6 d7 d8 d9 d10 d11 d12 hbo;generalize bT x.b x.l=pl at *
   go_wp2_with fail
   refine (HF.out _ _ _ _ hB1 HS1.out).mono ?_;rintro e w2 ⟨rfl,hb2⟩;have hB2:=aj hb2 hB1;clear hb2 hB1 HS1 HF
   cases hh:hit pl with
   | none =>
    have HN:Hid (qZ hit L (k+1)=o):=by show _=_;rw [HST.out,hh];rfl
    clear HST hh;simp only [Option.getD_none,Option.isSome_none];go_wp2;go_roundw
    case rel=>exact ⟨k+1,o,by omega,by go_num,rfl,rfl,HN.out,hB2⟩
    case measure=>simp [intOf] <;> omega
   | some t =>
    simp only [Option.getD_some,Option.isSome_some]
    cases o with
    | none =>
     have HN:Hid (qZ hit L (k+1)=some (k,t)):=by show _=_;rw [HST.out,hh];rfl
     clear HST hh;simp only [RA,beZ];go_wp2;go_roundw
     case rel=>exact ⟨k+1,some (k,t),by omega,by go_num,rfl,rfl,HN.out,hB2⟩
     case measure=>simp [intOf] <;> omega
    | some ab =>
     obtain ⟨a,b⟩:=ab;have hna:¬ ((a:Int)<0):=by omega
     simp only [RA,beZ]
     by_cases hl:t<b
     ·have HN : Hid (qZ hit L (k + 1) = some (k, t)) := by show _ = _; rw [HST.out, hh]; show (if t < b then some (k, t) else some (a, b)) = _; rw [if_pos hl]
      clear HST hh;go_wp2;go_roundw
      case rel=>exact ⟨k+1,some (k,t),by omega,by go_num,rfl,rfl,HN.out,hB2⟩
      case measure=>simp [intOf] <;> omega
     ·have HN : Hid (qZ hit L (k + 1) = some (a, b)) := by show _ = _; rw [HST.out, hh]; show (if t < b then some (k, t) else some (a, b)) = _; rw [if_neg hl]
      clear HST hh;go_wp2;go_roundw
      case rel=>exact ⟨k+1,some (a,b),by omega,by go_num,rfl,rfl,HN.out,hB2⟩
      case measure=>simp [intOf] <;> omega
  ·have hkn : k = L.length := by omega
   subst hkn;clear HSw HH HV
   cases o with
   | none =>
    simp only [RA,beZ];go_wp2;refine bodyPost_ret (v:=.tuple #[.int .i64 0,.int .i64 0,.int .i64 4]) (by simp [results,Tryz.results104,go_sem]) rfl ⟨by rw [HO.out];rfl,hB⟩
   | some ab =>
    obtain ⟨a,b⟩:=ab;have hna:¬ ((a:Int)<0):=by omega
    simp only [RA,beZ];go_wp2;refine bodyPost_ret (v:=.tuple #[.int .i64 a,.int .i64 b,.int .i64 0]) (by simp [results,Tryz.results104,go_sem]) rfl ⟨by rw [HO.out];rfl,hB⟩
theorem pQ (a b:Int) (w:World):Calls Tryz.prog 103 #[cZ a b] w (dS (.bool (aL 65536000 a b)) w):=by
 have HW:Hid (aL 65536000 a b=(decide (-65536000≤a) && decide (a≤65536000) && decide (-65536000≤b) && decide (b≤65536000))):=by
  show _=_;rw [Bool.eq_iff_iff,aA];simp [and_assoc]
 generalize aL 65536000 a b=R at *
 go_enter Tryz.func103,Tryz.ntmps103
 by_cases h1 : -65536000≤a
 ·by_cases h2 : a ≤ 65536000
  ·by_cases h3 : -65536000 ≤ b
   ·by_cases h4 : b ≤ 65536000
    ·have HR : Hid (R = true) := by show _ = _; rw [HW.out]; simp [h1, h2, h3, h4]
     clear HW
     skip
     go_wp2
     go_returns
     exact bg (by rw [HR.out];try simp [*]) (by go_grown)
    ·have HR : Hid (R = false) := by show _ = _; rw [HW.out]; simp [h1, h2, h3, h4]
     clear HW
     skip
     go_wp2
     go_returns
     exact bg (by rw [HR.out];try simp [*]) (by go_grown)
   ·have HR : Hid (R = false) := by show _ = _; rw [HW.out]; simp [h1, h2, h3]
    clear HW
    skip
    go_wp2
    go_returns
    exact bg (by rw [HR.out];try simp [*]) (by go_grown)
  ·have HR : Hid (R = false) := by show _ = _; rw [HW.out]; simp [h1, h2]
   clear HW
   skip
   go_wp2
   go_returns
   exact bg (by rw [HR.out];try simp [*]) (by go_grown)
 ·have HR : Hid (R = false) := by show _ = _; rw [HW.out]; simp [h1]
  clear HW
  skip
  go_wp2
  go_returns
  exact bg (by rw [HR.out];try simp [*]) (by go_grown)
theorem EI (A:Option Addr) (n c:Nat) (l:List V) (g1 g2:Nat) (fx fy ux uy:Int) (w:World) (hf:Cf w g1 fx fy) (hu:Cf w g2 ux uy) (hS:Sl w A n c l) (hw:aF 131072000 l=true) (hlen:l.length≤100000) (h0f:aL 65536000 fx fy=true) (h0u:aL 65536000 ux uy=true) :
  Calls Tryz.prog 105 #[.slice A n c,.pointer (some ⟨g1,0,none⟩),.pointer (some ⟨g2,0,none⟩)] w (dS (.tuple #[.int .i64 (OH l (fx,fy) (ux,uy)),.bool (O1 l (fx,fy) (ux,uy))]) w):=by
 have HC:=hid (DW A n c l fx fy ux uy w hS hw hlen h0f h0u);have hl1:=lt_of_cell hf.a;have hl2:=lt_of_cell hu.a;obtain ⟨f0,f1⟩:=hf;obtain ⟨u0,u1⟩:=hu;clear hS hw h0f h0u;generalize OH l (fx,fy) (ux,uy)=T at *
 generalize O1 l (fx,fy) (ux,uy)=B at *
 go_enter Tryz.func105,Tryz.ntmps105
 go_wp2_with fail
 refine HC.out.mono ?_;rintro e w1 ⟨rfl,hb⟩;go_wp2;refine bodyPost_ret (v:=.tuple #[.int .i64 T,.bool B]) (by simp [results,Tryz.results105,go_sem]) rfl ⟨rfl,hb⟩
theorem vX (args:Array Value) (w:World):(callFunc 105 args).run Tryz.prog w = .ok (.enter 105 args) w:=by kernel_rfl

def Ho (L:List BE) (f u:V):Option (Nat × Int):=qZ (fun p=>rP p f u) L L.length

def zI (L:List BE) (f u:V):Value:=if aX L≠0 then .tuple #[.int .i64 0,.int .i64 0,.int .i64 (aX L)] else if aL 65536000 f.1 f.2=false∨aL 65536000 u.1 u.2=false then .tuple #[.int .i64 0,.int .i64 0,.int .i64 1] else SF (Ho L f u)
theorem E9 (A:Option Addr) (n c:Nat) (L:List BE) (fx fy ux uy:Int) (w:World) (hS:kM w A n c L) :
  Calls Tryz.prog 41 #[.slice A n c,cZ fx fy,cZ ux uy] w (dS (zI L (fx,fy) (ux,uy)) w):=by
 obtain ⟨W,hW⟩:∃ W,W=(w.alloc (.cells #[.int .i64 fx,.int .i64 fy] 24)).alloc (.cells #[.int .i64 ux,.int .i64 uy] 24):=⟨_,rfl⟩;have f0:W.cell? ⟨w.heap.size,0,none⟩=some (.int .i64 fx):=by rw [hW];go_simp
 have f1:W.cell? ⟨w.heap.size,1,none⟩=some (.int .i64 fy):=by rw [hW];go_simp
 have u0:W.cell? ⟨w.heap.size+1,0,none⟩=some (.int .i64 ux):=by rw [hW];go_simp
 have u1:W.cell? ⟨w.heap.size+1,1,none⟩=some (.int .i64 uy):=by rw [hW];go_simp
 have hB:Below w.heap.size w W:=by rw [hW];go_grown
 have HSW:=hid hS;clear hS;have HE:Hid (zI L (fx,fy) (ux,uy)=if aX L≠0 then .tuple #[.int .i64 0,.int .i64 0,.int .i64 (aX L)] else if aL 65536000 fx fy=false∨aL 65536000 ux uy=false then .tuple #[.int .i64 0,.int .i64 0,.int .i64 1] else SF (Ho L (fx,fy) (ux,uy))):=rfl;have HWF:=hid (pQ fx fy);have HWU:=hid (pQ ux uy)
 go_enter Tryz.func41,Tryz.ntmps41
 go_wp2_with fail
 rw [← hW];clear hW;refine (kI A n c L _ (HSW.out.below hB)).mono ?_;rintro e w1 ⟨rfl,hb1⟩;replace f0:=keepCell hb1 f0;replace f1:=keepCell hb1 f1;replace u0:=keepCell hb1 u0;replace u1:=keepCell hb1 u1;replace hB:=aj hb1 hB;clear hb1
 by_cases hE:aX L=0
 case neg =>
  have HR:Hid (zI L (fx,fy) (ux,uy) = .tuple #[.int .i64 0,.int .i64 0,.int .i64 (aX L)]):=by show _=_;rw [HE.out,if_pos hE]
  have hne:(aX L != 0)=true:=by simp [hE]
  clear HE;generalize aX L=z at *
  go_wp2;refine bodyPost_ret (v:=.tuple #[.int .i64 0,.int .i64 0,.int .i64 z]) (by simp [results,Tryz.results41,go_sem]) rfl ⟨by rw [HR.out],hB⟩
 obtain ⟨h64,hval⟩:=gK hE;have HV:=hid hval;rw [if_neg (by simp [hE])] at HE;rw [hE];clear hE hval
 go_wp2_with fail
 refine (HWF.out _).mono ?_;rintro e w2 ⟨rfl,hb2⟩;replace f0:=keepCell hb2 f0;replace f1:=keepCell hb2 f1;replace u0:=keepCell hb2 u0;replace u1:=keepCell hb2 u1;replace hB:=aj hb2 hB;clear hb2 HWF
 cases h1:aL 65536000 fx fy with
 | false =>
  have HR:Hid (zI L (fx,fy) (ux,uy) = .tuple #[.int .i64 0,.int .i64 0,.int .i64 1]):=by show _=_;rw [HE.out,if_pos (.inl h1)]
  clear HE;go_wp2;refine bodyPost_ret (v:=.tuple #[.int .i64 0,.int .i64 0,.int .i64 1]) (by simp [results,Tryz.results41,go_sem]) rfl ⟨by rw [HR.out],hB⟩
 | true =>
  go_wp2_with fail
  refine (HWU.out _).mono ?_;rintro e w3 ⟨rfl,hb3⟩;replace f0:=keepCell hb3 f0;replace f1:=keepCell hb3 f1;replace u0:=keepCell hb3 u0;replace u1:=keepCell hb3 u1;replace hB:=aj hb3 hB;clear hb3 HWU
  cases h2:aL 65536000 ux uy with
  | false =>
   have HR:Hid (zI L (fx,fy) (ux,uy) = .tuple #[.int .i64 0,.int .i64 0,.int .i64 1]):=by show _=_;rw [HE.out,if_pos (.inr h2)]
   clear HE;go_wp2;refine bodyPost_ret (v:=.tuple #[.int .i64 0,.int .i64 0,.int .i64 1]) (by simp [results,Tryz.results41,go_sem]) rfl ⟨by rw [HR.out],hB⟩
  | true =>
   rw [if_neg (by rw [h1,h2];simp)] at HE;have HF0:Hid (Cf w3 w.heap.size fx fy):=⟨f0,f1⟩;have HU0:Hid (Cf w3 (w.heap.size+1) ux uy):=⟨u0,u1⟩
   have HC:=hid (xD 105 (.pointer (some ⟨w.heap.size,0,none⟩)) (.pointer (some ⟨w.heap.size+1,0,none⟩)) vX (fun p=>rP p (fx,fy) (ux,uy)) A n c L w3 (HSW.out.below hB) HV.out h64 (fun x hx A1 n1 c1 w' hb hs=>by
    have hok:=oK (HV.out x hx);obtain ⟨q8,q3,qw,-⟩:=aU hok
    exact EI A1 n1 c1 (bT x.b x.l) w.heap.size (w.heap.size+1) fx fy ux uy w' ⟨keepCell hb HF0.out.a,keepCell hb HF0.out.b⟩ ⟨keepCell hb HU0.out.a,keepCell hb HU0.out.b⟩ hs (zm (n:=131072000) qw (by omega)) (by omega) h1 h2))
   have HCO:Hid (Ho L (fx,fy) (ux,uy)=qZ (fun p=>rP p (fx,fy) (ux,uy)) L L.length):=rfl;rw [← HCO.out] at HC;generalize Ho L (fx,fy) (ux,uy)=o at *
   clear HCO h1 h2 HF0 HU0 HSW HV
   go_wp2_with fail
   refine HC.out.mono ?_;rintro e w4 ⟨rfl,hb4⟩;replace hB:=aj hb4 hB;clear hb4 HC f0 f1 u0 u1;have HFV:Hid (SF o = .tuple #[.int .i64 (Tm o),.int .i64 (beZ o),.int .i64 (Tn o)]):=rfl;rw [HFV.out] at HE ⊢;generalize Tm o=r1 at *
   generalize beZ o=r2 at *
   generalize Tn o=r3 at *
   go_wp2;refine bodyPost_ret (v:=.tuple #[.int .i64 r1,.int .i64 r2,.int .i64 r3]) (by simp [results,Tryz.results41,go_sem]) rfl ⟨by rw [HE.out],hB⟩
end
end Go.Proofs.YtokgmcomgflloaaGreat
