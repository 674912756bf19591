/- Parts of a proof: contracts and laws. -/
import Derived.Test.YtokgmcomgflloaaGreatQA13
import Derived.Test.YtokgmcomgflloaaGreatQA02
set_option maxRecDepth 100000
set_option maxHeartbeats 16000000
namespace Go.Proofs.YtokgmcomgflloaaGreat
section
set_option linter.unusedVariables false
set_option linter.unusedSimpArgs false
open Go.RowKit

def FQ : Nat → Nat
 | 0=>0
 | k+1=>2 ^ k
theorem II (k:Nat):2 ^ k / 2=FQ k:=by
 cases k with
 | zero=>rfl
 | succ k=>rw [Nat.pow_succ];show _=2 ^ k;omega
theorem or_bit (q k:Nat):(q*(2*2 ^ k)) ||| 2 ^ k=q*(2*2 ^ k)+2 ^ k:=by
 have h:=Nat.two_pow_add_eq_or_of_lt (i:=k+1) (b:=2 ^ k) (by rw [Nat.pow_succ];have:=Nat.two_pow_pos k;omega) q;rw [show (2:Nat) ^ (k+1)=2*2 ^ k by rw [Nat.pow_succ];omega,Nat.mul_comm] at h;exact h.symm
theorem C9 (hi lo:Int) (h0:0≤hi) (h1:hi<18446744073709551616) (l0:0≤lo) (l1:lo<18446744073709551616) (w:World) :
  Calls Tryz.prog 102 #[.int .u64 hi,.int .u64 lo] w (dG (.int .u64 (iE (hi*18446744073709551616+lo))) w):=by
 obtain ⟨n,hn⟩:∃ n,n=hi*18446744073709551616+lo:=⟨_,rfl⟩;rw [← hn]
 go_enter Tryz.func102,Tryz.ntmps102
 go_wp2
 go_loopw [5,6] (fun o b wr=>∃ (k q:Nat),k≤64∧o = .int .u64 ((q*2 ^ k:Nat):Int)∧b = .int .u64 ((FQ k:Nat):Int)∧q*2 ^ k+2 ^ k≤18446744073709551616∧jY n k ((q*2 ^ k:Nat):Int)=iE n∧Below w.heap.size w wr) (fun _ b _=>(intOf b).toNat)
 case atStart=>exact ⟨64,0,by omega,by simp,by simp [FQ],by decide,by simp [iE],Below.refl _ _⟩
 case round =>
  obtain ⟨k,q,hk,rfl,rfl,hle,hroot,hB⟩:=hrel;obtain ⟨wo,rfl⟩:∃ wo:World,wo=wr:=⟨_,rfl⟩;have HR:=hid hroot;clear hroot
  cases k with
  | zero =>
   have e0:((FQ 0:Nat):Int)=0:=rfl;have HQ:Hid (iE n=((q*2 ^ 0:Nat):Int)):=by show _=_;rw [← HR.out];rfl
   generalize ((q*2 ^ 0:Nat):Int)=a at *
   rw [e0];clear HR hle;go_wp2
   go_returns
   exact aB HQ.out.symm hB
  | succ k =>
   obtain ⟨P,hP⟩:∃ P,P=2 ^ k:=⟨_,rfl⟩;have hp0:0<P:=by rw [hP];exact Nat.two_pow_pos k
   have e2:2 ^ (k+1)=2*P:=by rw [Nat.pow_succ,hP];omega
   have eb:FQ (k+1)=P:=by rw [hP];rfl
   have ehalf:P / 2=FQ k:=by rw [hP];exact II k
   have eor:=or_bit q k;rw [← hP] at eor;rw [e2] at hle HR ⊢;rw [eb];obtain ⟨a,ha⟩:∃ a,a=q*(2*P):=⟨_,rfl⟩;rw [← ha] at hle HR eor ⊢;have hor:bits .or .u64 (a:Int) (P:Int)=((a+P:Nat):Int):=by rw [bits_or_u64_nat a P (by omega) (by omega),eor]
   obtain ⟨x,hx⟩:∃ x:Int,x=((a+P:Nat):Int):=⟨_,rfl⟩;rw [← hx] at hor;have hx0:0≤x:=by omega
   have hx1:x<18446744073709551616:=by omega
   obtain ⟨z,hz⟩:∃ z,z=x*x:=⟨_,rfl⟩;have hz0:0≤z:=by rw [hz];exact Int.mul_nonneg hx0 hx0
   have HM:=hid (mU x x hx0 hx1 hx0 hx1);rw [← hz] at HM
   have HS:Hid (jY n (k+1) (a:Int)=if z≤n then jY n k x else jY n k (a:Int)):=by
    show _=_;have ex:(a:Int)+2 ^ k=x:=by rw [hx,hP];simp
    rw [jY,ex,← hz]
   have hpos:(0:Int)<(P:Int):=by omega
   have hsh:(P:Int) / 2=((FQ k:Nat):Int):=by rw [← ehalf];omega
   have hA:a=2*q*2 ^ k:=by rw [ha,hP,Nat.mul_comm q,Nat.mul_comm 2 q];rw [Nat.mul_comm (2*2 ^ k) q,Nat.mul_comm q 2,Nat.mul_assoc 2 q,Nat.mul_left_comm]
   have hAX:a+P=(2*q+1)*2 ^ k:=by rw [Nat.add_mul,Nat.one_mul,← hA,hP]
   have HK:=hid (And.intro hA hAX);have HX:=hid hx;have hdq:z / 18446744073709551616<hi∨(z / 18446744073709551616=hi∧z % 18446744073709551616≤lo)↔z≤n:=by omega
   clear hA hAX hx hz eor ehalf e2 eb ha hP
   go_wp2_with fail
   refine (HM.out _).mono ?_;rintro e w2 ⟨rfl,rfl⟩;obtain ⟨h,hh⟩:∃ h,h=z / 18446744073709551616:=⟨_,rfl⟩;obtain ⟨t,ht⟩:∃ t,t=z % 18446744073709551616:=⟨_,rfl⟩;rw [← hh,← ht] at hdq ⊢
   by_cases hzn:z≤n
   ·have hc := hdq.2 hzn;have HX1:Hid (x=(((2*q+1)*2 ^ k:Nat):Int)):=by show _=_;rw [← HK.out.2,HX.out]
    have HR1:Hid (jY n k (((2*q+1)*2 ^ k:Nat):Int)=iE n):=by show _=_;rw [← HX1.out,← HR.out,HS.out,if_pos hzn]
    have HL1:Hid ((2*q+1)*2 ^ k+2 ^ k≤18446744073709551616):=by
     show _≤_;have e:=HK.out.2
     have e2:2 ^ k=P:=by
      have e1:=HK.out.1;have:a+P=2*q*2 ^ k+2 ^ k:=by rw [e,Nat.add_mul,Nat.one_mul]
      omega
     omega
    clear hdq hzn HK HR HS HM
    rcases hc with hlt | ⟨heq,hle2⟩
    ·clear hh ht;go_wp2;go_roundw
     case rel=>exact ⟨k,2*q+1,by omega,by rw [HX1.out],rfl,HL1.out,HR1.out,hB⟩
     case measure=>simp [intOf];omega
    ·have e1 : ¬ h < hi := by omega
     have e2:(h == hi)=true:=by simp [heq]
     clear hh ht heq;go_wp2;go_roundw
     case rel=>exact ⟨k,2*q+1,by omega,by rw [HX1.out],rfl,HL1.out,HR1.out,hB⟩
     case measure=>simp [intOf];omega
   ·have hc : ¬ (h < hi ∨ (h = hi ∧ t ≤ lo)) := fun g => hzn (hdq.1 g)
    have HX1:Hid ((a:Int)=((2*q*2 ^ k:Nat):Int)):=by show _=_;rw [← HK.out.1]
    have HR1:Hid (jY n k ((2*q*2 ^ k:Nat):Int)=iE n):=by show _=_;rw [← HX1.out,← HR.out,HS.out,if_neg hzn]
    have HL1:Hid (2*q*2 ^ k+2 ^ k≤18446744073709551616):=by
     show _≤_;have e1:=HK.out.1;have e:a+P=2*q*2 ^ k+2 ^ k:=by rw [HK.out.2,Nat.add_mul,Nat.one_mul]
     omega
    have e1:¬ h<hi:=fun g=>hc (.inl g)
    clear hdq hzn HK HR HS HM hor
    by_cases heq:h=hi
    ·have e2 : (h == hi) = true := by simp [heq]
     have e3:¬ t≤lo:=fun g=>hc (.inr ⟨heq,g⟩)
     clear hh ht heq hc;go_wp2;go_roundw
     case rel=>exact ⟨k,2*q,by omega,by rw [HX1.out],rfl,HL1.out,HR1.out,hB⟩
     case measure=>simp [intOf];omega
    ·have e2 : (h == hi) = false := by simp [heq]
     clear hh ht heq hc;go_wp2;go_roundw
     case rel=>exact ⟨k,2*q,by omega,by rw [HX1.out],rfl,HL1.out,HR1.out,hB⟩
     case measure=>simp [intOf];omega

theorem om (a:Int) (h1 : -4611686018427387904≤a) (h2:a≤4611686018427387904) (w:World):Calls Tryz.prog 100 #[.int .i64 a] w (dG (.int .u64 (aV a)) w):=by
 have w1:IntKind.i64.wrap (-a) = -a:=IntWalk.i64_in _ (by omega);obtain ⟨x,hx⟩:∃ x,x=aV a:=⟨_,rfl⟩;have bx:0≤x∧x≤4611686018427387904:=by rw [hx];unfold aV;split <;> omega
 have hrun:∀ (ts:Array TypeId) (t:TypeId) (w:World),(Builtin.max_ ts t #[.int .i64 a,.int .i64 (-a)]).run Tryz.prog w = .ok (.int .i64 x) w:=fun ts t w=>by
  rw [run_max_int2,show (if -a > a then -a else a)=aV a by unfold aV;split <;> split <;> omega,hx]
 have w2:IntKind.u64.wrap x=x:=IntWalk.u64_in _ (by omega);rw [← hx];clear hx
 go_enter Tryz.func100,Tryz.ntmps100
 go_wp2
 go_returns
 exact aB rfl (Below.refl _ _)
theorem wG (a:Int):aV a*aV a=a*a:=by unfold aV;split;exact Int.neg_mul_neg a a;rfl
theorem sq_nonneg (a:Int):0≤a*a:=by rcases Int.le_total 0 a with h | h;exact Int.mul_nonneg h h;exact Int.mul_nonneg_of_nonpos_of_nonpos h h
theorem qH (x y:Int) (hx : -4398046511104≤x∧x≤4398046511104) (hy : -4398046511104≤y∧y≤4398046511104) (w:World):Calls Tryz.prog 39 #[.int .i64 x,.int .i64 y] w (dG (.int .i64 (fQ x y)) w):=by
 have HMX:=hid (om x (by omega) (by omega));have HMY:=hid (om y (by omega) (by omega));obtain ⟨mx,hmx⟩:∃ m,m=aV x:=⟨_,rfl⟩;obtain ⟨my,hmy⟩:∃ m,m=aV y:=⟨_,rfl⟩;have bx:0≤mx∧mx≤4398046511104:=by rw [hmx];unfold aV;split <;> omega
 have bY:0≤my∧my≤4398046511104:=by rw [hmy];unfold aV;split <;> omega
 obtain ⟨A,hA⟩:∃ A,A=x*x:=⟨_,rfl⟩;obtain ⟨B,hB⟩:∃ B,B=y*y:=⟨_,rfl⟩;have HX:=hid (mU mx mx (by omega) (by omega) (by omega) (by omega));have HY:=hid (mU my my (by omega) (by omega) (by omega) (by omega));rw [show mx*mx=A by rw [hmx,hA,wG]] at HX;rw [show my*my=B by rw [hmy,hB,wG]] at HY;have b1:=dh (x:=x) (y:=x) (M:=4398046511104) (N:=4398046511104) (by omega) (by omega) (by omega) (by omega);have b2:=dh (x:=y) (y:=y) (M:=4398046511104) (N:=4398046511104) (by omega) (by omega) (by omega) (by omega);have p1:=sq_nonneg x;have p2:=sq_nonneg y;rw [← hA] at b1 p1;rw [← hB] at b2 p2;have HL:Hid (fQ x y=iE (A+B)):=by show _=_;unfold fQ;rw [hA,hB]
 rw [← hmx] at HMX;rw [← hmy] at HMY;clear hmx hmy hA hB;obtain ⟨r,hr⟩:∃ r,r=iE (A+B):=⟨_,rfl⟩;obtain ⟨r0,r1,r2⟩:=lG (n:=A+B) (by omega) (by omega);rw [← hr] at r0 r1 r2
 have rb:r≤8796093022208:=by
  rcases Int.lt_or_le 8796093022208 r with h | h
  ·have := Int.mul_le_mul (show 8796093022209 ≤ r by omega) (show 8796093022209 ≤ r by omega) (by omega) (by omega);omega
  ·exact h
 obtain ⟨a1,ha1⟩:∃ a,a=A / 18446744073709551616:=⟨_,rfl⟩;obtain ⟨a0,ha0⟩:∃ a,a=A % 18446744073709551616:=⟨_,rfl⟩;obtain ⟨c1,hc1⟩:∃ a,a=B / 18446744073709551616:=⟨_,rfl⟩;obtain ⟨c0,hc0⟩:∃ a,a=B % 18446744073709551616:=⟨_,rfl⟩;rw [← ha1,← ha0] at HX;rw [← hc1,← hc0] at HY;obtain ⟨s0,hs0⟩:∃ s,s=(a0+c0) % 18446744073709551616:=⟨_,rfl⟩;obtain ⟨cy,hcy⟩:∃ s,s=(a0+c0) / 18446744073709551616:=⟨_,rfl⟩;obtain ⟨s1,hs1⟩:∃ s,s=(a1+c1+cy) % 18446744073709551616:=⟨_,rfl⟩
 have E1:∀ w:World,(callFunc 101 #[.int .u64 a0,.int .u64 c0,.int .u64 0]).run Tryz.prog w = .ok (.value (.tuple #[.int .u64 s0,.int .u64 cy])) w:=fun w=>by
  rw [hs0,hcy];exact zT a0 c0 (by omega) (by omega) w
 obtain ⟨ov,hov⟩:∃ s,s=(a1+c1+cy) / 18446744073709551616:=⟨_,rfl⟩
 have E2:∀ w:World,(callFunc 101 #[.int .u64 a1,.int .u64 c1,.int .u64 cy]).run Tryz.prog w = .ok (.value (.tuple #[.int .u64 s1,.int .u64 ov])) w:=fun w=>by
  have h:=run_add64 (P:=Tryz.prog) a1 c1 cy (by omega) (by omega) (by omega) (by omega) w;rw [run_callFunc_extern Tryz.func101 (by kernel_rfl) (by kernel_rfl) (by kernel_rfl) (e:=add64Entry) (by kernel_rfl),h,hs1,hov];rfl
 have hsum:s1*18446744073709551616+s0=A+B:=by omega
 have HRT:=hid (C9 s1 s0 (by omega) (by omega) (by omega) (by omega));rw [hsum,← hr] at HRT;have wr:IntKind.i64.wrap r=r:=IntWalk.i64_in _ (by omega);rw [HL.out,← hr];clear HL hr r1 r2 hsum hs0 hs1 hcy hov ha1 ha0 hc1 hc0 b1 b2 p1 p2
 go_enter Tryz.func39,Tryz.ntmps39
 go_wp2_with fail
 refine (HMX.out _).mono ?_;rintro e v1 ⟨rfl,hv1⟩
 go_wp2_with fail
 refine (HMX.out _).mono ?_;rintro e v2 ⟨rfl,hv2⟩
 go_wp2_with fail
 refine (HX.out _).mono ?_;rintro e v3 ⟨rfl,hq3⟩;rw [hq3];clear hq3
 go_wp2_with fail
 refine (HMY.out _).mono ?_;rintro e v4 ⟨rfl,hv4⟩
 go_wp2_with fail
 refine (HMY.out _).mono ?_;rintro e v5 ⟨rfl,hv5⟩
 go_wp2_with fail
 refine (HY.out _).mono ?_;rintro e v6 ⟨rfl,hq6⟩;rw [hq6];clear hq6;have hBv:=aj hv5 (aj hv4 (aj hv2 hv1));clear hv1 hv2 hv4 hv5
 go_wp2_with (first | simp only [E1] | simp only [E2])
 refine (HRT.out _).mono ?_;rintro e v7 ⟨rfl,hv7⟩;have hB7:=aj hv7 hBv;clear hv7 hBv;go_wp2
 go_returns
 exact aB rfl hB7
theorem Fj {n d:Int} (hd:0<d):n / d=if n<0∧n.tmod d≠0 then n.tdiv d-1 else n.tdiv d:=by
 have e:=Int.tmod_add_mul_tdiv n d;have e2:=Int.emod_add_mul_ediv n d;have r0:=Int.emod_nonneg n (show d≠0 by omega);have r1:=Int.emod_lt_of_pos n hd
 by_cases hn:n<0
 ·have t1:n.tmod d≤0:=by
   have:=Int.neg_tmod (-n) d;rw [Int.neg_neg] at this;rw [this];have:=Int.tmod_nonneg d (show 0 ≤ -n by omega);omega
  have t2:=Int.lt_tmod_of_pos n hd;obtain ⟨D,hD⟩:∃ D,D=n / d-n.tdiv d:=⟨_,rfl⟩;have hm:d*D=n.tmod d-n % d:=by rw [hD,Int.mul_sub];omega
  have hD1:D≤0:=by
   rcases Int.lt_or_le 0 D with h | h
   ·have:=Int.mul_le_mul_of_nonneg_left (show 1≤D by omega) (show 0≤d by omega);omega
   ·exact h
  have hD2 : -1≤D:=by
   rcases Int.lt_or_le D (-1) with h | h
   ·have := Int.mul_le_mul_of_nonneg_left (show D ≤ -2 by omega) (show 0 ≤ d by omega);rw [Int.mul_neg] at this;omega
   ·exact h
  have hc:D=0∨D = -1:=by omega
  rcases hc with h | h
  ·rw [h, Int.mul_zero] at hm;rw [if_neg (by rintro ⟨_,g⟩;omega)];omega
  ·rw [h, Int.mul_neg, Int.mul_one] at hm;rw [if_pos ⟨hn,by omega⟩];omega
 ·rw [if_neg (by omega),Int.tdiv_eq_ediv_of_nonneg (by omega)]
def nN (x l:Int):Int:=(2*x*65536+l) / (2*l)
theorem qJ (x l:Int) (hx : -4398046511104≤x∧x≤4398046511104) (hl:0<l∧l≤17592186044416) (w:World):Calls Tryz.prog 178 #[.int .i64 x,.int .i64 l] w (dG (.int .i64 (nN x l)) w):=by
 obtain ⟨n,hn⟩:∃ n,n=2*x*65536+l:=⟨_,rfl⟩;obtain ⟨d,hd⟩:∃ d,d=2*l:=⟨_,rfl⟩;have HT:Hid (nN x l=if n<0∧n.tmod d≠0 then n.tdiv d-1 else n.tdiv d):=by show _=_;unfold nN;rw [← hn,← hd];exact Fj (by omega)
 have w1:IntKind.i64.wrap (2*x)=2*x:=IntWalk.i64_in _ (by omega);have w2:IntKind.i64.wrap (2*x*65536)=2*x*65536:=IntWalk.i64_in _ (by omega);have w3:IntKind.i64.wrap (2*x*65536+l)=n:=by rw [← hn];exact IntWalk.i64_in _ (by omega)
 have w4:IntKind.i64.wrap (2*l)=d:=by rw [← hd];exact IntWalk.i64_in _ (by omega)
 have hd0:0<d:=by omega
 have hdne:¬ d=0:=by omega
 have hdn1:¬ d = -1:=by omega
 have t1:=Int.tmod_lt_of_pos n hd0;have t2:=Int.lt_tmod_of_pos n hd0;have e:=Int.tmod_add_mul_tdiv n d
 have bq : -1152921504606846976≤n.tdiv d∧n.tdiv d≤1152921504606846976:=by
  have h1:=Int.natAbs_tdiv_le_natAbs n d;omega
 obtain ⟨q,hq⟩:∃ q,q=n.tdiv d:=⟨_,rfl⟩;obtain ⟨t,ht⟩:∃ t,t=n.tmod d:=⟨_,rfl⟩;rw [← hq] at bq HT;rw [← ht] at HT t1 t2;have w5:IntKind.i64.wrap q=q:=IntWalk.i64_in _ (by omega);have w6:IntKind.i64.wrap t=t:=IntWalk.i64_in _ (by omega);have w7:IntKind.i64.wrap (q-1)=q-1:=IntWalk.i64_in _ (by omega);have hq':n.tdiv d=q:=hq.symm;have ht':n.tmod d=t:=ht.symm;clear hn hd e hq ht t1 t2 bq
 by_cases hneg:n<0
 ·by_cases ht0 : t = 0
  ·have e0 : (t != 0) = false := by simp [ht0]
   have HR:Hid (nN x l=q):=by show _=_;rw [HT.out,if_neg (by rintro ⟨_,g⟩;exact g ht0)]
   rw [HR.out];clear ht0 HT
   go_enter Tryz.func178,Tryz.ntmps178
   go_wp2
   go_returns
   exact aB rfl (Below.refl _ _)
  ·have e0 : (t != 0) = true := by simp [ht0]
   have HR:Hid (nN x l=q-1):=by show _=_;rw [HT.out,if_pos ⟨hneg,ht0⟩]
   rw [HR.out];clear ht0 HT
   go_enter Tryz.func178,Tryz.ntmps178
   go_wp2
   go_returns
   exact aB rfl (Below.refl _ _)
 ·have HR : Hid (nN x l = q) := by show _ = _; rw [HT.out, if_neg (by rintro ⟨g, _⟩; exact hneg g)]
  rw [HR.out];clear HT
  go_enter Tryz.func178,Tryz.ntmps178
  go_wp2
  go_returns
  exact aB rfl (Below.refl _ _)

def wO : Nat → Int → Int → Int × Int
 | 0,x,y=>(x,y)
 | k+1,x,y=>if aV x<1073741824∧aV y<1073741824 then wO k (2*x) (2*y) else (x,y)
def ko (a b:Int):Int:=if aO a=0∧aO b=0 then 0 else nN (wO 31 (aO a) (aO b)).1 (fQ (wO 31 (aO a) (aO b)).1 (wO 31 (aO a) (aO b)).2)
def ku (a b:Int):Int:=if aO a=0∧aO b=0 then 0 else nN (wO 31 (aO a) (aO b)).2 (fQ (wO 31 (aO a) (aO b)).1 (wO 31 (aO a) (aO b)).2)
theorem wI (a:Int):0≤aV a:=by unfold aV;split <;> omega
theorem nu (a:Int):aV (2*a)=2*aV a:=by unfold aV;split <;> split <;> omega
theorem Aq {x y:Int} (hx : -1099511627776≤x∧x≤1099511627776) (hy : -1099511627776≤y∧y≤1099511627776):0≤fQ x y∧fQ x y≤2199023255552∧((x≠0∨y≠0)→0<fQ x y):=by
 have b1:=dh (x:=x) (y:=x) (M:=1099511627776) (N:=1099511627776) (by omega) (by omega) (by omega) (by omega);have b2:=dh (x:=y) (y:=y) (M:=1099511627776) (N:=1099511627776) (by omega) (by omega) (by omega) (by omega);have p1:=sq_nonneg x;have p2:=sq_nonneg y;obtain ⟨r0,r1,r2⟩:=lG (n:=x*x+y*y) (by omega) (by omega)
 have hP:(x≠0∨y≠0)→0<x*x+y*y:=fun h=>by
  rcases h with h | h
  ·have : 0 < x * x := by rcases Int.lt_or_gt_of_ne h with g | g; exact Int.mul_pos_of_neg_of_neg g g; exact Int.mul_pos g g
   omega
  ·have : 0 < y * y := by rcases Int.lt_or_gt_of_ne h with g | g; exact Int.mul_pos_of_neg_of_neg g g; exact Int.mul_pos g g
   omega
 unfold fQ;obtain ⟨r,hr⟩:∃ r,r=iE (x*x+y*y):=⟨_,rfl⟩;rw [← hr] at r0 r1 r2 ⊢;refine ⟨r0,?_,fun h=>?_⟩
 ·rcases Int.lt_or_le 2199023255552 r with h | h
  ·have := Int.mul_le_mul (show 2199023255553 ≤ r by omega) (show 2199023255553 ≤ r by omega) (by omega) (by omega);omega
  ·exact h
 ·have := hP h
  rcases Int.lt_or_le 0 r with g | g
  ·exact g
  ·have : r = 0 := by omega
   subst this;simp at r2;omega
theorem rG (a b:Int) (w:World):Calls Tryz.prog 10 #[aR a b] w (dG (.int .i64 (aO (fQ (aO a) (aO b)))) w):=by
 obtain ⟨W,hW⟩:∃ W,W=w.alloc (.cells #[.int .i64 a,.int .i64 b] 24):=⟨_,rfl⟩;have hB0:Below w.heap.size w W:=by rw [hW];go_grown
 have p0:W.cell? ⟨w.heap.size,0,none⟩=some (.int .i64 a):=by rw [hW];go_simp
 have p1:W.cell? ⟨w.heap.size,1,none⟩=some (.int .i64 b):=by rw [hW];go_simp
 obtain ⟨q,hq⟩:∃ q,q=fQ (aO a) (aO b):=⟨_,rfl⟩;have ba:=eD a;have bb:=eD b;have HLN:Hid (∀ w,Calls Tryz.prog 39 #[.int .i64 (aO a),.int .i64 (aO b)] w (dG (.int .i64 q) w)):=fun w=>by rw [hq];exact qH _ _ (by omega) (by omega) w
 rw [← hq];clear hq ba bb
 go_enter Tryz.func10,Tryz.ntmps10
 go_wp2_with fail
 rw [← hW];clear hW;refine wp_region_noPanic ?_;refine au (S:=(S2 (fun w'=>w'.cell? ⟨w.heap.size,0,none⟩=some (.int .i64 a)∧w'.cell? ⟨w.heap.size,1,none⟩=some (.int .i64 b)∧Below w.heap.size w w'))) (T:=(fun _=>0)) (by kernel_rfl) (aC ⟨p0,p1,hB0.drew⟩) (fun hH=>?_);have hWr2:aH (S2 (fun w'=>w'.cell? ⟨w.heap.size,0,none⟩=some (.int .i64 a)∧w'.cell? ⟨w.heap.size,1,none⟩=some (.int .i64 b)∧Below w.heap.size w w')):=aK _;refine dn [(0,3),(1,4),(3,6),(4,7)] 5 0 0 (L':=?Lr2_1) hWr2 hH ?hyr2_1 ?_
 case hyr2_1=>((iterate 4 apply dA;rfl;kernel_rfl;intro w' hSw;replace hSw:=aA hSw;(try dsimp only at hSw);have q0:=hSw.1;have q1:=hSw.2.1;have q2:=hSw.2.2;(try simp only [sB,sC]);go_simp;(try with_reducible rfl));exact dw)
 simp only [sB,sC];refine U1 2 0 rfl (fun K hK=>?_)
 try clear hb
 go_simp
 (go_at_call 38;refine (bU a _).mono ?_;rintro e wn ⟨rfl,hb⟩)
 refine hK.out _ _ ?hsr2_5 (fun hH2=>?hrr2_5)
 case hsr2_5=>exact aC (by have hG:=hH;replace hG:=aA hG;(try dsimp only at hG);have q0:=hG.1;have q1:=hG.2.1;have q2:=hG.2.2;exact ⟨keepCell hb q0,keepCell hb q1,aj hb q2⟩)
 clear hK K hH;have hH:=hH2;clear hH2
 try simp only [Act.put,sA,sB,sC]
 refine U1 5 0 rfl (fun K hK=>?_)
 try clear hb
 go_simp
 (go_at_call 38;refine (bU b _).mono ?_;rintro e wn ⟨rfl,hb⟩)
 refine hK.out _ _ ?hsr2_6 (fun hH2=>?hrr2_6)
 case hsr2_6=>exact aC (by have hG:=hH;replace hG:=aA hG;(try dsimp only at hG);have q0:=hG.1;have q1:=hG.2.1;have q2:=hG.2.2;exact ⟨keepCell hb q0,keepCell hb q1,aj hb q2⟩)
 clear hK K hH;have hH:=hH2;clear hH2
 try simp only [Act.put,sA,sB,sC]
 refine U1 6 0 rfl (fun K hK=>?_)
 try clear hb
 go_simp
 (go_at_call 39;refine (HLN.out _).mono ?_;rintro e wn ⟨rfl,hb⟩)
 refine hK.out _ _ ?hsr2_7 (fun hH2=>?hrr2_7)
 case hsr2_7=>exact aC (by have hG:=hH;replace hG:=aA hG;(try dsimp only at hG);have q0:=hG.1;have q1:=hG.2.1;have q2:=hG.2.2;exact ⟨keepCell hb q0,keepCell hb q1,aj hb q2⟩)
 clear hK K hH;have hH:=hH2;clear hH2
 try simp only [Act.put,sA,sB,sC]
 refine U1 7 0 rfl (fun K hK=>?_)
 try clear hb
 go_simp
 (go_at_call 38;refine (bU q _).mono ?_;rintro e wn ⟨rfl,hb⟩)
 refine hK.out _ _ ?hsr2_8 (fun hH2=>?hrr2_8)
 case hsr2_8=>exact aC (by have hG:=hH;replace hG:=aA hG;(try dsimp only at hG);have q0:=hG.1;have q1:=hG.2.1;have q2:=hG.2.2;exact ⟨keepCell hb q0,keepCell hb q1,aj hb q2⟩)
 clear hK K hH;have hH:=hH2;clear hH2
 try simp only [Act.put,sA,sB,sC]
 refine Ut 8 2 0 0 0 (v:=?vr2_9) rfl hWr2 hH ?hyr2_9 ?_
 case hyr2_9=>(intro w' hSw;clear hSw;go_simp;try (with_reducible rfl))
 simp only [sB,sC];refine ak (by kernel_rfl) ?_ _ _;refine NoPanic.normal ?_;clear hWr2;replace hH:=aA hH
 (try dsimp only at hH)
 have qq0:=hH.1;have qq1:=hH.2.1;have qq2:=hH.2.2;go_wp2
 go_returns
 exact aB rfl qq2
theorem qY (a b:Int) (w:World):Calls Tryz.prog 113 #[aR a b] w (dG (aR (ko a b) (ku a b)) w):=by
 obtain ⟨W,hW⟩:∃ W,W=(w.alloc (.cells #[.int .i64 a,.int .i64 b] 24)).alloc (.cells #[.int .i64 0,.int .i64 0] 24):=⟨_,rfl⟩;have HZ0:=hid (show VZ W (w.heap.size+1) by rw [hW];have:=VZ.here (w.alloc (.cells #[.int .i64 a,.int .i64 b] 24)) 0 0 24;simpa using this);have hB0:Below w.heap.size w W:=by rw [hW];go_grown
 have p0:W.cell? ⟨w.heap.size,0,none⟩=some (.int .i64 a):=by rw [hW];go_simp
 have p1:W.cell? ⟨w.heap.size,1,none⟩=some (.int .i64 b):=by rw [hW];go_simp
 go_enter Tryz.func113,Tryz.ntmps113
 go_wp2_with fail
 rw [← hW];clear hW;refine wp_region_noPanic ?_;refine au (S:=(S2 (fun w'=>w'.cell? ⟨w.heap.size,0,none⟩=some (.int .i64 a)∧w'.cell? ⟨w.heap.size,1,none⟩=some (.int .i64 b)∧VZ w' (w.heap.size+1)∧Below w.heap.size w w'))) (T:=(fun _=>0)) (by kernel_rfl) (aC ⟨p0,p1,HZ0.out.drew,hB0.drew⟩) (fun hH=>?_);have hWr1:aH (S2 (fun w'=>w'.cell? ⟨w.heap.size,0,none⟩=some (.int .i64 a)∧w'.cell? ⟨w.heap.size,1,none⟩=some (.int .i64 b)∧VZ w' (w.heap.size+1)∧Below w.heap.size w w')):=aK _;refine dn [(0,6),(1,7),(3,9),(4,10)] 4 0 0 (L':=?Lr1_1) hWr1 hH ?hyr1_1 ?_
 case hyr1_1=>((iterate 4 apply dA;rfl;kernel_rfl;intro w' hSw;replace hSw:=aA hSw;(try dsimp only at hSw);have q0:=hSw.1;have q1:=hSw.2.1;have q2:=hSw.2.2.1;have q3:=hSw.2.2.2;(try simp only [sB,sC]);go_simp;(try with_reducible rfl));exact dw)
 simp only [sB,sC];refine U1 2 0 rfl (fun K hK=>?_)
 try clear hb
 go_simp
 (go_at_call 38;refine (bU a _).mono ?_;rintro e wn ⟨rfl,hb⟩)
 refine hK.out _ _ ?hsr1_5 (fun hH2=>?hrr1_5)
 case hsr1_5=>exact aC (by have hG:=hH;replace hG:=aA hG;(try dsimp only at hG);have q0:=hG.1;have q1:=hG.2.1;have q2:=hG.2.2.1;have q3:=hG.2.2.2;exact ⟨keepCell hb q0,keepCell hb q1,aG hb q2,aj hb q3⟩)
 clear hK K hH;have hH:=hH2;clear hH2
 try simp only [Act.put,sA,sB,sC]
 refine U1 5 0 rfl (fun K hK=>?_)
 try clear hb
 go_simp
 (go_at_call 38;refine (bU b _).mono ?_;rintro e wn ⟨rfl,hb⟩)
 refine hK.out _ _ ?hsr1_6 (fun hH2=>?hrr1_6)
 case hsr1_6=>exact aC (by have hG:=hH;replace hG:=aA hG;(try dsimp only at hG);have q0:=hG.1;have q1:=hG.2.1;have q2:=hG.2.2.1;have q3:=hG.2.2.2;exact ⟨keepCell hb q0,keepCell hb q1,aG hb q2,aj hb q3⟩)
 clear hK K hH;have hH:=hH2;clear hH2
 try simp only [Act.put,sA,sB,sC]
 refine dn [(6,3),(7,4)] 0 0 0 (L':=?Lr1_7) hWr1 hH ?hyr1_7 ?_
 case hyr1_7=>((iterate 2 apply dA;rfl;kernel_rfl;intro w' hSw;clear hSw;(try simp only [sB,sC]);go_simp;(try with_reducible rfl));exact dw)
 simp only [sB,sC];refine ak (by kernel_rfl) ?_ _ _;refine NoPanic.normal ?_;clear hWr1;replace hH:=aA hH
 (try dsimp only at hH)
 have q0:=hH.1;have q1:=hH.2.1;have q2:=hH.2.2.1;have q3:=hH.2.2.2;have ba:=eD a;have bb:=eD b;have HU:Hid (ko a b=(if aO a=0∧aO b=0 then 0 else nN (wO 31 (aO a) (aO b)).1 (fQ (wO 31 (aO a) (aO b)).1 (wO 31 (aO a) (aO b)).2))∧ku a b=(if aO a=0∧aO b=0 then 0 else nN (wO 31 (aO a) (aO b)).2 (fQ (wO 31 (aO a) (aO b)).1 (wO 31 (aO a) (aO b)).2))):=⟨rfl,rfl⟩;generalize aO a=x0 at *
 generalize aO b=y0 at *
 have HZ1:=hid q2;have hB1:=q3;clear q0 q1 q2 q3 hH hb HZ0 hB0 p0 p1
 by_cases hx0:x0=0∧y0=0
 ·have e1 : (x0 == 0) = true := by simp [hx0.1]
  have e2:(y0 == 0)=true:=by simp [hx0.2]
  have HR:Hid (ko a b=0∧ku a b=0):=by show _∧_;rw [HU.out.1,HU.out.2,if_pos hx0,if_pos hx0];exact ⟨rfl,rfl⟩
  obtain ⟨⟨z0,z1,y0',y1⟩,yf⟩:=HZ1.out;clear hx0 HU HZ1;go_wp2;refine bodyPost_ret (v:=aR 0 0) (by simp [results,Tryz.results113,go_sem,y0',y1]) rfl ⟨by rw [HR.out.1,HR.out.2],by go_grown⟩
 ·have e12:(x0 == 0)=false∨((x0 == 0)=true∧(y0 == 0)=false):=by
   by_cases g:x0=0
   ·exact .inr ⟨by simp [g],by simp;exact fun h=>hx0 ⟨g,h⟩⟩
   ·exact .inl (by simp [g])
  have HNZ:=hid hx0;clear hx0
  rcases e12 with e1 | ⟨e1,e2⟩
  all_goals
   go_wp2_with fail
   clear e1
   try clear e2
   go_loopw [3,4] (fun s t wr=>∃ (k:Nat) (x y:Int),s = .int .i64 x∧t = .int .i64 y∧(-1099511627776≤x∧x≤1099511627776)∧(-1099511627776≤y∧y≤1099511627776)∧¬ (x=0∧y=0)∧wO k x y=wO 31 x0 y0∧(1073741824≤aV x*2 ^ k∨1073741824≤aV y*2 ^ k)∧VZ wr (w.heap.size+1)∧Below w.heap.size w wr) (fun s t _=>(2147483648-(aV (intOf s)+aV (intOf t))).toNat)
   case atStart =>
    refine ⟨31,x0,y0,rfl,rfl,ba,bb,HNZ.out,rfl,?_,HZ1.out,hB1⟩;have n1:=wI x0;have n2:=wI y0;have e:(2:Int) ^ 31=2147483648:=by decide
    rw [e]
    by_cases g:x0=0
    ·have : y0 ≠ 0 := fun h => HNZ.out ⟨g, h⟩
     have:1≤aV y0:=by unfold aV;split <;> omega
     exact .inr (by omega)
    ·have : 1 ≤ aV x0 := by unfold aV; split <;> omega
     exact .inl (by omega)
   case round =>
    clear HZ1 hB1;obtain ⟨k,x,y,rfl,rfl,bx,by_,hnz,hup,hbig,hz,hB⟩:=hrel;obtain ⟨wo,rfl⟩:∃ wo:World,wo=wr:=⟨_,rfl⟩;have HZ:=hid hz;have HUP:=hid hup;have HBIG:=hid hbig;have HNZ2:=hid hnz;have HMX:=hid (om x (by omega) (by omega));have HMY:=hid (om y (by omega) (by omega));have nx:=wI x;have ny:=wI y;obtain ⟨X,hX⟩:∃ X,X=aV x:=⟨_,rfl⟩;obtain ⟨Y,hY⟩:∃ Y,Y=aV y:=⟨_,rfl⟩;rw [← hX] at HMX nx;rw [← hY] at HMY ny;obtain ⟨M,hM⟩:∃ M,M=if Y > X then Y else X:=⟨_,rfl⟩
    have hrun:∀ (ts:Array TypeId) (t:TypeId) (w:World),(Builtin.max_ ts t #[.int .u64 X,.int .u64 Y]).run Tryz.prog w = .ok (.int .u64 M) w:=fun ts t w=>by rw [run_max_int2,hM]
    have HXY:=hid (And.intro hX hY);have hMd:M<1073741824↔X<1073741824∧Y<1073741824:=by rw [hM];split <;> omega
    clear hz hup hbig hnz hX hY hM
    go_wp2_with fail
    refine (HMX.out _).mono ?_;rintro e v1 ⟨rfl,hv1⟩
    go_wp2_with fail
    refine (HMY.out _).mono ?_;rintro e v2 ⟨rfl,hv2⟩;have HZ2:=hid (aG hv2 (aG hv1 HZ.out));have hB2:=aj hv2 (aj hv1 hB);clear hv1 hv2 HZ hB HMX HMY
    by_cases hlt:M<1073741824
    ·obtain ⟨h1, h2⟩ := hMd.1 hlt;have hx2 : -1073741824<x∧x<1073741824:=by have:=HXY.out.1;unfold aV at this;split at this <;> omega
     have hy2 : -1073741824<y∧y<1073741824:=by have:=HXY.out.2;unfold aV at this;split at this <;> omega
     have u1:IntKind.i64.wrap (2*x)=2*x:=IntWalk.i64_in _ (by omega);have u2:IntKind.i64.wrap (2*y)=2*y:=IntWalk.i64_in _ (by omega)
     have HKK:Hid (∃ k',wO k' (2*x) (2*y)=wO 31 x0 y0∧(1073741824≤aV (2*x)*2 ^ k'∨1073741824≤aV (2*y)*2 ^ k')):=by
      show ∃ _,_
      cases k with
      | zero =>
       have:=HBIG.out;rw [← HXY.out.1,← HXY.out.2,Int.pow_zero,Int.mul_one,Int.mul_one] at this;omega
      | succ k =>
       refine ⟨k,?_,?_⟩
       ·rw [← HUP.out,wO,if_pos (by rw [← HXY.out.1,← HXY.out.2];exact ⟨h1,h2⟩)]
       ·have := HBIG.out;rw [nu,nu,Int.mul_assoc,Int.mul_assoc,Int.mul_left_comm 2,Int.mul_left_comm 2];rwa [Int.pow_succ,Int.mul_comm ((2:Int) ^ k) 2] at this
     have HNN:Hid (¬ (2*x=0∧2*y=0)):=fun g=>HNZ2.out ⟨by omega,by omega⟩
     have hms:aV (2*x)=2*X∧aV (2*y)=2*Y:=⟨by rw [nu,HXY.out.1],by rw [nu,HXY.out.2]⟩;have HMS:=hid hms
     have hpos:0<X+Y:=by
      have a1:=HXY.out.1;have a2:=HXY.out.2
      rcases Int.lt_or_le 0 (X+Y) with g | g
      ·exact g
      ·exact absurd ⟨by unfold aV at a1;split at a1 <;> omega,by unfold aV at a2;split at a2 <;> omega⟩ HNZ2.out
     clear hms hMd HUP HBIG HNZ2;go_wp2;go_roundw
     case rel =>
      obtain ⟨k',e1,e2⟩:=HKK.out;exact ⟨k',2*x,2*y,rfl,rfl,by omega,by omega,HNN.out,e1,e2,HZ2.out,hB2⟩
     case measure =>
      simp only [intOf];rw [HMS.out.1,HMS.out.2,← HXY.out.1,← HXY.out.2];omega
    ·have hn : ¬ (X < 1073741824 ∧ Y < 1073741824) := fun g => hlt (hMd.2 g)
     have hfin:wO k x y=(x,y):=by
      cases k with
      | zero=>rfl
      | succ k=>rw [wO,if_neg (by rw [← HXY.out.1,← HXY.out.2];exact hn)]
     have hxy:wO 31 x0 y0=(x,y):=by rw [← HUP.out,hfin]
     obtain ⟨l0,l1,l2⟩:=Aq bx by_
     have lp:0<fQ x y:=l2 (by
      by_cases g:x=0
      ·exact .inr (fun h=>HNZ2.out ⟨g,h⟩)
      ·exact .inl g)
     have HLN:=hid (qH x y (by omega) (by omega));obtain ⟨l,hl⟩:∃ l,l=fQ x y:=⟨_,rfl⟩
     have HR:Hid (ko a b=nN x l∧ku a b=nN y l):=by
      show _∧_;rw [HU.out.1,HU.out.2,if_neg HNZ.out,if_neg HNZ.out,hxy,hl];exact ⟨rfl,rfl⟩
     rw [← hl] at HLN l1 lp;have HT1:=hid (qJ x l (by omega) (by omega));have HT2:=hid (qJ y l (by omega) (by omega));clear hl l0 l2 hxy hfin hn HUP HBIG HNZ2 HU HXY;generalize nN x l=t1 at *
     generalize nN y l=t2 at *
     go_wp2_with fail
     refine (HLN.out _).mono ?_;rintro e v3 ⟨rfl,hv3⟩
     go_wp2_with fail
     refine (HT1.out _).mono ?_;rintro e v4 ⟨rfl,hv4⟩
     go_wp2_with fail
     refine (HT2.out _).mono ?_;rintro e v5 ⟨rfl,hv5⟩;obtain ⟨⟨z0,z1,r0,r1⟩,rf⟩:=aG hv5 (aG hv4 (aG hv3 HZ2.out));have hB5:=aj hv5 (aj hv4 (aj hv3 hB2));clear hv3 hv4 hv5 HZ2 hB2 HLN HT1 HT2;go_wp2;refine bodyPost_ret (v:=aR t1 t2) (by simp [results,Tryz.results113,go_sem,r0,r1]) rfl ⟨by rw [HR.out.1,HR.out.2],by go_grown⟩
end
section
set_option linter.unusedVariables false
open Go.RowKit
theorem bE {P:Program} {md:Region.Mode} {ops:Array Oper} {Q:Exit→Act→World→Prop} {S:Nat→World→Prop} {T:Nat→Nat} {fuel lev:Nat} {l l':Array Bool} {a:Act} {w:World} (h:l=l') (hw:eG P md ops Q S T fuel lev l' a w):eG P md ops Q S T fuel lev l a w:=h ▸ hw
end
end Go.Proofs.YtokgmcomgflloaaGreat
