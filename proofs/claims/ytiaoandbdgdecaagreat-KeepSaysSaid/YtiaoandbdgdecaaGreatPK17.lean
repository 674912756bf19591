/- Parts of a proof: contracts and laws. -/
import Derived.Test.YtiaoandbdgdecaaGreatPK16
import Derived.Test.YtiaoandbdgdecaaGreatPK04
import Derived.Test.YtiaoandbdgdecaaGreatPK13
import Derived.Test.YtiaoandbdgdecaaGreatPK08
import Derived.Test.YtiaoandbdgdecaaGreatPK15
import Derived.Test.YtiaoandbdgdecaaGreatPK14
import Derived.Test.YtiaoandbdgdecaaGreatPK12
import Derived.Test.YtiaoandbdgdecaaGreatPK05
import Derived.Test.YtiaoandbdgdecaaGreatPK03
set_option maxRecDepth 100000
set_option maxHeartbeats 16000000
namespace Go.Proofs.YtiaoandbdgdecaaGreat
section
set_option linter.unusedVariables false
set_option linter.unusedSimpArgs false
open Go.RowKit
theorem floor_tdiv {n d:Int} (hd:0<d):n / d=if n<0∧n.tmod d≠0 then n.tdiv d-1 else n.tdiv d:=by
 have e:=Int.tmod_add_mul_tdiv n d
 have e2:=Int.emod_add_mul_ediv n d
 have r0:=Int.emod_nonneg n (show d≠0 by omega)
 have r1:=Int.emod_lt_of_pos n hd
 by_cases hn:n<0
 ·have t1:n.tmod d≤0:=by
   have:=Int.neg_tmod (-n) d
   rw [Int.neg_neg] at this
   rw [this]
   have:=Int.tmod_nonneg d (show 0 ≤ -n by omega)
   omega
  have t2:=Int.lt_tmod_of_pos n hd
  obtain ⟨D,hD⟩:∃ D,D=n / d-n.tdiv d:=⟨_,rfl⟩
  have hm:d*D=n.tmod d-n % d:=by rw [hD,Int.mul_sub];omega
  have hD1:D≤0:=by
   rcases Int.lt_or_le 0 D with h | h
   ·have:=Int.mul_le_mul_of_nonneg_left (show 1≤D by omega) (show 0≤d by omega);omega
   ·exact h
  have hD2 : -1≤D:=by
   rcases Int.lt_or_le D (-1) with h | h
   ·have := Int.mul_le_mul_of_nonneg_left (show D ≤ -2 by omega) (show 0 ≤ d by omega)
    rw [Int.mul_neg] at this
    omega
   ·exact h
  have hc:D=0∨D = -1:=by omega
  rcases hc with h | h
  ·rw [h, Int.mul_zero] at hm
   rw [if_neg (by rintro ⟨_,g⟩;omega)]
   omega
  ·rw [h, Int.mul_neg, Int.mul_one] at hm
   rw [if_pos ⟨hn,by omega⟩]
   omega
 ·rw [if_neg (by omega),Int.tdiv_eq_ediv_of_nonneg (by omega)]
def thrZ (x l:Int):Int:=(2*x*65536+l) / (2*l)
theorem through_calls (x l:Int) (hx : -4398046511104≤x∧x≤4398046511104) (hl:0<l∧l≤17592186044416) (w:World):Calls Tryz.prog 158 #[.int .i64 x,.int .i64 l] w (Ret (.int .i64 (thrZ x l)) w):=by
 obtain ⟨n,hn⟩:∃ n,n=2*x*65536+l:=⟨_,rfl⟩
 obtain ⟨d,hd⟩:∃ d,d=2*l:=⟨_,rfl⟩
 have HT:Hid (thrZ x l=if n<0∧n.tmod d≠0 then n.tdiv d-1 else n.tdiv d):=by show _=_;unfold thrZ;rw [← hn,← hd];exact floor_tdiv (by omega)
 have w1:IntKind.i64.wrap (2*x)=2*x:=IntWalk.i64_in _ (by omega)
 have w2:IntKind.i64.wrap (2*x*65536)=2*x*65536:=IntWalk.i64_in _ (by omega)
 have w3:IntKind.i64.wrap (2*x*65536+l)=n:=by rw [← hn];exact IntWalk.i64_in _ (by omega)
 have w4:IntKind.i64.wrap (2*l)=d:=by rw [← hd];exact IntWalk.i64_in _ (by omega)
 have hd0:0<d:=by omega
 have hdne:¬ d=0:=by omega
 have hdn1:¬ d = -1:=by omega
 have t1:=Int.tmod_lt_of_pos n hd0
 have t2:=Int.lt_tmod_of_pos n hd0
 have e:=Int.tmod_add_mul_tdiv n d
 have bq : -1152921504606846976≤n.tdiv d∧n.tdiv d≤1152921504606846976:=by
  have h1:=Int.natAbs_tdiv_le_natAbs n d
  omega
 obtain ⟨q,hq⟩:∃ q,q=n.tdiv d:=⟨_,rfl⟩
 obtain ⟨t,ht⟩:∃ t,t=n.tmod d:=⟨_,rfl⟩
 rw [← hq] at bq HT
 rw [← ht] at HT t1 t2
 have w5:IntKind.i64.wrap q=q:=IntWalk.i64_in _ (by omega)
 have w6:IntKind.i64.wrap t=t:=IntWalk.i64_in _ (by omega)
 have w7:IntKind.i64.wrap (q-1)=q-1:=IntWalk.i64_in _ (by omega)
 have hq':n.tdiv d=q:=hq.symm
 have ht':n.tmod d=t:=ht.symm
 clear hn hd e hq ht t1 t2 bq
 by_cases hneg:n<0
 ·by_cases ht0 : t = 0
  ·have e0 : (t != 0) = false := by simp [ht0]
   have HR:Hid (thrZ x l=q):=by show _=_;rw [HT.out,if_neg (by rintro ⟨_,g⟩;exact g ht0)]
   rw [HR.out]
   clear ht0 HT
   go_enter Tryz.func158,Tryz.ntmps158
   go_wp2
   go_returns
   exact ret_int rfl (Below.refl _ _)
  ·have e0 : (t != 0) = true := by simp [ht0]
   have HR:Hid (thrZ x l=q-1):=by show _=_;rw [HT.out,if_pos ⟨hneg,ht0⟩]
   rw [HR.out]
   clear ht0 HT
   go_enter Tryz.func158,Tryz.ntmps158
   go_wp2
   go_returns
   exact ret_int rfl (Below.refl _ _)
 ·have HR : Hid (thrZ x l = q) := by show _ = _; rw [HT.out, if_neg (by rintro ⟨g, _⟩; exact hneg g)]
  rw [HR.out]
  clear HT
  go_enter Tryz.func158,Tryz.ntmps158
  go_wp2
  go_returns
  exact ret_int rfl (Below.refl _ _)

def upF : Nat → Int → Int → Int × Int
 | 0,x,y=>(x,y)
 | k+1,x,y=>if absZ x<1073741824∧absZ y<1073741824 then upF k (2*x) (2*y) else (x,y)
def unitX (a b:Int):Int:=if clampF a=0∧clampF b=0 then 0 else thrZ (upF 31 (clampF a) (clampF b)).1 (lenZ (upF 31 (clampF a) (clampF b)).1 (upF 31 (clampF a) (clampF b)).2)
def unitY (a b:Int):Int:=if clampF a=0∧clampF b=0 then 0 else thrZ (upF 31 (clampF a) (clampF b)).2 (lenZ (upF 31 (clampF a) (clampF b)).1 (upF 31 (clampF a) (clampF b)).2)
theorem absZ_nn (a:Int):0≤absZ a:=by unfold absZ;split <;> omega
theorem absZ_two (a:Int):absZ (2*a)=2*absZ a:=by unfold absZ;split <;> split <;> omega
theorem len_bd {x y:Int} (hx : -1099511627776≤x∧x≤1099511627776) (hy : -1099511627776≤y∧y≤1099511627776):0≤lenZ x y∧lenZ x y≤2199023255552∧((x≠0∨y≠0)→0<lenZ x y):=by
 have b1:=mul_bd (x:=x) (y:=x) (M:=1099511627776) (N:=1099511627776) (by omega) (by omega) (by omega) (by omega)
 have b2:=mul_bd (x:=y) (y:=y) (M:=1099511627776) (N:=1099511627776) (by omega) (by omega) (by omega) (by omega)
 have p1:=sq_nonneg x
 have p2:=sq_nonneg y
 obtain ⟨r0,r1,r2⟩:=rootZ_spec (n:=x*x+y*y) (by omega) (by omega)
 have hP:(x≠0∨y≠0)→0<x*x+y*y:=fun h=>by
  rcases h with h | h
  ·have : 0 < x * x := by rcases Int.lt_or_gt_of_ne h with g | g; exact Int.mul_pos_of_neg_of_neg g g; exact Int.mul_pos g g
   omega
  ·have : 0 < y * y := by rcases Int.lt_or_gt_of_ne h with g | g; exact Int.mul_pos_of_neg_of_neg g g; exact Int.mul_pos g g
   omega
 unfold lenZ
 obtain ⟨r,hr⟩:∃ r,r=rootZ (x*x+y*y):=⟨_,rfl⟩
 rw [← hr] at r0 r1 r2 ⊢
 refine ⟨r0,?_,fun h=>?_⟩
 ·rcases Int.lt_or_le 2199023255552 r with h | h
  ·have := Int.mul_le_mul (show 2199023255553 ≤ r by omega) (show 2199023255553 ≤ r by omega) (by omega) (by omega)
   omega
  ·exact h
 ·have := hP h
  rcases Int.lt_or_le 0 r with g | g
  ·exact g
  ·have : r = 0 := by omega
   subst this
   simp at r2
   omega
theorem unit_calls (a b:Int) (w:World):Calls Tryz.prog 115 #[vecV a b] w (Ret (vecV (unitX a b) (unitY a b)) w):=by
 obtain ⟨W,hW⟩:∃ W,W=(w.alloc (.cells #[.int .i64 a,.int .i64 b] 27)).alloc (.cells #[.int .i64 0,.int .i64 0] 27):=⟨_,rfl⟩
 have HZ0:=hid (show VZ W (w.heap.size+1) by rw [hW];have:=VZ.here (w.alloc (.cells #[.int .i64 a,.int .i64 b] 27)) 0 0 27;simpa using this)
 have hB0:Below w.heap.size w W:=by rw [hW];go_grown
 have p0:W.cell? ⟨w.heap.size,0,none⟩=some (.int .i64 a):=by rw [hW];go_simp
 have p1:W.cell? ⟨w.heap.size,1,none⟩=some (.int .i64 b):=by rw [hW];go_simp
 go_enter Tryz.func115,Tryz.ntmps115
 go_wp2_with fail
 rw [← hW]
 clear hW
 refine wp_region_noPanic ?_
 refine wp_region_U (S:=(S2 (fun w'=>w'.cell? ⟨w.heap.size,0,none⟩=some (.int .i64 a)∧w'.cell? ⟨w.heap.size,1,none⟩=some (.int .i64 b)∧VZ w' (w.heap.size+1)∧Below w.heap.size w w'))) (T:=(fun _=>0)) (by kernel_rfl) (S2i0 ⟨p0,p1,HZ0.out.drew,hB0.drew⟩) (fun hH=>?_)
 have hWr1:Weaker (S2 (fun w'=>w'.cell? ⟨w.heap.size,0,none⟩=some (.int .i64 a)∧w'.cell? ⟨w.heap.size,1,none⟩=some (.int .i64 b)∧VZ w' (w.heap.size+1)∧Below w.heap.size w w')):=weaker2 _
 refine Utn [(0,6),(1,7),(3,9),(4,10)] 4 0 0 (L':=?Lr1_1) hWr1 hH ?hyr1_1 ?_
 case hyr1_1=>((iterate 4 apply tkC;rfl;kernel_rfl;intro w' hSw;replace hSw:=S2o0 hSw;(try dsimp only at hSw);have q0:=hSw.1;have q1:=hSw.2.1;have q2:=hSw.2.2.1;have q3:=hSw.2.2.2;(try simp only [sB,sC]);go_simp;(try with_reducible rfl));exact tkN)
 simp only [sB,sC]
 refine U1 2 0 rfl (fun K hK=>?_)
 try clear hb
 go_simp
 (go_at_call 147;refine (clamp_calls a _).mono ?_;rintro e wn ⟨rfl,hb⟩)
 refine hK.out _ _ ?hsr1_5 (fun hH2=>?hrr1_5)
 case hsr1_5=>exact S2i0 (by have hG:=hH;replace hG:=S2o0 hG;(try dsimp only at hG);have q0:=hG.1;have q1:=hG.2.1;have q2:=hG.2.2.1;have q3:=hG.2.2.2;exact ⟨keepCell hb q0,keepCell hb q1,keepVZ hb q2,keepBelow hb q3⟩)
 clear hK K hH
 have hH:=hH2
 clear hH2
 try simp only [Act.put,sA,sB,sC]
 refine U1 5 0 rfl (fun K hK=>?_)
 try clear hb
 go_simp
 (go_at_call 147;refine (clamp_calls b _).mono ?_;rintro e wn ⟨rfl,hb⟩)
 refine hK.out _ _ ?hsr1_6 (fun hH2=>?hrr1_6)
 case hsr1_6=>exact S2i0 (by have hG:=hH;replace hG:=S2o0 hG;(try dsimp only at hG);have q0:=hG.1;have q1:=hG.2.1;have q2:=hG.2.2.1;have q3:=hG.2.2.2;exact ⟨keepCell hb q0,keepCell hb q1,keepVZ hb q2,keepBelow hb q3⟩)
 clear hK K hH
 have hH:=hH2
 clear hH2
 try simp only [Act.put,sA,sB,sC]
 refine Utn [(6,3),(7,4)] 0 0 0 (L':=?Lr1_7) hWr1 hH ?hyr1_7 ?_
 case hyr1_7=>((iterate 2 apply tkC;rfl;kernel_rfl;intro w' hSw;clear hSw;(try simp only [sB,sC]);go_simp;(try with_reducible rfl));exact tkN)
 simp only [sB,sC]
 refine wpAnyU_done (by kernel_rfl) ?_ _ _
 refine NoPanic.normal ?_
 clear hWr1
 replace hH:=S2o0 hH
 (try dsimp only at hH)
 have q0:=hH.1
 have q1:=hH.2.1
 have q2:=hH.2.2.1
 have q3:=hH.2.2.2
 have ba:=clampF_bd a
 have bb:=clampF_bd b
 have HU:Hid (unitX a b=(if clampF a=0∧clampF b=0 then 0 else thrZ (upF 31 (clampF a) (clampF b)).1 (lenZ (upF 31 (clampF a) (clampF b)).1 (upF 31 (clampF a) (clampF b)).2))∧unitY a b=(if clampF a=0∧clampF b=0 then 0 else thrZ (upF 31 (clampF a) (clampF b)).2 (lenZ (upF 31 (clampF a) (clampF b)).1 (upF 31 (clampF a) (clampF b)).2))):=⟨rfl,rfl⟩
 generalize clampF a=x0 at *
 generalize clampF b=y0 at *
 have HZ1:=hid q2
 have hB1:=q3
 clear q0 q1 q2 q3 hH hb HZ0 hB0 p0 p1
 by_cases hx0:x0=0∧y0=0
 ·have e1 : (x0 == 0) = true := by simp [hx0.1]
  have e2:(y0 == 0)=true:=by simp [hx0.2]
  have HR:Hid (unitX a b=0∧unitY a b=0):=by show _∧_;rw [HU.out.1,HU.out.2,if_pos hx0,if_pos hx0];exact ⟨rfl,rfl⟩
  obtain ⟨⟨z0,z1,y0',y1⟩,yf⟩:=HZ1.out
  clear hx0 HU HZ1
  go_wp2
  refine bodyPost_ret (v:=vecV 0 0) (by simp [results,Tryz.results115,go_sem,y0',y1]) rfl ⟨by rw [HR.out.1,HR.out.2],by go_grown⟩
 ·have e12:(x0 == 0)=false∨((x0 == 0)=true∧(y0 == 0)=false):=by
   by_cases g:x0=0
   ·exact .inr ⟨by simp [g],by simp;exact fun h=>hx0 ⟨g,h⟩⟩
   ·exact .inl (by simp [g])
  have HNZ:=hid hx0
  clear hx0
  rcases e12 with e1 | ⟨e1,e2⟩
  all_goals
   go_wp2_with fail
   clear e1
   try clear e2
   go_loopw [3,4] (fun s t wr=>∃ (k:Nat) (x y:Int),s = .int .i64 x∧t = .int .i64 y∧(-1099511627776≤x∧x≤1099511627776)∧(-1099511627776≤y∧y≤1099511627776)∧¬ (x=0∧y=0)∧upF k x y=upF 31 x0 y0∧(1073741824≤absZ x*2 ^ k∨1073741824≤absZ y*2 ^ k)∧VZ wr (w.heap.size+1)∧Below w.heap.size w wr) (fun s t _=>(2147483648-(absZ (intOf s)+absZ (intOf t))).toNat)
   case atStart =>
    refine ⟨31,x0,y0,rfl,rfl,ba,bb,HNZ.out,rfl,?_,HZ1.out,hB1⟩
    have n1:=absZ_nn x0
    have n2:=absZ_nn y0
    have e:(2:Int) ^ 31=2147483648:=by decide
    rw [e]
    by_cases g:x0=0
    ·have : y0 ≠ 0 := fun h => HNZ.out ⟨g, h⟩
     have:1≤absZ y0:=by unfold absZ;split <;> omega
     exact .inr (by omega)
    ·have : 1 ≤ absZ x0 := by unfold absZ; split <;> omega
     exact .inl (by omega)
   case round =>
    clear HZ1 hB1
    obtain ⟨k,x,y,rfl,rfl,bx,by_,hnz,hup,hbig,hz,hB⟩:=hrel
    obtain ⟨wo,rfl⟩:∃ wo:World,wo=wr:=⟨_,rfl⟩
    have HZ:=hid hz
    have HUP:=hid hup
    have HBIG:=hid hbig
    have HNZ2:=hid hnz
    have HMX:=hid (vmag_calls x (by omega) (by omega))
    have HMY:=hid (vmag_calls y (by omega) (by omega))
    have nx:=absZ_nn x
    have ny:=absZ_nn y
    obtain ⟨X,hX⟩:∃ X,X=absZ x:=⟨_,rfl⟩
    obtain ⟨Y,hY⟩:∃ Y,Y=absZ y:=⟨_,rfl⟩
    rw [← hX] at HMX nx
    rw [← hY] at HMY ny
    obtain ⟨M,hM⟩:∃ M,M=if Y > X then Y else X:=⟨_,rfl⟩
    have hrun:∀ (ts:Array TypeId) (t:TypeId) (w:World),(Builtin.max_ ts t #[.int .u64 X,.int .u64 Y]).run Tryz.prog w = .ok (.int .u64 M) w:=fun ts t w=>by rw [run_max_int2,hM]
    have HXY:=hid (And.intro hX hY)
    have hMd:M<1073741824↔X<1073741824∧Y<1073741824:=by rw [hM];split <;> omega
    clear hz hup hbig hnz hX hY hM
    go_wp2_with fail
    refine (HMX.out _).mono ?_
    rintro e v1 ⟨rfl,hv1⟩
    go_wp2_with fail
    refine (HMY.out _).mono ?_
    rintro e v2 ⟨rfl,hv2⟩
    have HZ2:=hid (keepVZ hv2 (keepVZ hv1 HZ.out))
    have hB2:=keepBelow hv2 (keepBelow hv1 hB)
    clear hv1 hv2 HZ hB HMX HMY
    by_cases hlt:M<1073741824
    ·obtain ⟨h1, h2⟩ := hMd.1 hlt
     have hx2 : -1073741824<x∧x<1073741824:=by have:=HXY.out.1;unfold absZ at this;split at this <;> omega
     have hy2 : -1073741824<y∧y<1073741824:=by have:=HXY.out.2;unfold absZ at this;split at this <;> omega
     have u1:IntKind.i64.wrap (2*x)=2*x:=IntWalk.i64_in _ (by omega)
     have u2:IntKind.i64.wrap (2*y)=2*y:=IntWalk.i64_in _ (by omega)
     have HKK:Hid (∃ k',upF k' (2*x) (2*y)=upF 31 x0 y0∧(1073741824≤absZ (2*x)*2 ^ k'∨1073741824≤absZ (2*y)*2 ^ k')):=by
      show ∃ _,_
      cases k with
      | zero =>
       have:=HBIG.out
       rw [← HXY.out.1,← HXY.out.2,Int.pow_zero,Int.mul_one,Int.mul_one] at this
       omega
      | succ k =>
       refine ⟨k,?_,?_⟩
       ·rw [← HUP.out,upF,if_pos (by rw [← HXY.out.1,← HXY.out.2];exact ⟨h1,h2⟩)]
       ·have := HBIG.out
        rw [absZ_two,absZ_two,Int.mul_assoc,Int.mul_assoc,Int.mul_left_comm 2,Int.mul_left_comm 2]
        rwa [Int.pow_succ,Int.mul_comm ((2:Int) ^ k) 2] at this
     have HNN:Hid (¬ (2*x=0∧2*y=0)):=fun g=>HNZ2.out ⟨by omega,by omega⟩
     have hms:absZ (2*x)=2*X∧absZ (2*y)=2*Y:=⟨by rw [absZ_two,HXY.out.1],by rw [absZ_two,HXY.out.2]⟩
     have HMS:=hid hms
     have hpos:0<X+Y:=by
      have a1:=HXY.out.1
      have a2:=HXY.out.2
      rcases Int.lt_or_le 0 (X+Y) with g | g
      ·exact g
      ·exact absurd ⟨by unfold absZ at a1;split at a1 <;> omega,by unfold absZ at a2;split at a2 <;> omega⟩ HNZ2.out
     clear hms hMd HUP HBIG HNZ2
     go_wp2
     go_roundw
     case rel =>
      obtain ⟨k',e1,e2⟩:=HKK.out
      exact ⟨k',2*x,2*y,rfl,rfl,by omega,by omega,HNN.out,e1,e2,HZ2.out,hB2⟩
     case measure =>
      simp only [intOf]
      rw [HMS.out.1,HMS.out.2,← HXY.out.1,← HXY.out.2]
      omega
    ·have hn : ¬ (X < 1073741824 ∧ Y < 1073741824) := fun g => hlt (hMd.2 g)
     have hfin:upF k x y=(x,y):=by
      cases k with
      | zero=>rfl
      | succ k=>rw [upF,if_neg (by rw [← HXY.out.1,← HXY.out.2];exact hn)]
     have hxy:upF 31 x0 y0=(x,y):=by rw [← HUP.out,hfin]
     obtain ⟨l0,l1,l2⟩:=len_bd bx by_
     have lp:0<lenZ x y:=l2 (by
      by_cases g:x=0
      ·exact .inr (fun h=>HNZ2.out ⟨g,h⟩)
      ·exact .inl g)
     have HLN:=hid (vlength_calls x y (by omega) (by omega))
     obtain ⟨l,hl⟩:∃ l,l=lenZ x y:=⟨_,rfl⟩
     have HR:Hid (unitX a b=thrZ x l∧unitY a b=thrZ y l):=by
      show _∧_
      rw [HU.out.1,HU.out.2,if_neg HNZ.out,if_neg HNZ.out,hxy,hl]
      exact ⟨rfl,rfl⟩
     rw [← hl] at HLN l1 lp
     have HT1:=hid (through_calls x l (by omega) (by omega))
     have HT2:=hid (through_calls y l (by omega) (by omega))
     clear hl l0 l2 hxy hfin hn HUP HBIG HNZ2 HU HXY
     generalize thrZ x l=t1 at *
     generalize thrZ y l=t2 at *
     go_wp2_with fail
     refine (HLN.out _).mono ?_
     rintro e v3 ⟨rfl,hv3⟩
     go_wp2_with fail
     refine (HT1.out _).mono ?_
     rintro e v4 ⟨rfl,hv4⟩
     go_wp2_with fail
     refine (HT2.out _).mono ?_
     rintro e v5 ⟨rfl,hv5⟩
     obtain ⟨⟨z0,z1,r0,r1⟩,rf⟩:=keepVZ hv5 (keepVZ hv4 (keepVZ hv3 HZ2.out))
     have hB5:=keepBelow hv5 (keepBelow hv4 (keepBelow hv3 hB2))
     clear hv3 hv4 hv5 HZ2 hB2 HLN HT1 HT2
     go_wp2
     refine bodyPost_ret (v:=vecV t1 t2) (by simp [results,Tryz.results115,go_sem,r0,r1]) rfl ⟨by rw [HR.out.1,HR.out.2],by go_grown⟩
end
end Go.Proofs.YtiaoandbdgdecaaGreat
namespace Go.Proofs.YtiaoandbdgdecaaGreat
section
set_option linter.unusedVariables false
open Go.RowKit
theorem wpAnyU_lst {P:Program} {md:Region.Mode} {ops:Array Oper} {Q:Exit→Act→World→Prop} {S:Nat→World→Prop} {T:Nat→Nat} {fuel lev:Nat} {l l':Array Bool} {a:Act} {w:World} (h:l=l') (hw:wpAnyU P md ops Q S T fuel lev l' a w):wpAnyU P md ops Q S T fuel lev l a w:=h ▸ hw
end
end Go.Proofs.YtiaoandbdgdecaaGreat
namespace Go.Proofs.YtiaoandbdgdecaaGreat
section
set_option linter.unusedVariables false
set_option linter.unusedSimpArgs false
open Go.RowKit


structure Ej (w0 : World) (bL oL : Nat) (L : List BE) (x : Jt) (w : World) : Prop where
 j:w.cell? ⟨w0.heap.size,0,none⟩=some (.int .i64 x.a)∧w.cell? ⟨w0.heap.size,1,none⟩=some (.int .i64 x.b)∧w.cell? ⟨w0.heap.size,2,none⟩=some (.int .i64 x.p1)∧w.cell? ⟨w0.heap.size,3,none⟩=some (.int .i64 x.p2)∧w.cell? ⟨w0.heap.size,4,none⟩=some (.int .i64 x.q1)∧w.cell? ⟨w0.heap.size,5,none⟩=some (.int .i64 x.q2)∧w.cell? ⟨w0.heap.size,6,none⟩=some (.int .i64 x.len)
 cl:CellsE layB w bL oL L
 z1:VZ w (w0.heap.size+1)
 z2:VZ w (w0.heap.size+2)
 bel:Below w0.heap.size w0 w
 lt:bL<w0.heap.size
 sz:w0.heap.size+2<w.heap.size
theorem keepEj {w0:World} {bL oL:Nat} {L:List BE} {x:Jt} {w w':World} (hb:Below w.heap.size w w') (h:Ej w0 bL oL L x w):Ej w0 bL oL L x w':=by
 obtain ⟨h0,h1,h2,h3,h4,h5,h6⟩:=h.j
 exact ⟨⟨keepCell hb h0,keepCell hb h1,keepCell hb h2,keepCell hb h3,keepCell hb h4,keepCell hb h5,keepCell hb h6⟩,h.cl.below hb,keepVZ hb h.z1,keepVZ hb h.z2,keepBelow hb h.bel,h.lt,Nat.lt_of_lt_of_le h.sz hb.size⟩
theorem Ej.alloc {w0:World} {bL oL:Nat} {L:List BE} {x:Jt} {w:World} (h:Ej w0 bL oL L x w) (o:Obj):Ej w0 bL oL L x (w.alloc o):=keepEj Ba h
theorem Ej.drew {w0:World} {bL oL:Nat} {L:List BE} {x:Jt} {w:World} (h:Ej w0 bL oL L x w):Ej w0 bL oL L x w.drew:=keepEj (Below.refl _ _).drew h
theorem Ej.set {w0:World} {bL oL:Nat} {L:List BE} {x:Jt} {w:World} {g o:Nat} {v:Value} (h:Ej w0 bL oL L x w) (hg:w0.heap.size+2<g):Ej w0 bL oL L x (w.setCell ⟨g,o,none⟩ v):=by
 obtain ⟨h0,h1,h2,h3,h4,h5,h6⟩:=h.j
 have hlt:=h.lt
 have n0:g≠w0.heap.size:=by omega
 have n1:g≠w0.heap.size+1:=by omega
 have n2:g≠w0.heap.size+2:=by omega
 have vz:∀ k,g≠k→VZ w k→VZ (w.setCell ⟨g,o,none⟩ v) k:=fun k hk hz=>by
  obtain ⟨⟨a,b,c,d⟩,f⟩:=hz
  exact ⟨⟨a,b,far1 hk c,far1 hk d⟩,fun j=>by rw [World.frozen?_setCell];exact f j⟩
 exact ⟨⟨far1 n0 h0,far1 n0 h1,far1 n0 h2,far1 n0 h3,far1 n0 h4,far1 n0 h5,far1 n0 h6⟩,⟨by simp;exact h.cl.lt,fun j hj i u hu=>far1 (by omega) (h.cl.at_ j hj i u hu)⟩,vz _ n1 h.z1,vz _ n2 h.z2,h.bel.setCell (p:=⟨g,o,none⟩) (by show w0.heap.size≤g;omega) _,h.lt,by simp;exact h.sz⟩
theorem Ej.setBd {w0:World} {bL oL:Nat} {L:List BE} {x:Jt} {w:World} {g:Nat} (h:Ej w0 bL oL L x w) (hg:w0.heap.size+2<g) (b:Bd) (A:Option Addr) (n c:Nat):Ej w0 bL oL L x (Go.Proofs.YtiaoandbdgdecaaGreat.setBd w g b A n c):=by
 unfold Go.Proofs.YtiaoandbdgdecaaGreat.setBd
 iterate 13 refine Ej.set ?_ hg
 exact h

end
end Go.Proofs.YtiaoandbdgdecaaGreat
namespace Go.Proofs.YtiaoandbdgdecaaGreat
section
set_option linter.unusedVariables false
set_option linter.unusedSimpArgs false
open Go.RowKit


abbrev QB:=Bd × List V
def qB (Q:List QB) (i:Int):Bd:=match Q[i.toNat]? with | some y=>y.1 | none=>bd0
def putQ (Q:List QB) (k:Nat) (b:Bd):List QB:=match Q[k]? with | some y=>Q.set k (b,y.2) | none=>Q
theorem putQ_eq {Q:List QB} {k:Nat} {y:QB} (h:Q[k]? = some y) (b:Bd):putQ Q k b=Q.set k (b,y.2):=by unfold putQ;rw [h]


structure Like (y y' : QB) : Prop where
 l:y'.2=y.2
 px:y'.1.px=y.1.px
 py:y'.1.py=y.1.py
 ang:y'.1.ang=y.1.ang
 mass:y'.1.mass=y.1.mass
 rest:y.1.mass=0→y'=y
 ok:bodyE y.1 y.2=0→bodyE y'.1 y'.2=0
theorem Like.refl (y:QB):Like y y:=⟨rfl,rfl,rfl,rfl,rfl,fun _=>rfl,fun h=>h⟩
theorem Like.trans {y y' z:QB} (h:Like y y') (h':Like y' z):Like y z :=
 ⟨h'.l.trans h.l,h'.px.trans h.px,h'.py.trans h.py,h'.ang.trans h.ang,h'.mass.trans h.mass,fun e=>by rw [h'.rest (by rw [h.mass];exact e),h.rest e],fun e=>h'.ok (h.ok e)⟩
theorem Like.push (y:QB) (j1 j2 u v:Int):Like y (pushR y.1 j1 j2 u v,y.2):=by
 refine ⟨rfl,?_,?_,?_,?_,fun e=>?_,fun e=>pushR_ok e _ _ _ _⟩ <;> unfold pushR
 iterate 4 (split <;> rfl)
 rw [if_pos (.inl e)]
structure LikeL (Q Q' : List QB) : Prop where
 len:Q'.length=Q.length
 at_:∀ (k:Nat) (y:QB),Q[k]? = some y→∃ y',Q'[k]? = some y'∧Like y y'
theorem LikeL.refl (Q:List QB):LikeL Q Q:=⟨rfl,fun k y h=>⟨y,h,.refl y⟩⟩
theorem LikeL.trans {Q Q' R:List QB} (h:LikeL Q Q') (h':LikeL Q' R):LikeL Q R :=
 ⟨h'.len.trans h.len,fun k y hy=>by
  obtain ⟨y',e,l⟩:=h.at_ k y hy
  obtain ⟨z,e',l'⟩:=h'.at_ k y' e
  exact ⟨z,e',l.trans l'⟩⟩
theorem LikeL.put {Q:List QB} {k:Nat} {y:QB} (h:Q[k]? = some y) {b:Bd} (hb:Like y (b,y.2)):LikeL Q (putQ Q k b):=by
 rw [putQ_eq h]
 refine ⟨by simp,fun j z hz=>?_⟩
 by_cases e:k=j
 ·subst e
  rw [h] at hz;cases hz
  have hk:k<Q.length:=(List.getElem?_eq_some_iff.1 h).1
  exact ⟨_,by rw [List.getElem?_set_self hk],hb⟩
 ·exact ⟨z,by rw [List.getElem?_set_ne e];exact hz,.refl z⟩
theorem LikeL.qB {Q Q':List QB} (h:LikeL Q Q') (i:Int):(Go.Proofs.YtiaoandbdgdecaaGreat.qB Q' i).px=(Go.Proofs.YtiaoandbdgdecaaGreat.qB Q i).px∧(Go.Proofs.YtiaoandbdgdecaaGreat.qB Q' i).py=(Go.Proofs.YtiaoandbdgdecaaGreat.qB Q i).py∧(Go.Proofs.YtiaoandbdgdecaaGreat.qB Q' i).ang=(Go.Proofs.YtiaoandbdgdecaaGreat.qB Q i).ang∧(Go.Proofs.YtiaoandbdgdecaaGreat.qB Q' i).mass=(Go.Proofs.YtiaoandbdgdecaaGreat.qB Q i).mass:=by
 unfold Go.Proofs.YtiaoandbdgdecaaGreat.qB
 rcases hq:Q[i.toNat]? with _ | y
 ·have : Q'[i.toNat]? = none := by rw [List.getElem?_eq_none_iff] at hq ⊢; rw [h.len]; exact hq
  rw [this];exact ⟨rfl,rfl,rfl,rfl⟩
 ·obtain ⟨y', e, l⟩ := h.at_ _ y hq
  rw [e];exact ⟨l.px,l.py,l.ang,l.mass⟩
theorem LikeL.wX {Q Q':List QB} (h:LikeL Q Q') (i:Int) (p q:Int):Go.Proofs.YtiaoandbdgdecaaGreat.wX (Go.Proofs.YtiaoandbdgdecaaGreat.qB Q' i) p q=Go.Proofs.YtiaoandbdgdecaaGreat.wX (Go.Proofs.YtiaoandbdgdecaaGreat.qB Q i) p q:=by
 obtain ⟨h1,h2,h3,h4⟩:=h.qB i
 unfold Go.Proofs.YtiaoandbdgdecaaGreat.wX;rw [h1,h3]
theorem LikeL.wY {Q Q':List QB} (h:LikeL Q Q') (i:Int) (p q:Int):Go.Proofs.YtiaoandbdgdecaaGreat.wY (Go.Proofs.YtiaoandbdgdecaaGreat.qB Q' i) p q=Go.Proofs.YtiaoandbdgdecaaGreat.wY (Go.Proofs.YtiaoandbdgdecaaGreat.qB Q i) p q:=by
 obtain ⟨h1,h2,h3,h4⟩:=h.qB i
 unfold Go.Proofs.YtiaoandbdgdecaaGreat.wY;rw [h2,h3]




end
end Go.Proofs.YtiaoandbdgdecaaGreat
