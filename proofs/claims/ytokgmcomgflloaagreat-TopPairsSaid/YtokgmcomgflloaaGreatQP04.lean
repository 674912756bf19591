/- Parts of a proof: contracts and laws. -/
import Derived.Test.YtokgmcomgflloaaGreatQP01
import Derived.Test.YtokgmcomgflloaaGreatQP00
import Derived.Test.YtokgmcomgflloaaGreatQP02
import Derived.Deep.DeepCutAuto
import Derived.Test.YtokgmcomgflloaaGreatQP03
set_option maxRecDepth 100000
set_option maxHeartbeats 16000000
namespace Go.Proofs.YtokgmcomgflloaaGreat
section
set_option linter.unusedVariables false
set_option linter.unusedSimpArgs false
open Go.RowKit
def aS (a:Int):Int:=if a < -1099511627776 then -1099511627776 else if 1099511627776<a then 1099511627776 else a
theorem iy (a:Int) : -1099511627776≤aS a∧aS a≤1099511627776:=by unfold aS;split <;> (try split) <;> omega
theorem iR {a:Int} (h1 : -1099511627776≤a) (h2:a≤1099511627776):aS a=a:=by unfold aS;rw [if_neg (by omega),if_neg (by omega)]
theorem zu {a:Int} (h1:a ≤ -1099511627776):aS a = -1099511627776:=by unfold aS;split <;> (try split) <;> omega
theorem zK {a:Int} (h1:1099511627776≤a):aS a=1099511627776:=by unfold aS;split <;> (try split) <;> omega
theorem bV (a:Int) (w:World):Calls Tryz.prog 38 #[.int .i64 a] w (dS (.int .i64 (aS a)) w):=by
 go_enter Tryz.func38,Tryz.ntmps38
 go_wp2
 all_goals
  go_returns
  exact aH (by unfold aS;(repeat' split) <;> omega) (Below.refl _ _)
def fV (a b:Int):Int:=aS (aS a+aS b)
def iN (a b:Int):Int:=aS (aS a-aS b)
theorem qA (a b:Int) (w:World):Calls Tryz.prog 153 #[.int .i64 a,.int .i64 b] w (dS (.int .i64 (fV a b)) w):=by
 obtain ⟨p,hp⟩:∃ p,p=aS a:=⟨_,rfl⟩;obtain ⟨q,hq⟩:∃ q,q=aS b:=⟨_,rfl⟩;have h1:=iy a;have h2:=iy b;rw [← hp] at h1;rw [← hq] at h2;have HP:=hid hp;have HQ:=hid hq;have hwr:IntKind.i64.wrap (p+q)=p+q:=IntWalk.i64_in _ (by omega);clear hp hq
 go_enter Tryz.func153,Tryz.ntmps153
 go_wp2_with fail
 refine (bV a _).mono ?_;rintro e w1 ⟨rfl,hb1⟩;rw [← HP.out]
 go_wp2_with fail
 refine (bV b _).mono ?_;rintro e w2 ⟨rfl,hb2⟩;rw [← HQ.out];have hB2:=aj hb2 hb1
 go_wp2_with fail
 refine (bV (p+q) _).mono ?_;rintro e w3 ⟨rfl,hb3⟩;have hB3:=aj hb3 hB2;go_wp2
 go_returns
 exact aH (by rw [HP.out,HQ.out];rfl) hB3
theorem ql (a b:Int) (w:World):Calls Tryz.prog 40 #[.int .i64 a,.int .i64 b] w (dS (.int .i64 (iN a b)) w):=by
 obtain ⟨p,hp⟩:∃ p,p=aS a:=⟨_,rfl⟩;obtain ⟨q,hq⟩:∃ q,q=aS b:=⟨_,rfl⟩;have h1:=iy a;have h2:=iy b;rw [← hp] at h1;rw [← hq] at h2;have HP:=hid hp;have HQ:=hid hq;have hwr:IntKind.i64.wrap (p-q)=p-q:=IntWalk.i64_in _ (by omega);clear hp hq
 go_enter Tryz.func40,Tryz.ntmps40
 go_wp2_with fail
 refine (bV a _).mono ?_;rintro e w1 ⟨rfl,hb1⟩;rw [← HP.out]
 go_wp2_with fail
 refine (bV b _).mono ?_;rintro e w2 ⟨rfl,hb2⟩;rw [← HQ.out];have hB2:=aj hb2 hb1
 go_wp2_with fail
 refine (bV (p-q) _).mono ?_;rintro e w3 ⟨rfl,hb3⟩;have hB3:=aj hb3 hB2;go_wp2
 go_returns
 exact aH (by rw [HP.out,HQ.out];rfl) hB3
def aO (a:Int):Int:=if a<0 then -a else a
theorem sW (a:Int) (h1 : -1099511627776≤a) (h2:a≤1099511627776) (w:World):Calls Tryz.prog 186 #[.int .i64 a] w (dS (.int .u64 (aO a)) w):=by
 by_cases h:a<0
 ·have hw1 : IntKind.i64.wrap (-a) = -a := IntWalk.i64_in _ (by omega);have hw2:IntKind.u64.wrap (-a) = -a:=aY (by omega) (by omega)
  go_enter Tryz.func186,Tryz.ntmps186
  go_wp2
  go_returns
  exact aH (by unfold aO;rw [if_pos h]) (Below.refl _ _)
 ·have hw2 : IntKind.u64.wrap a = a := aY (by omega) (by omega)
  go_enter Tryz.func186,Tryz.ntmps186
  go_wp2
  go_returns
  exact aH (by unfold aO;rw [if_neg (by omega)]) (Below.refl _ _)

def NW (a b c:Int):Int:=if aS c=0 then 0 else aS (mK (aS a*aS b) (aS c))
theorem Lc {A B C:Int} (hA : -1099511627776≤A∧A≤1099511627776) (hB : -1099511627776≤B∧B≤1099511627776) (hC : -1099511627776≤C∧C≤1099511627776) (h0:C≠0) :
  uE (A*B) C ((decide (A<0) != decide (B<0)) != decide (C<0)) (aO A*aO B) (aO C):=by
 have a0:0≤aO A∧aO A≤1099511627776:=by unfold aO;split <;> omega
 have b0:0≤aO B∧aO B≤1099511627776:=by unfold aO;split <;> omega
 have m:=bZ (x:=aO A) (y:=aO B) (M:=1099511627776) (N:=1099511627776) (by omega) (by omega) (by omega) (by omega);have m0:=Int.mul_nonneg a0.1 b0.1;refine ⟨by unfold aO;split <;> omega,by unfold aO;split <;> omega,m0,by omega,h0,?_⟩;unfold aO
 by_cases c1:A<0 <;> by_cases c2:B<0 <;> by_cases c3:C<0 <;> simp [c1,c2,c3,Int.neg_mul,Int.mul_neg]
theorem AU (a b c:Int) (w:World):Calls Tryz.prog 125 #[.int .i64 a,.int .i64 b,.int .i64 c] w (dS (.int .i64 (NW a b c)) w):=by
 obtain ⟨A,hA⟩:∃ A,A=aS a:=⟨_,rfl⟩;obtain ⟨B,hB⟩:∃ B,B=aS b:=⟨_,rfl⟩;obtain ⟨C,hC⟩:∃ C,C=aS c:=⟨_,rfl⟩;have a1:=iy a;have b1:=iy b;have c1:=iy c;rw [← hA] at a1;rw [← hB] at b1;rw [← hC] at c1;have HA:=hid hA;have HB:=hid hB;have HC:=hid hC;have HMD:Hid (NW a b c=if C=0 then 0 else aS (mK (A*B) C)):=by show NW a b c=_;unfold NW;rw [hA,hB,hC]
 clear hA hB hC
 go_enter Tryz.func125,Tryz.ntmps125
 go_wp2_with fail
 refine (bV a _).mono ?_;rintro e w1 ⟨rfl,hb1⟩;rw [← HA.out]
 go_wp2_with fail
 refine (bV b _).mono ?_;rintro e w2 ⟨rfl,hb2⟩;rw [← HB.out];have hB2:=aj hb2 hb1
 go_wp2_with fail
 refine (bV c _).mono ?_;rintro e w3 ⟨rfl,hb3⟩;rw [← HC.out];have hB3:=aj hb3 hB2;clear hb1 hb2 hb3 hB2 HA HB HC
 by_cases h0:C=0
 ·have HR : Hid (NW a b c = 0) := by rw [h0, if_pos rfl] at HMD; exact HMD
  subst h0;go_wp2
  go_returns
  exact aH HR.out.symm hB3
 ·have HR : Hid (NW a b c = aS (mK (A * B) C)) := by rw [if_neg h0] at HMD; exact HMD
  have HSG:=hid (Lc a1 b1 c1 h0);have h0b:(C == 0)=false:=by simp [h0]
  clear HMD h0
  go_upto_if 25 with fail
  generalize hs1:decide (A<0)=s1 at HSG ⊢;generalize hs2:decide (B<0)=s2 at HSG ⊢
  go_cut [7] from 26 to 27 (fun t wx=>t = .bool (s1 != s2)∧wx=w3)
  case first =>
   clear hs1 hs2
   cases s2 with
   | true =>
    go_wp2
    go_meet
    exact ⟨by simp,rfl⟩
   | false =>
    go_wp2
    go_meet
    exact ⟨by simp,rfl⟩
  case rest =>
   obtain ⟨rfl,hw⟩:=hcut;rw [hw];clear hw wc hs1 hs2
   go_upto_if 29 with fail
   generalize hs3:decide (C<0)=s3 at HSG ⊢;clear hs3
   go_cut [7] from 30 to 31 (fun t wx=>t = .bool ((s1 != s2) != s3)∧wx=w3)
   case first =>
    cases s3 with
    | true =>
     go_wp2
     go_meet
     exact ⟨by simp,rfl⟩
    | false =>
     go_wp2
     go_meet
     exact ⟨by simp,rfl⟩
   case rest =>
    obtain ⟨rfl,hw⟩:=hcut;rw [hw];clear hw wc;generalize ((s1 != s2) != s3)=ng at HSG ⊢
    go_wp2_with fail
    refine (sW C c1.1 c1.2 _).mono ?_;rintro e w4 ⟨rfl,hb4⟩;have hB4:=aj hb4 hB3
    go_wp2_with fail
    refine (sW A a1.1 a1.2 _).mono ?_;rintro e w5 ⟨rfl,hb5⟩;have hB5:=aj hb5 hB4
    go_wp2_with fail
    refine (sW B b1.1 b1.2 _).mono ?_;rintro e w6 ⟨rfl,hb6⟩;have hB6:=aj hb6 hB5;clear hb4 hb5 hb6 hB3 hB4 hB5;have x0:0≤aO A∧aO A≤1099511627776:=by unfold aO;split <;> omega
    have y0:0≤aO B∧aO B≤1099511627776:=by unfold aO;split <;> omega
    have d0:0<aO C∧aO C≤1099511627776:=⟨HSG.out.d0,by unfold aO;split <;> omega⟩;have mb:=bZ (x:=aO A) (y:=aO B) (M:=1099511627776) (N:=1099511627776) (by omega) (by omega) (by omega) (by omega);have m0:=Int.mul_nonneg x0.1 y0.1;generalize aO C=d at *
    generalize aO A=x at *
    generalize aO B=y at *
    go_wp2_with fail
    refine (lZ x y x0.1 (by omega) y0.1 (by omega) _).mono ?_;rintro e w7 ⟨rfl,rfl⟩;generalize x*y=M at *
    generalize A*B=W at *
    have hM2:M / 18446744073709551616*18446744073709551616+M % 18446744073709551616=M:=by omega
    have hi0:0≤M / 18446744073709551616:=by omega
    have lo0:0≤M % 18446744073709551616:=by omega
    have lo1:M % 18446744073709551616<18446744073709551616:=by omega
    have e:=Int.emod_add_mul_ediv M d;have r0:=Int.emod_nonneg M (show d≠0 by omega);have r1:=Int.emod_lt_of_pos M d0.1;have q0:=Int.ediv_nonneg m0 (show 0≤d by omega);have E:=hid (show M=M / d*d+M % d by rw [Int.mul_comm];omega)
    by_cases hlarge:d≤M / 18446744073709551616
    ·have hq : 18446744073709551616 ≤ M / d := Int.le_ediv_of_mul_le d0.1 (by have := Int.mul_comm 18446744073709551616 d; omega);generalize M / 18446744073709551616=hi at *
     generalize M % 18446744073709551616=lo at *
     cases ng with
     | false =>
      have HF:Hid (aS (mK W C)=1099511627776):=zK (by rw [HSG.out.rnd_f E.out r0 r1];split <;> omega);clear e hq;go_wp2
      go_returns
      exact aH (by rw [HR.out,HF.out]) hB6
     | true =>
      have HF:Hid (aS (mK W C) = -1099511627776):=zu (by rw [HSG.out.rnd_t E.out r0 r1];split <;> omega);clear e hq;go_wp2
      go_returns
      exact aH (by rw [HR.out,HF.out]) hB6
    ·have q1 : M / d < 18446744073709551616 := Int.ediv_lt_of_lt_mul d0.1 (by have := Int.mul_comm 18446744073709551616 d; omega);have HM2:=hid hM2;obtain ⟨hi,hhi⟩:∃ hi,hi=M / 18446744073709551616:=⟨_,rfl⟩;obtain ⟨lo,hlo⟩:∃ lo,lo=M % 18446744073709551616:=⟨_,rfl⟩;rw [← hhi] at hi0 hlarge HM2 ⊢;rw [← hlo] at lo0 lo1 HM2 ⊢;clear hhi hlo hM2 e;generalize hqq:M / d=q at *
     generalize hrr:M % d=r at *
     have HQ:=hid hqq;have HRR:=hid hrr;have hdr:IntKind.u64.wrap (d-r)=d-r:=aY (by omega) (by omega);clear hqq hrr
     go_wp2_with fail
     refine (dU hi lo d hi0 (by omega) (by omega) lo0 lo1 _).mono ?_;rintro e w8 ⟨rfl,hb8⟩;rw [HM2.out,HQ.out,HRR.out];have hB8:=aj hb8 hB6;clear hb8 hB6
     by_cases hq:1099511627776<q
     ·cases ng with
      | false =>
       have HF:Hid (aS (mK W C)=1099511627776):=zK (by rw [HSG.out.rnd_f E.out r0 r1];split <;> omega);have hd:IntKind.u64.wrap d=d:=aY (x:=d) (by omega) (by omega);have HK:Hid (aS 1099511627777=1099511627776):=by show _=_;decide
       go_wp2_with fail
       refine (bV 1099511627777 _).mono ?_;rintro e w9 ⟨rfl,hb9⟩;rw [HK.out];have hB9:=aj hb9 hB8;go_wp2
       go_returns
       exact aH (by rw [HR.out,HF.out]) hB9
      | true =>
       have HF:Hid (aS (mK W C) = -1099511627776):=zu (by rw [HSG.out.rnd_t E.out r0 r1];split <;> omega);have hd:IntKind.u64.wrap d=d:=aY (x:=d) (by omega) (by omega);have HK:Hid (aS (-1099511627777) = -1099511627776):=by show _=_;decide
       go_wp2_with fail
       refine (bV (-1099511627777) _).mono ?_;rintro e w9 ⟨rfl,hb9⟩;rw [HK.out];have hB9:=aj hb9 hB8;go_wp2
       go_returns
       exact aH (by rw [HR.out,HF.out]) hB9
     ·have kq : IntKind.i64.wrap q = q := IntWalk.i64_in _ (by omega);have kq1:IntKind.i64.wrap (q+1)=q+1:=IntWalk.i64_in _ (by omega);have kn:IntKind.i64.wrap (-q) = -q:=IntWalk.i64_in _ (by omega);have kn1:IntKind.i64.wrap (-(q+1)) = -(q+1):=IntWalk.i64_in _ (by omega)
      cases ng with
      | false =>
       by_cases hr:d-r≤r
       ·have HF : Hid (mK W C = q + 1) := by show _ = _; rw [HSG.out.rnd_f E.out r0 r1, if_pos (by omega)]
        go_wp2_with fail
        refine (bV (q+1) _).mono ?_;rintro e w9 ⟨rfl,hb9⟩;have hB9:=aj hb9 hB8;go_wp2
        go_returns
        exact aH (by rw [HR.out,HF.out]) hB9
       ·have HF : Hid (mK W C = q) := by show _ = _; rw [HSG.out.rnd_f E.out r0 r1, if_neg (by omega)]; omega
        go_wp2_with fail
        refine (bV q _).mono ?_;rintro e w9 ⟨rfl,hb9⟩;have hB9:=aj hb9 hB8;go_wp2
        go_returns
        exact aH (by rw [HR.out,HF.out]) hB9
      | true =>
       by_cases hr:d-r<r
       ·have HF : Hid (mK W C = -(q + 1)) := by show _ = _; rw [HSG.out.rnd_t E.out r0 r1, if_pos (by omega)]
        go_wp2_with fail
        refine (bV (-(q+1)) _).mono ?_;rintro e w9 ⟨rfl,hb9⟩;have hB9:=aj hb9 hB8;go_wp2
        go_returns
        exact aH (by rw [HR.out,HF.out]) hB9
       ·have HF : Hid (mK W C = -q) := by show _ = _; rw [HSG.out.rnd_t E.out r0 r1, if_neg (by omega)]; omega
        go_wp2_with fail
        refine (bV (-q) _).mono ?_;rintro e w9 ⟨rfl,hb9⟩;have hB9:=aj hb9 hB8;go_wp2
        go_returns
        exact aH (by rw [HR.out,HF.out]) hB9
def bH (a b:Int):Int:=NW a b 65536
def oo (a b:Int):Int:=if b=0 then 0 else NW a 65536 b
theorem fO (a b:Int) (w:World):Calls Tryz.prog 52 #[.int .i64 a,.int .i64 b] w (dS (.int .i64 (bH a b)) w):=by
 go_enter Tryz.func52,Tryz.ntmps52
 go_wp2_with fail
 refine (AU a b 65536 _).mono ?_;rintro e w1 ⟨rfl,hb1⟩;go_wp2
 go_returns
 exact aH rfl hb1
def EW (a b c d:Int):Int:=iN (bH a d) (bH b c)
theorem FB (a b c d:Int) (w:World):Calls Tryz.prog 11 #[cZ a b,cZ c d] w (dS (cZ (iN a c) (iN b d)) w):=by
 obtain ⟨W,hW⟩:∃ W,W=((w.alloc (.cells #[.int .i64 a,.int .i64 b] 24)).alloc (.cells #[.int .i64 c,.int .i64 d] 24)).alloc (.cells #[.int .i64 0,.int .i64 0] 24):=⟨_,rfl⟩;have k0:W.cell? ⟨w.heap.size,0,none⟩=some (.int .i64 a):=by rw [hW];go_simp
 have k1:W.cell? ⟨w.heap.size,1,none⟩=some (.int .i64 b):=by rw [hW];go_simp
 have k2:W.cell? ⟨w.heap.size+1,0,none⟩=some (.int .i64 c):=by rw [hW];go_simp
 have k3:W.cell? ⟨w.heap.size+1,1,none⟩=some (.int .i64 d):=by rw [hW];go_simp
 have HT:Hid (There W.drew (w.heap.size+2) 2):=by
  rw [hW]
  exact fun j hj=>by
   match j,hj with
   | 0,_ | 1,_=>exact ⟨⟨_,by go_simp;rfl⟩,by go_simp⟩
 have hB:Below w.heap.size w W:=by rw [hW];go_grown
 go_enter Tryz.func11,Tryz.ntmps11
 go_wp2_with fail
 rw [← hW];clear hW;refine wp_region_noPanic ?_;refine au (S:=(S2 (fun w'=>w'.cell? ⟨w.heap.size,0,none⟩=some (.int .i64 (a))∧w'.cell? ⟨w.heap.size,1,none⟩=some (.int .i64 (b))∧w'.cell? ⟨w.heap.size+1,0,none⟩=some (.int .i64 (c))∧w'.cell? ⟨w.heap.size+1,1,none⟩=some (.int .i64 (d))∧There w' (w.heap.size+2) 2∧Below w.heap.size w w'))) (T:=(fun j=>[0,0,0,0,0,0,0,0,0,0,0,1].getD j 0)) (by kernel_rfl) (aK ⟨k0,k1,k2,k3,HT.out,hB.drew⟩) (fun hH=>?_);have hWr1:aG (S2 (fun w'=>w'.cell? ⟨w.heap.size,0,none⟩=some (.int .i64 (a))∧w'.cell? ⟨w.heap.size,1,none⟩=some (.int .i64 (b))∧w'.cell? ⟨w.heap.size+1,0,none⟩=some (.int .i64 (c))∧w'.cell? ⟨w.heap.size+1,1,none⟩=some (.int .i64 (d))∧There w' (w.heap.size+2) 2∧Below w.heap.size w w')):=aI _;refine dG [(0,5),(1,6),(2,7),(3,8),(5,10),(6,11),(7,12),(8,13)] 4 0 0 (L':=?Lr1_1) hWr1 hH ?hyr1_1 ?_
 case hyr1_1=>((iterate 8 apply dF;rfl;kernel_rfl;intro w' hSw;replace hSw:=aB hSw;(try dsimp only at hSw);have q0:=hSw.1;have q1:=hSw.2.1;have q2:=hSw.2.2.1;have q3:=hSw.2.2.2.1;have q4:=hSw.2.2.2.2.1;have q5:=hSw.2.2.2.2.2;(try simp only [sB,sC]);go_simp;(try with_reducible rfl));exact dD)
 simp only [sB,sC];refine U1 4 0 rfl (fun K hK=>?_)
 try clear hb
 go_simp
 (go_at_call 40;refine (ql a c _).mono ?_;rintro e wn ⟨rfl,hb⟩)
 refine hK.out _ _ ?hsr1_9 (fun hH2=>?hrr1_9)
 case hsr1_9=>exact aK (by have hG:=hH;replace hG:=aB hG;(try dsimp only at hG);have q0:=hG.1;have q1:=hG.2.1;have q2:=hG.2.2.1;have q3:=hG.2.2.2.1;have q4:=hG.2.2.2.2.1;have q5:=hG.2.2.2.2.2;exact ⟨keepCell hb q0,keepCell hb q1,keepCell hb q2,keepCell hb q3,There.below hb q4,aj hb q5⟩)
 clear hK K hH;have hH:=hH2;clear hH2
 try simp only [Act.put,sA,sB,sC]
 refine U1 9 0 rfl (fun K hK=>?_)
 try clear hb
 go_simp
 (go_at_call 40;refine (ql b d _).mono ?_;rintro e wn ⟨rfl,hb⟩)
 refine hK.out _ _ ?hsr1_10 (fun hH2=>?hrr1_10)
 case hsr1_10=>exact aK (by have hG:=hH;replace hG:=aB hG;(try dsimp only at hG);have q0:=hG.1;have q1:=hG.2.1;have q2:=hG.2.2.1;have q3:=hG.2.2.2.1;have q4:=hG.2.2.2.2.1;have q5:=hG.2.2.2.2.2;exact ⟨keepCell hb q0,keepCell hb q1,keepCell hb q2,keepCell hb q3,There.below hb q4,aj hb q5⟩)
 clear hK K hH;have hH:=hH2;clear hH2
 try simp only [Act.put,sA,sB,sC]
 refine Ut 10 15 1 0 0 (v:=?vr1_11) rfl hWr1 hH ?hyr1_11 ?_
 case hyr1_11=>(intro w' hSw;clear hSw;go_simp;try (with_reducible rfl))
 simp only [sB,sC];refine U1 11 1 rfl (fun K hK=>?_);have hG:=hH;replace hG:=aB hG;(try dsimp only at hG);have q0:=hG.1;have q1:=hG.2.1;have q2:=hG.2.2.1;have q3:=hG.2.2.2.1;have q4:=hG.2.2.2.2.1;have q5:=hG.2.2.2.2.2;obtain ⟨z0,z1,y0,y1,f0,f1⟩:=q4.get2;go_simp;refine hK.out _ _ ?hsr1_12 (fun hH2=>?hrr1_12)
 case hsr1_12=>exact gV
 clear hK K hH;have hH:=hH2;clear hH2
 try simp only [Act.put,sA,sB,sC]
 refine ak (by kernel_rfl) ?_ _ _;refine NoPanic.normal ?_;clear hWr1;have hl9:=lt_of_cell y0;have hB9:=q5;clear q0 q1 q2 q3 q4 q5 hH hG k0 k1 k2 k3 HT;go_wp2;refine bodyPost_ret (v:=cZ (iN a c) (iN b d)) (by simp [results,Tryz.results11,go_sem,y0,y1,hl9]) rfl ⟨rfl,?_⟩;have:=hB9.size
 go_grown
theorem qj (a b c d:Int) (w:World):Calls Tryz.prog 89 #[cZ a b,cZ c d] w (dS (cZ (fV a c) (fV b d)) w):=by
 obtain ⟨W,hW⟩:∃ W,W=((w.alloc (.cells #[.int .i64 a,.int .i64 b] 24)).alloc (.cells #[.int .i64 c,.int .i64 d] 24)).alloc (.cells #[.int .i64 0,.int .i64 0] 24):=⟨_,rfl⟩;have k0:W.cell? ⟨w.heap.size,0,none⟩=some (.int .i64 a):=by rw [hW];go_simp
 have k1:W.cell? ⟨w.heap.size,1,none⟩=some (.int .i64 b):=by rw [hW];go_simp
 have k2:W.cell? ⟨w.heap.size+1,0,none⟩=some (.int .i64 c):=by rw [hW];go_simp
 have k3:W.cell? ⟨w.heap.size+1,1,none⟩=some (.int .i64 d):=by rw [hW];go_simp
 have HT:Hid (There W.drew (w.heap.size+2) 2):=by
  rw [hW]
  exact fun j hj=>by
   match j,hj with
   | 0,_ | 1,_=>exact ⟨⟨_,by go_simp;rfl⟩,by go_simp⟩
 have hB:Below w.heap.size w W:=by rw [hW];go_grown
 go_enter Tryz.func89,Tryz.ntmps89
 go_wp2_with fail
 rw [← hW];clear hW;refine wp_region_noPanic ?_;refine au (S:=(S2 (fun w'=>w'.cell? ⟨w.heap.size,0,none⟩=some (.int .i64 (a))∧w'.cell? ⟨w.heap.size,1,none⟩=some (.int .i64 (b))∧w'.cell? ⟨w.heap.size+1,0,none⟩=some (.int .i64 (c))∧w'.cell? ⟨w.heap.size+1,1,none⟩=some (.int .i64 (d))∧There w' (w.heap.size+2) 2∧Below w.heap.size w w'))) (T:=(fun j=>[0,0,0,0,0,0,0,0,0,0,0,1].getD j 0)) (by kernel_rfl) (aK ⟨k0,k1,k2,k3,HT.out,hB.drew⟩) (fun hH=>?_);have hWr2:aG (S2 (fun w'=>w'.cell? ⟨w.heap.size,0,none⟩=some (.int .i64 (a))∧w'.cell? ⟨w.heap.size,1,none⟩=some (.int .i64 (b))∧w'.cell? ⟨w.heap.size+1,0,none⟩=some (.int .i64 (c))∧w'.cell? ⟨w.heap.size+1,1,none⟩=some (.int .i64 (d))∧There w' (w.heap.size+2) 2∧Below w.heap.size w w')):=aI _;refine dG [(0,5),(1,6),(2,7),(3,8),(5,10),(6,11),(7,12),(8,13)] 4 0 0 (L':=?Lr2_1) hWr2 hH ?hyr2_1 ?_
 case hyr2_1=>((iterate 8 apply dF;rfl;kernel_rfl;intro w' hSw;replace hSw:=aB hSw;(try dsimp only at hSw);have q0:=hSw.1;have q1:=hSw.2.1;have q2:=hSw.2.2.1;have q3:=hSw.2.2.2.1;have q4:=hSw.2.2.2.2.1;have q5:=hSw.2.2.2.2.2;(try simp only [sB,sC]);go_simp;(try with_reducible rfl));exact dD)
 simp only [sB,sC];refine U1 4 0 rfl (fun K hK=>?_)
 try clear hb
 go_simp
 (go_at_call 153;refine (qA a c _).mono ?_;rintro e wn ⟨rfl,hb⟩)
 refine hK.out _ _ ?hsr2_9 (fun hH2=>?hrr2_9)
 case hsr2_9=>exact aK (by have hG:=hH;replace hG:=aB hG;(try dsimp only at hG);have q0:=hG.1;have q1:=hG.2.1;have q2:=hG.2.2.1;have q3:=hG.2.2.2.1;have q4:=hG.2.2.2.2.1;have q5:=hG.2.2.2.2.2;exact ⟨keepCell hb q0,keepCell hb q1,keepCell hb q2,keepCell hb q3,There.below hb q4,aj hb q5⟩)
 clear hK K hH;have hH:=hH2;clear hH2
 try simp only [Act.put,sA,sB,sC]
 refine U1 9 0 rfl (fun K hK=>?_)
 try clear hb
 go_simp
 (go_at_call 153;refine (qA b d _).mono ?_;rintro e wn ⟨rfl,hb⟩)
 refine hK.out _ _ ?hsr2_10 (fun hH2=>?hrr2_10)
 case hsr2_10=>exact aK (by have hG:=hH;replace hG:=aB hG;(try dsimp only at hG);have q0:=hG.1;have q1:=hG.2.1;have q2:=hG.2.2.1;have q3:=hG.2.2.2.1;have q4:=hG.2.2.2.2.1;have q5:=hG.2.2.2.2.2;exact ⟨keepCell hb q0,keepCell hb q1,keepCell hb q2,keepCell hb q3,There.below hb q4,aj hb q5⟩)
 clear hK K hH;have hH:=hH2;clear hH2
 try simp only [Act.put,sA,sB,sC]
 refine Ut 10 15 1 0 0 (v:=?vr2_11) rfl hWr2 hH ?hyr2_11 ?_
 case hyr2_11=>(intro w' hSw;clear hSw;go_simp;try (with_reducible rfl))
 simp only [sB,sC];refine U1 11 1 rfl (fun K hK=>?_);have hG:=hH;replace hG:=aB hG;(try dsimp only at hG);have q0:=hG.1;have q1:=hG.2.1;have q2:=hG.2.2.1;have q3:=hG.2.2.2.1;have q4:=hG.2.2.2.2.1;have q5:=hG.2.2.2.2.2;obtain ⟨z0,z1,y0,y1,f0,f1⟩:=q4.get2;go_simp;refine hK.out _ _ ?hsr2_12 (fun hH2=>?hrr2_12)
 case hsr2_12=>exact gV
 clear hK K hH;have hH:=hH2;clear hH2
 try simp only [Act.put,sA,sB,sC]
 refine ak (by kernel_rfl) ?_ _ _;refine NoPanic.normal ?_;clear hWr2;have hl9:=lt_of_cell y0;have hB9:=q5;clear q0 q1 q2 q3 q4 q5 hH hG k0 k1 k2 k3 HT;go_wp2;refine bodyPost_ret (v:=cZ (fV a c) (fV b d)) (by simp [results,Tryz.results89,go_sem,y0,y1,hl9]) rfl ⟨rfl,?_⟩;have:=hB9.size
 go_grown
def dW (n m:Int):Int:=if n < -m then -m else if m<n then m else n
theorem rC (n m:Int) (h0:0≤m) (h1:m≤9223372036854775807) (w:World):Calls Tryz.prog 124 #[.int .i64 n,.int .i64 m] w (dS (.int .i64 (dW n m)) w):=by
 have hw:IntKind.i64.wrap (-m) = -m:=IntWalk.i64_in _ (by omega)
 go_enter Tryz.func124,Tryz.ntmps124
 go_wp2
 all_goals
  go_returns
  exact aH (by unfold dW;(repeat' split) <;> omega) (Below.refl _ _)
theorem uG (a b:Int) (ha : -1099511627776≤a∧a≤1099511627776) (hb : -1099511627776≤b∧b≤1099511627776) (w:World):Calls Tryz.prog 241 #[cZ a b] w (dS (.int .i64 (aO a+aO b)) w):=by
 have w1:IntKind.i64.wrap (-a) = -a:=IntWalk.i64_in _ (by omega);have w2:IntKind.i64.wrap (-b) = -b:=IntWalk.i64_in _ (by omega)
 have h1:∀ (ts:Array TypeId) (t:TypeId) (w:World),(Builtin.max_ ts t #[.int .i64 a,.int .i64 (-a)]).run Tryz.prog w = .ok (.int .i64 (aO a)) w:=fun ts t w=>by
  rw [run_max_int2];have:(if -a > a then -a else a)=aO a:=by unfold aO;split <;> split <;> omega
  rw [this]
 have h2:∀ (ts:Array TypeId) (t:TypeId) (w:World),(Builtin.max_ ts t #[.int .i64 b,.int .i64 (-b)]).run Tryz.prog w = .ok (.int .i64 (aO b)) w:=fun ts t w=>by
  rw [run_max_int2];have:(if -b > b then -b else b)=aO b:=by unfold aO;split <;> split <;> omega
  rw [this]
 have x0:0≤aO a∧aO a≤1099511627776:=by unfold aO;split <;> omega
 have y0:0≤aO b∧aO b≤1099511627776:=by unfold aO;split <;> omega
 generalize aO a=x at *
 generalize aO b=y at *
 have w3:IntKind.i64.wrap (x+y)=x+y:=IntWalk.i64_in _ (by omega)
 go_enter Tryz.func241,Tryz.ntmps241
 go_wp2
 go_returns
 exact aH rfl (by go_grown)
theorem lT (a b m:Int) (w:World) (h0:0≤m) (h1:m≤9223372036854775807) :
  Calls Tryz.prog 152 #[cZ a b,.int .i64 m] w (dS (.bool (aL m a b)) w):=by
 go_enter Tryz.func152,Tryz.ntmps152
 go_wp2
 all_goals
  go_returns
  exact ⟨by simp [aL, *] <;> omega,by go_grown⟩
theorem BA (a b:Int) (w:World):Calls Tryz.prog 212 #[cZ a b] w (dS (.bool (!aL 2097152 a b)) w):=by
 go_enter Tryz.func212,Tryz.ntmps212
 go_wp2_with (go_at_call 152;refine (lT _ _ _ _ (by omega) (by omega)).mono ?_;rintro e w1 ⟨rfl,hb⟩)
 go_returns
 exact ⟨rfl,by simpa using ((Below.refl _ _).alloc (by simp) _).trans (hb.mono (by simp))⟩
theorem Je (args:Array Value) (w:World):(callFunc 212 args).run Tryz.prog w = .ok (.enter 212 args) w:=by kernel_rfl
def pF (n l h:Int):Bool:=decide (l≤n∧n≤h)
theorem kQ (n l h:Int) (w:World):Calls Tryz.prog 151 #[.int .i64 n,.int .i64 l,.int .i64 h] w (dS (.bool (pF n l h)) w):=by
 go_enter Tryz.func151,Tryz.ntmps151
 go_wp2
 all_goals
  go_returns
  exact ⟨by simp [pF, *] <;> omega,by go_grown⟩
end
end Go.Proofs.YtokgmcomgflloaaGreat
