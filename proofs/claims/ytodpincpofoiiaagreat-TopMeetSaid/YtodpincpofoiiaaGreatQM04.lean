/- Parts of a proof: contracts and laws. -/
import Derived.Test.YtodpincpofoiiaaGreatQM01
import Derived.Test.YtodpincpofoiiaaGreatQM00
import Derived.Test.YtodpincpofoiiaaGreatQM02
import Derived.Deep.DeepCutAuto
import Derived.Test.YtodpincpofoiiaaGreatQM03
set_option maxRecDepth 100000
set_option maxHeartbeats 16000000
namespace Go.Proofs.YtodpincpofoiiaaGreat
section
set_option linter.unusedVariables false
set_option linter.unusedSimpArgs false
open Go.RowKit
def clampF (a:Int):Int:=if a < -1099511627776 then -1099511627776 else if 1099511627776<a then 1099511627776 else a
theorem clampF_bd (a:Int) : -1099511627776≤clampF a∧clampF a≤1099511627776:=by unfold clampF;split <;> (try split) <;> omega
theorem clampF_id {a:Int} (h1 : -1099511627776≤a) (h2:a≤1099511627776):clampF a=a:=by unfold clampF;rw [if_neg (by omega),if_neg (by omega)]
theorem clampF_lo {a:Int} (h1:a ≤ -1099511627776):clampF a = -1099511627776:=by unfold clampF;split <;> (try split) <;> omega
theorem clampF_hi {a:Int} (h1:1099511627776≤a):clampF a=1099511627776:=by unfold clampF;split <;> (try split) <;> omega
theorem clamp_calls (a:Int) (w:World):Calls Tryz.prog 51 #[.int .i64 a] w (Ret (.int .i64 (clampF a)) w):=by
 go_enter Tryz.func51,Tryz.ntmps51
 go_wp2
 all_goals
  go_returns
  exact ret_int (by unfold clampF;(repeat' split) <;> omega) (Below.refl _ _)
def addF (a b:Int):Int:=clampF (clampF a+clampF b)
def subF (a b:Int):Int:=clampF (clampF a-clampF b)
theorem fadd_calls (a b:Int) (w:World):Calls Tryz.prog 87 #[.int .i64 a,.int .i64 b] w (Ret (.int .i64 (addF a b)) w):=by
 obtain ⟨p,hp⟩:∃ p,p=clampF a:=⟨_,rfl⟩
 obtain ⟨q,hq⟩:∃ q,q=clampF b:=⟨_,rfl⟩
 have h1:=clampF_bd a
 have h2:=clampF_bd b
 rw [← hp] at h1
 rw [← hq] at h2
 have HP:=hid hp
 have HQ:=hid hq
 have hwr:IntKind.i64.wrap (p+q)=p+q:=IntWalk.i64_in _ (by omega)
 clear hp hq
 go_enter Tryz.func87,Tryz.ntmps87
 go_wp2_with fail
 refine (clamp_calls a _).mono ?_
 rintro e w1 ⟨rfl,hb1⟩
 rw [← HP.out]
 go_wp2_with fail
 refine (clamp_calls b _).mono ?_
 rintro e w2 ⟨rfl,hb2⟩
 rw [← HQ.out]
 have hB2:=keepBelow hb2 hb1
 go_wp2_with fail
 refine (clamp_calls (p+q) _).mono ?_
 rintro e w3 ⟨rfl,hb3⟩
 have hB3:=keepBelow hb3 hB2
 go_wp2
 go_returns
 exact ret_int (by rw [HP.out,HQ.out];rfl) hB3
theorem fsub_calls (a b:Int) (w:World):Calls Tryz.prog 53 #[.int .i64 a,.int .i64 b] w (Ret (.int .i64 (subF a b)) w):=by
 obtain ⟨p,hp⟩:∃ p,p=clampF a:=⟨_,rfl⟩
 obtain ⟨q,hq⟩:∃ q,q=clampF b:=⟨_,rfl⟩
 have h1:=clampF_bd a
 have h2:=clampF_bd b
 rw [← hp] at h1
 rw [← hq] at h2
 have HP:=hid hp
 have HQ:=hid hq
 have hwr:IntKind.i64.wrap (p-q)=p-q:=IntWalk.i64_in _ (by omega)
 clear hp hq
 go_enter Tryz.func53,Tryz.ntmps53
 go_wp2_with fail
 refine (clamp_calls a _).mono ?_
 rintro e w1 ⟨rfl,hb1⟩
 rw [← HP.out]
 go_wp2_with fail
 refine (clamp_calls b _).mono ?_
 rintro e w2 ⟨rfl,hb2⟩
 rw [← HQ.out]
 have hB2:=keepBelow hb2 hb1
 go_wp2_with fail
 refine (clamp_calls (p-q) _).mono ?_
 rintro e w3 ⟨rfl,hb3⟩
 have hB3:=keepBelow hb3 hB2
 go_wp2
 go_returns
 exact ret_int (by rw [HP.out,HQ.out];rfl) hB3
def absZ (a:Int):Int:=if a<0 then -a else a
theorem mag_calls (a:Int) (h1 : -1099511627776≤a) (h2:a≤1099511627776) (w:World):Calls Tryz.prog 208 #[.int .i64 a] w (Ret (.int .u64 (absZ a)) w):=by
 by_cases h:a<0
 ·have hw1 : IntKind.i64.wrap (-a) = -a := IntWalk.i64_in _ (by omega)
  have hw2:IntKind.u64.wrap (-a) = -a:=wrap_u64_id (by omega) (by omega)
  go_enter Tryz.func208,Tryz.ntmps208
  go_wp2
  go_returns
  exact ret_int (by unfold absZ;rw [if_pos h]) (Below.refl _ _)
 ·have hw2 : IntKind.u64.wrap a = a := wrap_u64_id (by omega) (by omega)
  go_enter Tryz.func208,Tryz.ntmps208
  go_wp2
  go_returns
  exact ret_int (by unfold absZ;rw [if_neg (by omega)]) (Below.refl _ _)

def mdF (a b c:Int):Int:=if clampF c=0 then 0 else clampF (rnd (clampF a*clampF b) (clampF c))
theorem signs_md {A B C:Int} (hA : -1099511627776≤A∧A≤1099511627776) (hB : -1099511627776≤B∧B≤1099511627776) (hC : -1099511627776≤C∧C≤1099511627776) (h0:C≠0) :
  Signs (A*B) C ((decide (A<0) != decide (B<0)) != decide (C<0)) (absZ A*absZ B) (absZ C):=by
 have a0:0≤absZ A∧absZ A≤1099511627776:=by unfold absZ;split <;> omega
 have b0:0≤absZ B∧absZ B≤1099511627776:=by unfold absZ;split <;> omega
 have m:=mul_bd (x:=absZ A) (y:=absZ B) (M:=1099511627776) (N:=1099511627776) (by omega) (by omega) (by omega) (by omega)
 have m0:=Int.mul_nonneg a0.1 b0.1
 refine ⟨by unfold absZ;split <;> omega,by unfold absZ;split <;> omega,m0,by omega,h0,?_⟩
 unfold absZ
 by_cases c1:A<0 <;> by_cases c2:B<0 <;> by_cases c3:C<0 <;> simp [c1,c2,c3,Int.neg_mul,Int.mul_neg]
theorem muldiv_calls (a b c:Int) (w:World):Calls Tryz.prog 147 #[.int .i64 a,.int .i64 b,.int .i64 c] w (Ret (.int .i64 (mdF a b c)) w):=by
 obtain ⟨A,hA⟩:∃ A,A=clampF a:=⟨_,rfl⟩
 obtain ⟨B,hB⟩:∃ B,B=clampF b:=⟨_,rfl⟩
 obtain ⟨C,hC⟩:∃ C,C=clampF c:=⟨_,rfl⟩
 have a1:=clampF_bd a
 have b1:=clampF_bd b
 have c1:=clampF_bd c
 rw [← hA] at a1
 rw [← hB] at b1
 rw [← hC] at c1
 have HA:=hid hA
 have HB:=hid hB
 have HC:=hid hC
 have HMD:Hid (mdF a b c=if C=0 then 0 else clampF (rnd (A*B) C)):=by show mdF a b c=_;unfold mdF;rw [hA,hB,hC]
 clear hA hB hC
 go_enter Tryz.func147,Tryz.ntmps147
 go_wp2_with fail
 refine (clamp_calls a _).mono ?_
 rintro e w1 ⟨rfl,hb1⟩
 rw [← HA.out]
 go_wp2_with fail
 refine (clamp_calls b _).mono ?_
 rintro e w2 ⟨rfl,hb2⟩
 rw [← HB.out]
 have hB2:=keepBelow hb2 hb1
 go_wp2_with fail
 refine (clamp_calls c _).mono ?_
 rintro e w3 ⟨rfl,hb3⟩
 rw [← HC.out]
 have hB3:=keepBelow hb3 hB2
 clear hb1 hb2 hb3 hB2 HA HB HC
 by_cases h0:C=0
 ·have HR : Hid (mdF a b c = 0) := by rw [h0, if_pos rfl] at HMD; exact HMD
  subst h0
  go_wp2
  go_returns
  exact ret_int HR.out.symm hB3
 ·have HR : Hid (mdF a b c = clampF (rnd (A * B) C)) := by rw [if_neg h0] at HMD; exact HMD
  have HSG:=hid (signs_md a1 b1 c1 h0)
  have h0b:(C == 0)=false:=by simp [h0]
  clear HMD h0
  go_upto_if 25 with fail
  generalize hs1:decide (A<0)=s1 at HSG ⊢
  generalize hs2:decide (B<0)=s2 at HSG ⊢
  go_cut [7] from 26 to 27 (fun t wx=>t = .bool (s1 != s2)∧wx=w3)
  case first =>
   clear hs1 hs2
   cases s2 with
   | true =>
    go_wp2
    go_meet
    exact ⟨by simp,rfl⟩
   | false =>
    go_wp2
    go_meet
    exact ⟨by simp,rfl⟩
  case rest =>
   obtain ⟨rfl,hw⟩:=hcut
   rw [hw]
   clear hw wc hs1 hs2
   go_upto_if 29 with fail
   generalize hs3:decide (C<0)=s3 at HSG ⊢
   clear hs3
   go_cut [7] from 30 to 31 (fun t wx=>t = .bool ((s1 != s2) != s3)∧wx=w3)
   case first =>
    cases s3 with
    | true =>
     go_wp2
     go_meet
     exact ⟨by simp,rfl⟩
    | false =>
     go_wp2
     go_meet
     exact ⟨by simp,rfl⟩
   case rest =>
    obtain ⟨rfl,hw⟩:=hcut
    rw [hw]
    clear hw wc
    generalize ((s1 != s2) != s3)=ng at HSG ⊢
    go_wp2_with fail
    refine (mag_calls C c1.1 c1.2 _).mono ?_
    rintro e w4 ⟨rfl,hb4⟩
    have hB4:=keepBelow hb4 hB3
    go_wp2_with fail
    refine (mag_calls A a1.1 a1.2 _).mono ?_
    rintro e w5 ⟨rfl,hb5⟩
    have hB5:=keepBelow hb5 hB4
    go_wp2_with fail
    refine (mag_calls B b1.1 b1.2 _).mono ?_
    rintro e w6 ⟨rfl,hb6⟩
    have hB6:=keepBelow hb6 hB5
    clear hb4 hb5 hb6 hB3 hB4 hB5
    have x0:0≤absZ A∧absZ A≤1099511627776:=by unfold absZ;split <;> omega
    have y0:0≤absZ B∧absZ B≤1099511627776:=by unfold absZ;split <;> omega
    have d0:0<absZ C∧absZ C≤1099511627776:=⟨HSG.out.d0,by unfold absZ;split <;> omega⟩
    have mb:=mul_bd (x:=absZ A) (y:=absZ B) (M:=1099511627776) (N:=1099511627776) (by omega) (by omega) (by omega) (by omega)
    have m0:=Int.mul_nonneg x0.1 y0.1
    generalize absZ C=d at *
    generalize absZ A=x at *
    generalize absZ B=y at *
    go_wp2_with fail
    refine (mul64_int x y x0.1 (by omega) y0.1 (by omega) _).mono ?_
    rintro e w7 ⟨rfl,rfl⟩
    generalize x*y=M at *
    generalize A*B=W at *
    have hM2:M / 18446744073709551616*18446744073709551616+M % 18446744073709551616=M:=by omega
    have hi0:0≤M / 18446744073709551616:=by omega
    have lo0:0≤M % 18446744073709551616:=by omega
    have lo1:M % 18446744073709551616<18446744073709551616:=by omega
    have e:=Int.emod_add_mul_ediv M d
    have r0:=Int.emod_nonneg M (show d≠0 by omega)
    have r1:=Int.emod_lt_of_pos M d0.1
    have q0:=Int.ediv_nonneg m0 (show 0≤d by omega)
    have E:=hid (show M=M / d*d+M % d by rw [Int.mul_comm];omega)
    by_cases hlarge:d≤M / 18446744073709551616
    ·have hq : 18446744073709551616 ≤ M / d := Int.le_ediv_of_mul_le d0.1 (by have := Int.mul_comm 18446744073709551616 d; omega)
     generalize M / 18446744073709551616=hi at *
     generalize M % 18446744073709551616=lo at *
     cases ng with
     | false =>
      have HF:Hid (clampF (rnd W C)=1099511627776):=clampF_hi (by rw [HSG.out.rnd_f E.out r0 r1];split <;> omega)
      clear e hq
      go_wp2
      go_returns
      exact ret_int (by rw [HR.out,HF.out]) hB6
     | true =>
      have HF:Hid (clampF (rnd W C) = -1099511627776):=clampF_lo (by rw [HSG.out.rnd_t E.out r0 r1];split <;> omega)
      clear e hq
      go_wp2
      go_returns
      exact ret_int (by rw [HR.out,HF.out]) hB6
    ·have q1 : M / d < 18446744073709551616 := Int.ediv_lt_of_lt_mul d0.1 (by have := Int.mul_comm 18446744073709551616 d; omega)
     have HM2:=hid hM2
     obtain ⟨hi,hhi⟩:∃ hi,hi=M / 18446744073709551616:=⟨_,rfl⟩
     obtain ⟨lo,hlo⟩:∃ lo,lo=M % 18446744073709551616:=⟨_,rfl⟩
     rw [← hhi] at hi0 hlarge HM2 ⊢
     rw [← hlo] at lo0 lo1 HM2 ⊢
     clear hhi hlo hM2 e
     generalize hqq:M / d=q at *
     generalize hrr:M % d=r at *
     have HQ:=hid hqq
     have HRR:=hid hrr
     have hdr:IntKind.u64.wrap (d-r)=d-r:=wrap_u64_id (by omega) (by omega)
     clear hqq hrr
     go_wp2_with fail
     refine (div64_any hi lo d hi0 (by omega) (by omega) lo0 lo1 _).mono ?_
     rintro e w8 ⟨rfl,hb8⟩
     rw [HM2.out,HQ.out,HRR.out]
     have hB8:=keepBelow hb8 hB6
     clear hb8 hB6
     by_cases hq:1099511627776<q
     ·cases ng with
      | false =>
       have HF:Hid (clampF (rnd W C)=1099511627776):=clampF_hi (by rw [HSG.out.rnd_f E.out r0 r1];split <;> omega)
       have hd:IntKind.u64.wrap d=d:=wrap_u64_id (x:=d) (by omega) (by omega)
       have HK:Hid (clampF 1099511627777=1099511627776):=by show _=_;decide
       go_wp2_with fail
       refine (clamp_calls 1099511627777 _).mono ?_
       rintro e w9 ⟨rfl,hb9⟩
       rw [HK.out]
       have hB9:=keepBelow hb9 hB8
       go_wp2
       go_returns
       exact ret_int (by rw [HR.out,HF.out]) hB9
      | true =>
       have HF:Hid (clampF (rnd W C) = -1099511627776):=clampF_lo (by rw [HSG.out.rnd_t E.out r0 r1];split <;> omega)
       have hd:IntKind.u64.wrap d=d:=wrap_u64_id (x:=d) (by omega) (by omega)
       have HK:Hid (clampF (-1099511627777) = -1099511627776):=by show _=_;decide
       go_wp2_with fail
       refine (clamp_calls (-1099511627777) _).mono ?_
       rintro e w9 ⟨rfl,hb9⟩
       rw [HK.out]
       have hB9:=keepBelow hb9 hB8
       go_wp2
       go_returns
       exact ret_int (by rw [HR.out,HF.out]) hB9
     ·have kq : IntKind.i64.wrap q = q := IntWalk.i64_in _ (by omega)
      have kq1:IntKind.i64.wrap (q+1)=q+1:=IntWalk.i64_in _ (by omega)
      have kn:IntKind.i64.wrap (-q) = -q:=IntWalk.i64_in _ (by omega)
      have kn1:IntKind.i64.wrap (-(q+1)) = -(q+1):=IntWalk.i64_in _ (by omega)
      cases ng with
      | false =>
       by_cases hr:d-r≤r
       ·have HF : Hid (rnd W C = q + 1) := by show _ = _; rw [HSG.out.rnd_f E.out r0 r1, if_pos (by omega)]
        go_wp2_with fail
        refine (clamp_calls (q+1) _).mono ?_
        rintro e w9 ⟨rfl,hb9⟩
        have hB9:=keepBelow hb9 hB8
        go_wp2
        go_returns
        exact ret_int (by rw [HR.out,HF.out]) hB9
       ·have HF : Hid (rnd W C = q) := by show _ = _; rw [HSG.out.rnd_f E.out r0 r1, if_neg (by omega)]; omega
        go_wp2_with fail
        refine (clamp_calls q _).mono ?_
        rintro e w9 ⟨rfl,hb9⟩
        have hB9:=keepBelow hb9 hB8
        go_wp2
        go_returns
        exact ret_int (by rw [HR.out,HF.out]) hB9
      | true =>
       by_cases hr:d-r<r
       ·have HF : Hid (rnd W C = -(q + 1)) := by show _ = _; rw [HSG.out.rnd_t E.out r0 r1, if_pos (by omega)]
        go_wp2_with fail
        refine (clamp_calls (-(q+1)) _).mono ?_
        rintro e w9 ⟨rfl,hb9⟩
        have hB9:=keepBelow hb9 hB8
        go_wp2
        go_returns
        exact ret_int (by rw [HR.out,HF.out]) hB9
       ·have HF : Hid (rnd W C = -q) := by show _ = _; rw [HSG.out.rnd_t E.out r0 r1, if_neg (by omega)]; omega
        go_wp2_with fail
        refine (clamp_calls (-q) _).mono ?_
        rintro e w9 ⟨rfl,hb9⟩
        have hB9:=keepBelow hb9 hB8
        go_wp2
        go_returns
        exact ret_int (by rw [HR.out,HF.out]) hB9
def mulF (a b:Int):Int:=mdF a b 65536
def divF (a b:Int):Int:=if b=0 then 0 else mdF a 65536 b
theorem fmul_calls (a b:Int) (w:World):Calls Tryz.prog 63 #[.int .i64 a,.int .i64 b] w (Ret (.int .i64 (mulF a b)) w):=by
 go_enter Tryz.func63,Tryz.ntmps63
 go_wp2_with fail
 refine (muldiv_calls a b 65536 _).mono ?_
 rintro e w1 ⟨rfl,hb1⟩
 go_wp2
 go_returns
 exact ret_int rfl hb1
end
end Go.Proofs.YtodpincpofoiiaaGreat
namespace Go.Proofs.YtodpincpofoiiaaGreat
section
set_option linter.unusedVariables false
set_option linter.unusedSimpArgs false
open Go.RowKit
def crossF (a b c d:Int):Int:=subF (mulF a d) (mulF b c)
theorem vsub_calls (a b c d:Int) (w:World):Calls Tryz.prog 14 #[vecV a b,vecV c d] w (Ret (vecV (subF a c) (subF b d)) w):=by
 obtain ⟨W,hW⟩:∃ W,W=((w.alloc (.cells #[.int .i64 a,.int .i64 b] 24)).alloc (.cells #[.int .i64 c,.int .i64 d] 24)).alloc (.cells #[.int .i64 0,.int .i64 0] 24):=⟨_,rfl⟩
 have k0:W.cell? ⟨w.heap.size,0,none⟩=some (.int .i64 a):=by rw [hW];go_simp
 have k1:W.cell? ⟨w.heap.size,1,none⟩=some (.int .i64 b):=by rw [hW];go_simp
 have k2:W.cell? ⟨w.heap.size+1,0,none⟩=some (.int .i64 c):=by rw [hW];go_simp
 have k3:W.cell? ⟨w.heap.size+1,1,none⟩=some (.int .i64 d):=by rw [hW];go_simp
 have HT:Hid (There W.drew (w.heap.size+2) 2):=by
  rw [hW]
  exact fun j hj=>by
   match j,hj with
   | 0,_ | 1,_=>exact ⟨⟨_,by go_simp;rfl⟩,by go_simp⟩
 have hB:Below w.heap.size w W:=by rw [hW];go_grown
 go_enter Tryz.func14,Tryz.ntmps14
 go_wp2_with fail
 rw [← hW]
 clear hW
 refine wp_region_noPanic ?_
 refine wp_region_U (S:=(S2 (fun w'=>w'.cell? ⟨w.heap.size,0,none⟩=some (.int .i64 (a))∧w'.cell? ⟨w.heap.size,1,none⟩=some (.int .i64 (b))∧w'.cell? ⟨w.heap.size+1,0,none⟩=some (.int .i64 (c))∧w'.cell? ⟨w.heap.size+1,1,none⟩=some (.int .i64 (d))∧There w' (w.heap.size+2) 2∧Below w.heap.size w w'))) (T:=(fun j=>[0,0,0,0,0,0,0,0,0,0,0,1].getD j 0)) (by kernel_rfl) (S2i0 ⟨k0,k1,k2,k3,HT.out,hB.drew⟩) (fun hH=>?_)
 have hWr1:Weaker (S2 (fun w'=>w'.cell? ⟨w.heap.size,0,none⟩=some (.int .i64 (a))∧w'.cell? ⟨w.heap.size,1,none⟩=some (.int .i64 (b))∧w'.cell? ⟨w.heap.size+1,0,none⟩=some (.int .i64 (c))∧w'.cell? ⟨w.heap.size+1,1,none⟩=some (.int .i64 (d))∧There w' (w.heap.size+2) 2∧Below w.heap.size w w')):=weaker2 _
 refine Utn [(0,5),(1,6),(2,7),(3,8),(5,10),(6,11),(7,12),(8,13)] 4 0 0 (L':=?Lr1_1) hWr1 hH ?hyr1_1 ?_
 case hyr1_1=>((iterate 8 apply tkC;rfl;kernel_rfl;intro w' hSw;replace hSw:=S2o0 hSw;(try dsimp only at hSw);have q0:=hSw.1;have q1:=hSw.2.1;have q2:=hSw.2.2.1;have q3:=hSw.2.2.2.1;have q4:=hSw.2.2.2.2.1;have q5:=hSw.2.2.2.2.2;(try simp only [sB,sC]);go_simp;(try with_reducible rfl));exact tkN)
 simp only [sB,sC]
 refine U1 4 0 rfl (fun K hK=>?_)
 try clear hb
 go_simp
 (go_at_call 53;refine (fsub_calls a c _).mono ?_;rintro e wn ⟨rfl,hb⟩)
 refine hK.out _ _ ?hsr1_9 (fun hH2=>?hrr1_9)
 case hsr1_9=>exact S2i0 (by have hG:=hH;replace hG:=S2o0 hG;(try dsimp only at hG);have q0:=hG.1;have q1:=hG.2.1;have q2:=hG.2.2.1;have q3:=hG.2.2.2.1;have q4:=hG.2.2.2.2.1;have q5:=hG.2.2.2.2.2;exact ⟨keepCell hb q0,keepCell hb q1,keepCell hb q2,keepCell hb q3,There.below hb q4,keepBelow hb q5⟩)
 clear hK K hH
 have hH:=hH2
 clear hH2
 try simp only [Act.put,sA,sB,sC]
 refine U1 9 0 rfl (fun K hK=>?_)
 try clear hb
 go_simp
 (go_at_call 53;refine (fsub_calls b d _).mono ?_;rintro e wn ⟨rfl,hb⟩)
 refine hK.out _ _ ?hsr1_10 (fun hH2=>?hrr1_10)
 case hsr1_10=>exact S2i0 (by have hG:=hH;replace hG:=S2o0 hG;(try dsimp only at hG);have q0:=hG.1;have q1:=hG.2.1;have q2:=hG.2.2.1;have q3:=hG.2.2.2.1;have q4:=hG.2.2.2.2.1;have q5:=hG.2.2.2.2.2;exact ⟨keepCell hb q0,keepCell hb q1,keepCell hb q2,keepCell hb q3,There.below hb q4,keepBelow hb q5⟩)
 clear hK K hH
 have hH:=hH2
 clear hH2
 try simp only [Act.put,sA,sB,sC]
 refine Ut 10 15 1 0 0 (v:=?vr1_11) rfl hWr1 hH ?hyr1_11 ?_
 case hyr1_11=>(intro w' hSw;clear hSw;go_simp;try (with_reducible rfl))
 simp only [sB,sC]
 refine U1 11 1 rfl (fun K hK=>?_)
 have hG:=hH
 replace hG:=S2o0 hG;(try dsimp only at hG);have q0:=hG.1;have q1:=hG.2.1;have q2:=hG.2.2.1;have q3:=hG.2.2.2.1;have q4:=hG.2.2.2.2.1;have q5:=hG.2.2.2.2.2
 obtain ⟨z0,z1,y0,y1,f0,f1⟩:=q4.get2
 go_simp
 refine hK.out _ _ ?hsr1_12 (fun hH2=>?hrr1_12)
 case hsr1_12=>exact S2i1
 clear hK K hH
 have hH:=hH2
 clear hH2
 try simp only [Act.put,sA,sB,sC]
 refine wpAnyU_done (by kernel_rfl) ?_ _ _
 refine NoPanic.normal ?_
 clear hWr1
 have hl9:=lt_of_cell y0
 have hB9:=q5
 clear q0 q1 q2 q3 q4 q5 hH hG k0 k1 k2 k3 HT
 go_wp2
 refine bodyPost_ret (v:=vecV (subF a c) (subF b d)) (by simp [results,Tryz.results14,go_sem,y0,y1,hl9]) rfl ⟨rfl,?_⟩
 have:=hB9.size
 go_grown
theorem vadd_calls (a b c d:Int) (w:World):Calls Tryz.prog 34 #[vecV a b,vecV c d] w (Ret (vecV (addF a c) (addF b d)) w):=by
 obtain ⟨W,hW⟩:∃ W,W=((w.alloc (.cells #[.int .i64 a,.int .i64 b] 24)).alloc (.cells #[.int .i64 c,.int .i64 d] 24)).alloc (.cells #[.int .i64 0,.int .i64 0] 24):=⟨_,rfl⟩
 have k0:W.cell? ⟨w.heap.size,0,none⟩=some (.int .i64 a):=by rw [hW];go_simp
 have k1:W.cell? ⟨w.heap.size,1,none⟩=some (.int .i64 b):=by rw [hW];go_simp
 have k2:W.cell? ⟨w.heap.size+1,0,none⟩=some (.int .i64 c):=by rw [hW];go_simp
 have k3:W.cell? ⟨w.heap.size+1,1,none⟩=some (.int .i64 d):=by rw [hW];go_simp
 have HT:Hid (There W.drew (w.heap.size+2) 2):=by
  rw [hW]
  exact fun j hj=>by
   match j,hj with
   | 0,_ | 1,_=>exact ⟨⟨_,by go_simp;rfl⟩,by go_simp⟩
 have hB:Below w.heap.size w W:=by rw [hW];go_grown
 go_enter Tryz.func34,Tryz.ntmps34
 go_wp2_with fail
 rw [← hW]
 clear hW
 refine wp_region_noPanic ?_
 refine wp_region_U (S:=(S2 (fun w'=>w'.cell? ⟨w.heap.size,0,none⟩=some (.int .i64 (a))∧w'.cell? ⟨w.heap.size,1,none⟩=some (.int .i64 (b))∧w'.cell? ⟨w.heap.size+1,0,none⟩=some (.int .i64 (c))∧w'.cell? ⟨w.heap.size+1,1,none⟩=some (.int .i64 (d))∧There w' (w.heap.size+2) 2∧Below w.heap.size w w'))) (T:=(fun j=>[0,0,0,0,0,0,0,0,0,0,0,1].getD j 0)) (by kernel_rfl) (S2i0 ⟨k0,k1,k2,k3,HT.out,hB.drew⟩) (fun hH=>?_)
 have hWr2:Weaker (S2 (fun w'=>w'.cell? ⟨w.heap.size,0,none⟩=some (.int .i64 (a))∧w'.cell? ⟨w.heap.size,1,none⟩=some (.int .i64 (b))∧w'.cell? ⟨w.heap.size+1,0,none⟩=some (.int .i64 (c))∧w'.cell? ⟨w.heap.size+1,1,none⟩=some (.int .i64 (d))∧There w' (w.heap.size+2) 2∧Below w.heap.size w w')):=weaker2 _
 refine Utn [(0,5),(1,6),(2,7),(3,8),(5,10),(6,11),(7,12),(8,13)] 4 0 0 (L':=?Lr2_1) hWr2 hH ?hyr2_1 ?_
 case hyr2_1=>((iterate 8 apply tkC;rfl;kernel_rfl;intro w' hSw;replace hSw:=S2o0 hSw;(try dsimp only at hSw);have q0:=hSw.1;have q1:=hSw.2.1;have q2:=hSw.2.2.1;have q3:=hSw.2.2.2.1;have q4:=hSw.2.2.2.2.1;have q5:=hSw.2.2.2.2.2;(try simp only [sB,sC]);go_simp;(try with_reducible rfl));exact tkN)
 simp only [sB,sC]
 refine U1 4 0 rfl (fun K hK=>?_)
 try clear hb
 go_simp
 (go_at_call 87;refine (fadd_calls a c _).mono ?_;rintro e wn ⟨rfl,hb⟩)
 refine hK.out _ _ ?hsr2_9 (fun hH2=>?hrr2_9)
 case hsr2_9=>exact S2i0 (by have hG:=hH;replace hG:=S2o0 hG;(try dsimp only at hG);have q0:=hG.1;have q1:=hG.2.1;have q2:=hG.2.2.1;have q3:=hG.2.2.2.1;have q4:=hG.2.2.2.2.1;have q5:=hG.2.2.2.2.2;exact ⟨keepCell hb q0,keepCell hb q1,keepCell hb q2,keepCell hb q3,There.below hb q4,keepBelow hb q5⟩)
 clear hK K hH
 have hH:=hH2
 clear hH2
 try simp only [Act.put,sA,sB,sC]
 refine U1 9 0 rfl (fun K hK=>?_)
 try clear hb
 go_simp
 (go_at_call 87;refine (fadd_calls b d _).mono ?_;rintro e wn ⟨rfl,hb⟩)
 refine hK.out _ _ ?hsr2_10 (fun hH2=>?hrr2_10)
 case hsr2_10=>exact S2i0 (by have hG:=hH;replace hG:=S2o0 hG;(try dsimp only at hG);have q0:=hG.1;have q1:=hG.2.1;have q2:=hG.2.2.1;have q3:=hG.2.2.2.1;have q4:=hG.2.2.2.2.1;have q5:=hG.2.2.2.2.2;exact ⟨keepCell hb q0,keepCell hb q1,keepCell hb q2,keepCell hb q3,There.below hb q4,keepBelow hb q5⟩)
 clear hK K hH
 have hH:=hH2
 clear hH2
 try simp only [Act.put,sA,sB,sC]
 refine Ut 10 15 1 0 0 (v:=?vr2_11) rfl hWr2 hH ?hyr2_11 ?_
 case hyr2_11=>(intro w' hSw;clear hSw;go_simp;try (with_reducible rfl))
 simp only [sB,sC]
 refine U1 11 1 rfl (fun K hK=>?_)
 have hG:=hH
 replace hG:=S2o0 hG;(try dsimp only at hG);have q0:=hG.1;have q1:=hG.2.1;have q2:=hG.2.2.1;have q3:=hG.2.2.2.1;have q4:=hG.2.2.2.2.1;have q5:=hG.2.2.2.2.2
 obtain ⟨z0,z1,y0,y1,f0,f1⟩:=q4.get2
 go_simp
 refine hK.out _ _ ?hsr2_12 (fun hH2=>?hrr2_12)
 case hsr2_12=>exact S2i1
 clear hK K hH
 have hH:=hH2
 clear hH2
 try simp only [Act.put,sA,sB,sC]
 refine wpAnyU_done (by kernel_rfl) ?_ _ _
 refine NoPanic.normal ?_
 clear hWr2
 have hl9:=lt_of_cell y0
 have hB9:=q5
 clear q0 q1 q2 q3 q4 q5 hH hG k0 k1 k2 k3 HT
 go_wp2
 refine bodyPost_ret (v:=vecV (addF a c) (addF b d)) (by simp [results,Tryz.results34,go_sem,y0,y1,hl9]) rfl ⟨rfl,?_⟩
 have:=hB9.size
 go_grown
def clampN (n m:Int):Int:=if n < -m then -m else if m<n then m else n
theorem bclamp_calls (n m:Int) (h0:0≤m) (h1:m≤9223372036854775807) (w:World):Calls Tryz.prog 146 #[.int .i64 n,.int .i64 m] w (Ret (.int .i64 (clampN n m)) w):=by
 have hw:IntKind.i64.wrap (-m) = -m:=IntWalk.i64_in _ (by omega)
 go_enter Tryz.func146,Tryz.ntmps146
 go_wp2
 all_goals
  go_returns
  exact ret_int (by unfold clampN;(repeat' split) <;> omega) (Below.refl _ _)
theorem bsize_calls (a b:Int) (ha : -1099511627776≤a∧a≤1099511627776) (hb : -1099511627776≤b∧b≤1099511627776) (w:World):Calls Tryz.prog 244 #[vecV a b] w (Ret (.int .i64 (absZ a+absZ b)) w):=by
 have w1:IntKind.i64.wrap (-a) = -a:=IntWalk.i64_in _ (by omega)
 have w2:IntKind.i64.wrap (-b) = -b:=IntWalk.i64_in _ (by omega)
 have h1:∀ (ts:Array TypeId) (t:TypeId) (w:World),(Builtin.max_ ts t #[.int .i64 a,.int .i64 (-a)]).run Tryz.prog w = .ok (.int .i64 (absZ a)) w:=fun ts t w=>by
  rw [run_max_int2]
  have:(if -a > a then -a else a)=absZ a:=by unfold absZ;split <;> split <;> omega
  rw [this]
 have h2:∀ (ts:Array TypeId) (t:TypeId) (w:World),(Builtin.max_ ts t #[.int .i64 b,.int .i64 (-b)]).run Tryz.prog w = .ok (.int .i64 (absZ b)) w:=fun ts t w=>by
  rw [run_max_int2]
  have:(if -b > b then -b else b)=absZ b:=by unfold absZ;split <;> split <;> omega
  rw [this]
 have x0:0≤absZ a∧absZ a≤1099511627776:=by unfold absZ;split <;> omega
 have y0:0≤absZ b∧absZ b≤1099511627776:=by unfold absZ;split <;> omega
 generalize absZ a=x at *
 generalize absZ b=y at *
 have w3:IntKind.i64.wrap (x+y)=x+y:=IntWalk.i64_in _ (by omega)
 go_enter Tryz.func244,Tryz.ntmps244
 go_wp2
 go_returns
 exact ret_int rfl (by go_grown)
theorem bwithin_calls (a b m:Int) (w:World) (h0:0≤m) (h1:m≤9223372036854775807) :
  Calls Tryz.prog 169 #[vecV a b,.int .i64 m] w (Ret (.bool (withinB m a b)) w):=by
 go_enter Tryz.func169,Tryz.ntmps169
 go_wp2
 all_goals
  go_returns
  exact ⟨by simp [withinB, *] <;> omega,by go_grown⟩
theorem shape1_calls (a b:Int) (w:World):Calls Tryz.prog 211 #[vecV a b] w (Ret (.bool (!withinB 2097152 a b)) w):=by
 go_enter Tryz.func211,Tryz.ntmps211
 go_wp2_with (go_at_call 169;refine (bwithin_calls _ _ _ _ (by omega) (by omega)).mono ?_;rintro e w1 ⟨rfl,hb⟩)
 go_returns
 exact ⟨rfl,by simpa using ((Below.refl _ _).alloc (by simp) _).trans (hb.mono (by simp))⟩
theorem cf_shape1 (args:Array Value) (w:World):(callFunc 211 args).run Tryz.prog w = .ok (.enter 211 args) w:=by kernel_rfl
def inB (n l h:Int):Bool:=decide (l≤n∧n≤h)
theorem in_calls (n l h:Int) (w:World):Calls Tryz.prog 168 #[.int .i64 n,.int .i64 l,.int .i64 h] w (Ret (.bool (inB n l h)) w):=by
 go_enter Tryz.func168,Tryz.ntmps168
 go_wp2
 all_goals
  go_returns
  exact ⟨by simp [inB, *] <;> omega,by go_grown⟩
end
end Go.Proofs.YtodpincpofoiiaaGreat
