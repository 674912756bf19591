/- Parts of a proof: contracts and laws. -/
import Derived.Test.YtokgmcomgflloaaGreatQX44
import Derived.Test.YtokgmcomgflloaaGreatQX33
import Derived.Test.YtokgmcomgflloaaGreatQX04
set_option maxRecDepth 100000
set_option maxHeartbeats 16000000
namespace Go.Proofs.YtokgmcomgflloaaGreat
section
set_option linter.unusedVariables false
set_option linter.unusedSimpArgs false
open Go.RowKit
variable {w0 w w':World}
theorem uM {A Aj Ac:Option Addr} {n c nj cj nc cc:Nat} {L:List BE} {Jl:List Jt} {Cl:List Ct} (hS:iE w A n c L) (hJ:dD gV w Aj nj cj Jl) (hC:dD dH w Ac nc cc Cl) (gx gy st:Int) :
  Calls Tryz.prog 24 #[.agg #[.slice A n c,.slice Aj nj cj,.slice Ac nc cc,.int .i64 gx,.int .i64 gy,.int .i64 st]] w (dw (.int .i64 (bH L Jl Cl gx gy st)) w):=by
 have hnc:=hC.len;subst hnc;have hbc:=hC.big;have hpc:=hC.cap;obtain ⟨w1,hw1⟩:∃ x,x=w.alloc (.cells #[.slice A n c,.slice Aj nj cj,.slice Ac Cl.length cc,.int .i64 gx,.int .i64 gy,.int .i64 st] 33):=⟨_,rfl⟩;obtain ⟨gz,hgz⟩:∃ x,x=w.heap.size:=⟨_,rfl⟩;have hb1:Below w.heap.size w w1:=by rw [hw1];exact (Below.refl _ _).alloc (Nat.le_refl _) _
 have z0:w1.cell? ⟨gz,0,none⟩=some (.slice A n c):=by rw [hw1,hgz];go_simp
 have z1:w1.cell? ⟨gz,1,none⟩=some (.slice Aj nj cj):=by rw [hw1,hgz];go_simp
 have z2:w1.cell? ⟨gz,2,none⟩=some (.slice Ac Cl.length cc):=by rw [hw1,hgz];go_simp
 have z3:w1.cell? ⟨gz,3,none⟩=some (.int .i64 gx):=by rw [hw1,hgz];go_simp
 have z4:w1.cell? ⟨gz,4,none⟩=some (.int .i64 gy):=by rw [hw1,hgz];go_simp
 have z5:w1.cell? ⟨gz,5,none⟩=some (.int .i64 st):=by rw [hw1,hgz];go_simp
 have lz:=lt_of_cell z0;have HC1:=hid (qd A Ac n c Cl.length cc L Cl w1 (hS.below hb1) (hC.below hb1));have HS:=hid hS;have HJ:=hid hJ;have HC:=hid hC;have HB1:=hid hb1;obtain ⟨e1,he1⟩:∃ y,y=aD L Cl:=⟨_,rfl⟩;obtain ⟨e2,he2⟩:∃ y,y=aQ L Jl:=⟨_,rfl⟩;have HE1:=hid he1;have HE2:=hid he2;rw [← he1] at HC1;clear hS hJ hC hb1 he1 he2
 go_enter Tryz.func24,Tryz.ntmps24
 go_upto_region 1 with fail
 rw [← hw1,← hgz];clear hw1 hgz
 go_wp2_with fail
 refine HC1.out.mono ?_;rintro e w2 ⟨rfl,hb⟩;replace z0:=keepCell hb z0;replace z1:=keepCell hb z1;replace z2:=keepCell hb z2;replace z3:=keepCell hb z3;replace z4:=keepCell hb z4;replace z5:=keepCell hb z5;replace lz:=lt_of_cell z0;replace HB1:=hid (ah hb HB1.out);clear hb HC1
 by_cases h1:e1=0
 case neg =>
  have hq:(e1 != 0)=true:=by simpa using h1
  have hq2:(e1 == 0)=false:=by simpa using h1
  have HV:Hid (e1=bH L Jl Cl gx gy st):=hid (by unfold bH;rw [← HE1.out,if_pos h1]);clear h1;go_wp2
  go_returns
  exact aj (by rw [← HV.out]) HB1.out
 have HZ1:=hid h1;subst h1;have HC2:=hid (sI A Aj n c nj cj L Jl w2 (HS.out.below HB1.out) (HJ.out.below HB1.out));rw [← HE2.out] at HC2
 go_wp2_with fail
 refine HC2.out.mono ?_;rintro e w3 ⟨rfl,hb⟩;replace z0:=keepCell hb z0;replace z2:=keepCell hb z2;replace z3:=keepCell hb z3;replace z4:=keepCell hb z4;replace z5:=keepCell hb z5;replace lz:=lt_of_cell z0;replace HB1:=hid (ah hb HB1.out);clear hb HC2 z1
 by_cases h2:e2=0
 case neg =>
  have hq:(e2 != 0)=true:=by simpa using h2
  have hq2:(e2 == 0)=false:=by simpa using h2
  have HV:Hid (e2=bH L Jl Cl gx gy st):=hid (by unfold bH;rw [← HE1.out,if_neg (by simp),← HE2.out,if_pos h2]);clear h2;go_wp2
  go_returns
  exact aj (by rw [← HV.out]) HB1.out
 subst h2;have HSE:Hid (bH L Jl Cl gx gy st=if iD Cl Cl.length=false then 9 else if dY gx gy st then 1 else 0):=hid (by unfold bH;rw [← HE1.out,if_neg (by simp),← HE2.out,if_neg (by simp)])
 go_upto_region 8 with fail
 have HZ:Hid (w3.cell? ⟨gz,0,none⟩=some (.slice A n c)∧w3.cell? ⟨gz,2,none⟩=some (.slice Ac Cl.length cc)∧w3.cell? ⟨gz,3,none⟩=some (.int .i64 gx)∧w3.cell? ⟨gz,4,none⟩=some (.int .i64 gy)∧w3.cell? ⟨gz,5,none⟩=some (.int .i64 st)):=hid ⟨z0,z2,z3,z4,z5⟩;clear z0 z2 z3 z4 z5 lz HS HJ HE1 HE2 HZ1;have hk1:1≤1:=Nat.le_refl _
 go_loopw [5] (fun j wr=>∃ k:Nat,1≤k∧k≤Cl.length+1∧j = .int .i64 k∧Hid ((∀ m,m≤k→m≤Cl.length→iD Cl m=true)∧Below w3.heap.size w3 wr)) (fun j _=>Cl.length-(intOf j).toNat)
 case atStart=>exact ⟨1,Nat.le_refl _,by omega,rfl,hid ⟨fun m h _=>by
  rcases m with _ | _ | m
  ·rfl
  ·rfl
  ·omega,Below.refl _ _⟩⟩
 case round =>
  obtain ⟨k,hk1,hk,rfl,HK⟩:=hrel;obtain ⟨wo,rfl⟩:∃ wo:World,wo=wr:=⟨_,rfl⟩;have HB2:=hid HK.out.2;have HO:=hid HK.out.1;clear HK
  by_cases hlt:k<Cl.length
  ·have hlt' : (k : Int) < (Cl.length : Int) := by omega
   have hwk:IntKind.i64.wrap ((k:Int)+1)=(k:Int)+1:=IntWalk.i64_in _ (by omega);obtain ⟨bc,off,hA,hCc⟩:=((HC.out.below HB1.out).below HB2.out).at_ (by intro q;rw [q] at hlt;simp at hlt);subst hA;have Z2:=hid (keepCell HB2.out HZ.out.2.1);have lz:=lt_of_cell Z2.out;have hz2:=Z2.out;have HLT:=hid hlt;have hp:(0:Int)<(k:Int):=by omega
   have hpn:0<k:=by omega
   have hp1:k-1<Cl.length:=by omega
   have hp1':((k-1:Nat):Int)<(Cl.length:Int):=by omega
   have hwm:IntKind.i64.wrap ((k:Int)-1)=((k-1:Nat):Int):=by rw [IntWalk.i64_in _ (by omega)];omega
   obtain ⟨x,hx⟩:∃ x,x=Cl[k-1]:=⟨_,rfl⟩;obtain ⟨y,hy⟩:∃ y,y=Cl[k]:=⟨_,rfl⟩;obtain ⟨x0,x1,x2,x3,x4,x5,x6,x7,x8,x9⟩:=iO hCc hp1 hx;obtain ⟨y0,y1,y2,y3,y4,y5,y6,y7,y8,y9⟩:=iO hCc hlt hy;have lc:=lt_of_cell x0;have X0:=hid x0;have X1:=hid x1;have X2:=hid x2;have X3:=hid x3;have X4:=hid x4;have X5:=hid x5;have X6:=hid x6;have X7:=hid x7;have X8:=hid x8;have X9:=hid x9;have Y0:=hid y0;have Y1:=hid y1;have Y2:=hid y2;have Y3:=hid y3;have Y4:=hid y4;have Y5:=hid y5;have Y6:=hid y6;have Y7:=hid y7;have Y8:=hid y8;have Y9:=hid y9;obtain ⟨o,ho⟩:∃ o,o=Ad x y:=⟨_,rfl⟩;have HOC:=hid (fun w=>vR x y w);rw [← ho] at HOC
   have HAT:Hid (tV Cl k=decide (o<0)):=hid (by
    have q1:Cl[k-1]? = some x:=by rw [List.getElem?_eq_getElem hp1,hx]
    have q2:Cl[k]? = some y:=by
     rw [hy];exact List.getElem?_eq_getElem hlt
    unfold tV
    rw [if_neg (by omega),q1,q2,ho])
   clear hx hy ho hCc x0 x1 x2 x3 x4 x5 x6 x7 x8 x9 y0 y1 y2 y3 y4 y5 y6 y7 y8 y9
   by_cases hge:o ≥ 0
   ·go_upto_region 10 with fail
    clear hz2;refine wp_region_noPanic ?_;refine au (S:=(S2 (fun w'=>w'.cell? ⟨gz,2,none⟩=some (.slice (some ⟨bc,off,none⟩) Cl.length cc)∧w'.cell? ⟨bc,off+(k-1)*10,none⟩=some (.int .i64 x.a)∧w'.cell? ⟨bc,off+(k-1)*10+1,none⟩=some (.int .i64 x.b)∧w'.cell? ⟨bc,off+(k-1)*10+2,none⟩=some (.int .i64 x.id)∧w'.cell? ⟨bc,off+(k-1)*10+3,none⟩=some (.int .i64 x.px)∧w'.cell? ⟨bc,off+(k-1)*10+4,none⟩=some (.int .i64 x.py)∧w'.cell? ⟨bc,off+(k-1)*10+5,none⟩=some (.int .i64 x.nx)∧w'.cell? ⟨bc,off+(k-1)*10+6,none⟩=some (.int .i64 x.ny)∧w'.cell? ⟨bc,off+(k-1)*10+7,none⟩=some (.int .i64 x.dep)∧w'.cell? ⟨bc,off+(k-1)*10+8,none⟩=some (.int .i64 x.push)∧w'.cell? ⟨bc,off+(k-1)*10+9,none⟩=some (.int .i64 x.sli)∧w'.cell? ⟨bc,off+k*10,none⟩=some (.int .i64 y.a)∧w'.cell? ⟨bc,off+k*10+1,none⟩=some (.int .i64 y.b)∧w'.cell? ⟨bc,off+k*10+2,none⟩=some (.int .i64 y.id)∧w'.cell? ⟨bc,off+k*10+3,none⟩=some (.int .i64 y.px)∧w'.cell? ⟨bc,off+k*10+4,none⟩=some (.int .i64 y.py)∧w'.cell? ⟨bc,off+k*10+5,none⟩=some (.int .i64 y.nx)∧w'.cell? ⟨bc,off+k*10+6,none⟩=some (.int .i64 y.ny)∧w'.cell? ⟨bc,off+k*10+7,none⟩=some (.int .i64 y.dep)∧w'.cell? ⟨bc,off+k*10+8,none⟩=some (.int .i64 y.push)∧w'.cell? ⟨bc,off+k*10+9,none⟩=some (.int .i64 y.sli)∧Below w3.heap.size w3 w'))) (T:=(fun _=>0)) (by kernel_rfl) (aM ⟨Z2.out,X0.out,X1.out,X2.out,X3.out,X4.out,X5.out,X6.out,X7.out,X8.out,X9.out,Y0.out,Y1.out,Y2.out,Y3.out,Y4.out,Y5.out,Y6.out,Y7.out,Y8.out,Y9.out,(HB2.out).drew⟩) (fun hH=>?_);have hWr4:aO (S2 (fun w'=>w'.cell? ⟨gz,2,none⟩=some (.slice (some ⟨bc,off,none⟩) Cl.length cc)∧w'.cell? ⟨bc,off+(k-1)*10,none⟩=some (.int .i64 x.a)∧w'.cell? ⟨bc,off+(k-1)*10+1,none⟩=some (.int .i64 x.b)∧w'.cell? ⟨bc,off+(k-1)*10+2,none⟩=some (.int .i64 x.id)∧w'.cell? ⟨bc,off+(k-1)*10+3,none⟩=some (.int .i64 x.px)∧w'.cell? ⟨bc,off+(k-1)*10+4,none⟩=some (.int .i64 x.py)∧w'.cell? ⟨bc,off+(k-1)*10+5,none⟩=some (.int .i64 x.nx)∧w'.cell? ⟨bc,off+(k-1)*10+6,none⟩=some (.int .i64 x.ny)∧w'.cell? ⟨bc,off+(k-1)*10+7,none⟩=some (.int .i64 x.dep)∧w'.cell? ⟨bc,off+(k-1)*10+8,none⟩=some (.int .i64 x.push)∧w'.cell? ⟨bc,off+(k-1)*10+9,none⟩=some (.int .i64 x.sli)∧w'.cell? ⟨bc,off+k*10,none⟩=some (.int .i64 y.a)∧w'.cell? ⟨bc,off+k*10+1,none⟩=some (.int .i64 y.b)∧w'.cell? ⟨bc,off+k*10+2,none⟩=some (.int .i64 y.id)∧w'.cell? ⟨bc,off+k*10+3,none⟩=some (.int .i64 y.px)∧w'.cell? ⟨bc,off+k*10+4,none⟩=some (.int .i64 y.py)∧w'.cell? ⟨bc,off+k*10+5,none⟩=some (.int .i64 y.nx)∧w'.cell? ⟨bc,off+k*10+6,none⟩=some (.int .i64 y.ny)∧w'.cell? ⟨bc,off+k*10+7,none⟩=some (.int .i64 y.dep)∧w'.cell? ⟨bc,off+k*10+8,none⟩=some (.int .i64 y.push)∧w'.cell? ⟨bc,off+k*10+9,none⟩=some (.int .i64 y.sli)∧Below w3.heap.size w3 w')):=aR _;refine gH [(0,29),(1,30),(2,31),(3,32),(4,33),(5,34),(6,35),(7,36),(8,37),(9,38),(10,39)] 2 0 0 (L':=?Lr4_1) hWr4 hH ?yr4_1 ?_
    case yr4_1=>((iterate 11 apply gK;rfl;kernel_rfl;intro w' hSw;replace hSw:=aC hSw;(try dsimp only at hSw);have q0:=hSw.1;have q1:=hSw.2.1;have q2:=hSw.2.2.1;have q3:=hSw.2.2.2.1;have q4:=hSw.2.2.2.2.1;have q5:=hSw.2.2.2.2.2.1;have q6:=hSw.2.2.2.2.2.2.1;have q7:=hSw.2.2.2.2.2.2.2.1;have q8:=hSw.2.2.2.2.2.2.2.2.1;have q9:=hSw.2.2.2.2.2.2.2.2.2.1;have q10:=hSw.2.2.2.2.2.2.2.2.2.2.1;have q11:=hSw.2.2.2.2.2.2.2.2.2.2.2.1;have q12:=hSw.2.2.2.2.2.2.2.2.2.2.2.2.1;have q13:=hSw.2.2.2.2.2.2.2.2.2.2.2.2.2.1;have q14:=hSw.2.2.2.2.2.2.2.2.2.2.2.2.2.2.1;have q15:=hSw.2.2.2.2.2.2.2.2.2.2.2.2.2.2.2.1;have q16:=hSw.2.2.2.2.2.2.2.2.2.2.2.2.2.2.2.2.1;have q17:=hSw.2.2.2.2.2.2.2.2.2.2.2.2.2.2.2.2.2.1;have q18:=hSw.2.2.2.2.2.2.2.2.2.2.2.2.2.2.2.2.2.2.1;have q19:=hSw.2.2.2.2.2.2.2.2.2.2.2.2.2.2.2.2.2.2.2.1;have q20:=hSw.2.2.2.2.2.2.2.2.2.2.2.2.2.2.2.2.2.2.2.2.1;have q21:=hSw.2.2.2.2.2.2.2.2.2.2.2.2.2.2.2.2.2.2.2.2.2;(try simp only [sB,sC]);go_simp;(try with_reducible rfl));exact gF)
    simp only [sB,sC];refine U1 11 0 rfl (fun K hK=>?_)
    try clear hb
    go_simp
    (go_at_call 64;refine (HOC.out _).mono ?_;rintro e wn ⟨rfl,hb⟩)
    refine hK.out _ _ (aM (by have hG:=hH;replace hG:=aC hG;(try dsimp only at hG);have q0:=hG.1;have q1:=hG.2.1;have q2:=hG.2.2.1;have q3:=hG.2.2.2.1;have q4:=hG.2.2.2.2.1;have q5:=hG.2.2.2.2.2.1;have q6:=hG.2.2.2.2.2.2.1;have q7:=hG.2.2.2.2.2.2.2.1;have q8:=hG.2.2.2.2.2.2.2.2.1;have q9:=hG.2.2.2.2.2.2.2.2.2.1;have q10:=hG.2.2.2.2.2.2.2.2.2.2.1;have q11:=hG.2.2.2.2.2.2.2.2.2.2.2.1;have q12:=hG.2.2.2.2.2.2.2.2.2.2.2.2.1;have q13:=hG.2.2.2.2.2.2.2.2.2.2.2.2.2.1;have q14:=hG.2.2.2.2.2.2.2.2.2.2.2.2.2.2.1;have q15:=hG.2.2.2.2.2.2.2.2.2.2.2.2.2.2.2.1;have q16:=hG.2.2.2.2.2.2.2.2.2.2.2.2.2.2.2.2.1;have q17:=hG.2.2.2.2.2.2.2.2.2.2.2.2.2.2.2.2.2.1;have q18:=hG.2.2.2.2.2.2.2.2.2.2.2.2.2.2.2.2.2.2.1;have q19:=hG.2.2.2.2.2.2.2.2.2.2.2.2.2.2.2.2.2.2.2.1;have q20:=hG.2.2.2.2.2.2.2.2.2.2.2.2.2.2.2.2.2.2.2.2.1;have q21:=hG.2.2.2.2.2.2.2.2.2.2.2.2.2.2.2.2.2.2.2.2.2;exact ⟨keepCell hb q0,keepCell hb q1,keepCell hb q2,keepCell hb q3,keepCell hb q4,keepCell hb q5,keepCell hb q6,keepCell hb q7,keepCell hb q8,keepCell hb q9,keepCell hb q10,keepCell hb q11,keepCell hb q12,keepCell hb q13,keepCell hb q14,keepCell hb q15,keepCell hb q16,keepCell hb q17,keepCell hb q18,keepCell hb q19,keepCell hb q20,ah hb q21⟩)) (fun hH2=>?_);clear hK K hH
    rename _=>hH
    try simp only [Act.put,sA,sB,sC]
    refine Ut 12 41 0 0 0 (v:=?vr4_13) rfl hWr4 hH ?yr4_13 ?_
    case yr4_13=>(intro w' hSw;clear hSw;go_simp;try (with_reducible rfl))
    simp only [sB,sC];refine ak (by kernel_rfl) ?_ _ _;refine NoPanic.normal ?_;clear hWr4;replace hH:=aC hH
    (try dsimp only at hH)
    have t0:=hH.1;have t1:=hH.2.1;have t2:=hH.2.2.1;have t3:=hH.2.2.2.1;have t4:=hH.2.2.2.2.1;have t5:=hH.2.2.2.2.2.1;have t6:=hH.2.2.2.2.2.2.1;have t7:=hH.2.2.2.2.2.2.2.1;have t8:=hH.2.2.2.2.2.2.2.2.1;have t9:=hH.2.2.2.2.2.2.2.2.2.1;have t10:=hH.2.2.2.2.2.2.2.2.2.2.1;have t11:=hH.2.2.2.2.2.2.2.2.2.2.2.1;have t12:=hH.2.2.2.2.2.2.2.2.2.2.2.2.1;have t13:=hH.2.2.2.2.2.2.2.2.2.2.2.2.2.1;have t14:=hH.2.2.2.2.2.2.2.2.2.2.2.2.2.2.1;have t15:=hH.2.2.2.2.2.2.2.2.2.2.2.2.2.2.2.1;have t16:=hH.2.2.2.2.2.2.2.2.2.2.2.2.2.2.2.2.1;have t17:=hH.2.2.2.2.2.2.2.2.2.2.2.2.2.2.2.2.2.1;have t18:=hH.2.2.2.2.2.2.2.2.2.2.2.2.2.2.2.2.2.2.1;have t19:=hH.2.2.2.2.2.2.2.2.2.2.2.2.2.2.2.2.2.2.2.1;have t20:=hH.2.2.2.2.2.2.2.2.2.2.2.2.2.2.2.2.2.2.2.2.1;have t21:=hH.2.2.2.2.2.2.2.2.2.2.2.2.2.2.2.2.2.2.2.2.2
    have HV:Hid ((9:Int)=bH L Jl Cl gx gy st):=hid (by
     rw [HSE.out,if_pos]
     cases e:iD Cl Cl.length with
     | false=>rfl
     | true =>
      have:=List.all_eq_true.1 e k (List.mem_range.2 HLT.out);rw [HAT.out,decide_eq_true_iff] at this
      omega)
    have HT:=hid (ah t21 HB1.out);clear t0 t1 t2 t3 t4 t5 t6 t7 t8 t9 t10 t11 t12 t13 t14 t15 t16 t17 t18 t19 t20 t21 HB2 Z2 hH HOC;go_wp2
    go_returns
    exact aj (by rw [← HV.out]) HT.out
   ·have hlo : ¬ 0 ≤ o := by omega
    go_upto_region 10 with fail
    clear hz2;refine wp_region_noPanic ?_;refine au (S:=(S2 (fun w'=>w'.cell? ⟨gz,2,none⟩=some (.slice (some ⟨bc,off,none⟩) Cl.length cc)∧w'.cell? ⟨bc,off+(k-1)*10,none⟩=some (.int .i64 x.a)∧w'.cell? ⟨bc,off+(k-1)*10+1,none⟩=some (.int .i64 x.b)∧w'.cell? ⟨bc,off+(k-1)*10+2,none⟩=some (.int .i64 x.id)∧w'.cell? ⟨bc,off+(k-1)*10+3,none⟩=some (.int .i64 x.px)∧w'.cell? ⟨bc,off+(k-1)*10+4,none⟩=some (.int .i64 x.py)∧w'.cell? ⟨bc,off+(k-1)*10+5,none⟩=some (.int .i64 x.nx)∧w'.cell? ⟨bc,off+(k-1)*10+6,none⟩=some (.int .i64 x.ny)∧w'.cell? ⟨bc,off+(k-1)*10+7,none⟩=some (.int .i64 x.dep)∧w'.cell? ⟨bc,off+(k-1)*10+8,none⟩=some (.int .i64 x.push)∧w'.cell? ⟨bc,off+(k-1)*10+9,none⟩=some (.int .i64 x.sli)∧w'.cell? ⟨bc,off+k*10,none⟩=some (.int .i64 y.a)∧w'.cell? ⟨bc,off+k*10+1,none⟩=some (.int .i64 y.b)∧w'.cell? ⟨bc,off+k*10+2,none⟩=some (.int .i64 y.id)∧w'.cell? ⟨bc,off+k*10+3,none⟩=some (.int .i64 y.px)∧w'.cell? ⟨bc,off+k*10+4,none⟩=some (.int .i64 y.py)∧w'.cell? ⟨bc,off+k*10+5,none⟩=some (.int .i64 y.nx)∧w'.cell? ⟨bc,off+k*10+6,none⟩=some (.int .i64 y.ny)∧w'.cell? ⟨bc,off+k*10+7,none⟩=some (.int .i64 y.dep)∧w'.cell? ⟨bc,off+k*10+8,none⟩=some (.int .i64 y.push)∧w'.cell? ⟨bc,off+k*10+9,none⟩=some (.int .i64 y.sli)∧Below w3.heap.size w3 w'))) (T:=(fun _=>0)) (by kernel_rfl) (aM ⟨Z2.out,X0.out,X1.out,X2.out,X3.out,X4.out,X5.out,X6.out,X7.out,X8.out,X9.out,Y0.out,Y1.out,Y2.out,Y3.out,Y4.out,Y5.out,Y6.out,Y7.out,Y8.out,Y9.out,(HB2.out).drew⟩) (fun hH=>?_);have hWr5:aO (S2 (fun w'=>w'.cell? ⟨gz,2,none⟩=some (.slice (some ⟨bc,off,none⟩) Cl.length cc)∧w'.cell? ⟨bc,off+(k-1)*10,none⟩=some (.int .i64 x.a)∧w'.cell? ⟨bc,off+(k-1)*10+1,none⟩=some (.int .i64 x.b)∧w'.cell? ⟨bc,off+(k-1)*10+2,none⟩=some (.int .i64 x.id)∧w'.cell? ⟨bc,off+(k-1)*10+3,none⟩=some (.int .i64 x.px)∧w'.cell? ⟨bc,off+(k-1)*10+4,none⟩=some (.int .i64 x.py)∧w'.cell? ⟨bc,off+(k-1)*10+5,none⟩=some (.int .i64 x.nx)∧w'.cell? ⟨bc,off+(k-1)*10+6,none⟩=some (.int .i64 x.ny)∧w'.cell? ⟨bc,off+(k-1)*10+7,none⟩=some (.int .i64 x.dep)∧w'.cell? ⟨bc,off+(k-1)*10+8,none⟩=some (.int .i64 x.push)∧w'.cell? ⟨bc,off+(k-1)*10+9,none⟩=some (.int .i64 x.sli)∧w'.cell? ⟨bc,off+k*10,none⟩=some (.int .i64 y.a)∧w'.cell? ⟨bc,off+k*10+1,none⟩=some (.int .i64 y.b)∧w'.cell? ⟨bc,off+k*10+2,none⟩=some (.int .i64 y.id)∧w'.cell? ⟨bc,off+k*10+3,none⟩=some (.int .i64 y.px)∧w'.cell? ⟨bc,off+k*10+4,none⟩=some (.int .i64 y.py)∧w'.cell? ⟨bc,off+k*10+5,none⟩=some (.int .i64 y.nx)∧w'.cell? ⟨bc,off+k*10+6,none⟩=some (.int .i64 y.ny)∧w'.cell? ⟨bc,off+k*10+7,none⟩=some (.int .i64 y.dep)∧w'.cell? ⟨bc,off+k*10+8,none⟩=some (.int .i64 y.push)∧w'.cell? ⟨bc,off+k*10+9,none⟩=some (.int .i64 y.sli)∧Below w3.heap.size w3 w')):=aR _;refine gH [(0,29),(1,30),(2,31),(3,32),(4,33),(5,34),(6,35),(7,36),(8,37),(9,38),(10,39)] 2 0 0 (L':=?Lr5_1) hWr5 hH ?yr5_1 ?_
    case yr5_1=>((iterate 11 apply gK;rfl;kernel_rfl;intro w' hSw;replace hSw:=aC hSw;(try dsimp only at hSw);have q0:=hSw.1;have q1:=hSw.2.1;have q2:=hSw.2.2.1;have q3:=hSw.2.2.2.1;have q4:=hSw.2.2.2.2.1;have q5:=hSw.2.2.2.2.2.1;have q6:=hSw.2.2.2.2.2.2.1;have q7:=hSw.2.2.2.2.2.2.2.1;have q8:=hSw.2.2.2.2.2.2.2.2.1;have q9:=hSw.2.2.2.2.2.2.2.2.2.1;have q10:=hSw.2.2.2.2.2.2.2.2.2.2.1;have q11:=hSw.2.2.2.2.2.2.2.2.2.2.2.1;have q12:=hSw.2.2.2.2.2.2.2.2.2.2.2.2.1;have q13:=hSw.2.2.2.2.2.2.2.2.2.2.2.2.2.1;have q14:=hSw.2.2.2.2.2.2.2.2.2.2.2.2.2.2.1;have q15:=hSw.2.2.2.2.2.2.2.2.2.2.2.2.2.2.2.1;have q16:=hSw.2.2.2.2.2.2.2.2.2.2.2.2.2.2.2.2.1;have q17:=hSw.2.2.2.2.2.2.2.2.2.2.2.2.2.2.2.2.2.1;have q18:=hSw.2.2.2.2.2.2.2.2.2.2.2.2.2.2.2.2.2.2.1;have q19:=hSw.2.2.2.2.2.2.2.2.2.2.2.2.2.2.2.2.2.2.2.1;have q20:=hSw.2.2.2.2.2.2.2.2.2.2.2.2.2.2.2.2.2.2.2.2.1;have q21:=hSw.2.2.2.2.2.2.2.2.2.2.2.2.2.2.2.2.2.2.2.2.2;(try simp only [sB,sC]);go_simp;(try with_reducible rfl));exact gF)
    simp only [sB,sC];refine U1 11 0 rfl (fun K hK=>?_)
    try clear hb
    go_simp
    (go_at_call 64;refine (HOC.out _).mono ?_;rintro e wn ⟨rfl,hb⟩)
    refine hK.out _ _ (aM (by have hG:=hH;replace hG:=aC hG;(try dsimp only at hG);have q0:=hG.1;have q1:=hG.2.1;have q2:=hG.2.2.1;have q3:=hG.2.2.2.1;have q4:=hG.2.2.2.2.1;have q5:=hG.2.2.2.2.2.1;have q6:=hG.2.2.2.2.2.2.1;have q7:=hG.2.2.2.2.2.2.2.1;have q8:=hG.2.2.2.2.2.2.2.2.1;have q9:=hG.2.2.2.2.2.2.2.2.2.1;have q10:=hG.2.2.2.2.2.2.2.2.2.2.1;have q11:=hG.2.2.2.2.2.2.2.2.2.2.2.1;have q12:=hG.2.2.2.2.2.2.2.2.2.2.2.2.1;have q13:=hG.2.2.2.2.2.2.2.2.2.2.2.2.2.1;have q14:=hG.2.2.2.2.2.2.2.2.2.2.2.2.2.2.1;have q15:=hG.2.2.2.2.2.2.2.2.2.2.2.2.2.2.2.1;have q16:=hG.2.2.2.2.2.2.2.2.2.2.2.2.2.2.2.2.1;have q17:=hG.2.2.2.2.2.2.2.2.2.2.2.2.2.2.2.2.2.1;have q18:=hG.2.2.2.2.2.2.2.2.2.2.2.2.2.2.2.2.2.2.1;have q19:=hG.2.2.2.2.2.2.2.2.2.2.2.2.2.2.2.2.2.2.2.1;have q20:=hG.2.2.2.2.2.2.2.2.2.2.2.2.2.2.2.2.2.2.2.2.1;have q21:=hG.2.2.2.2.2.2.2.2.2.2.2.2.2.2.2.2.2.2.2.2.2;exact ⟨keepCell hb q0,keepCell hb q1,keepCell hb q2,keepCell hb q3,keepCell hb q4,keepCell hb q5,keepCell hb q6,keepCell hb q7,keepCell hb q8,keepCell hb q9,keepCell hb q10,keepCell hb q11,keepCell hb q12,keepCell hb q13,keepCell hb q14,keepCell hb q15,keepCell hb q16,keepCell hb q17,keepCell hb q18,keepCell hb q19,keepCell hb q20,ah hb q21⟩)) (fun hH2=>?_);clear hK K hH
    rename _=>hH
    try simp only [Act.put,sA,sB,sC]
    refine Ut 12 41 0 0 0 (v:=?vr5_13) rfl hWr5 hH ?yr5_13 ?_
    case yr5_13=>(intro w' hSw;clear hSw;go_simp;try (with_reducible rfl))
    simp only [sB,sC];refine ak (by kernel_rfl) ?_ _ _;refine NoPanic.normal ?_;clear hWr5;replace hH:=aC hH
    (try dsimp only at hH)
    have t0:=hH.1;have t1:=hH.2.1;have t2:=hH.2.2.1;have t3:=hH.2.2.2.1;have t4:=hH.2.2.2.2.1;have t5:=hH.2.2.2.2.2.1;have t6:=hH.2.2.2.2.2.2.1;have t7:=hH.2.2.2.2.2.2.2.1;have t8:=hH.2.2.2.2.2.2.2.2.1;have t9:=hH.2.2.2.2.2.2.2.2.2.1;have t10:=hH.2.2.2.2.2.2.2.2.2.2.1;have t11:=hH.2.2.2.2.2.2.2.2.2.2.2.1;have t12:=hH.2.2.2.2.2.2.2.2.2.2.2.2.1;have t13:=hH.2.2.2.2.2.2.2.2.2.2.2.2.2.1;have t14:=hH.2.2.2.2.2.2.2.2.2.2.2.2.2.2.1;have t15:=hH.2.2.2.2.2.2.2.2.2.2.2.2.2.2.2.1;have t16:=hH.2.2.2.2.2.2.2.2.2.2.2.2.2.2.2.2.1;have t17:=hH.2.2.2.2.2.2.2.2.2.2.2.2.2.2.2.2.2.1;have t18:=hH.2.2.2.2.2.2.2.2.2.2.2.2.2.2.2.2.2.2.1;have t19:=hH.2.2.2.2.2.2.2.2.2.2.2.2.2.2.2.2.2.2.2.1;have t20:=hH.2.2.2.2.2.2.2.2.2.2.2.2.2.2.2.2.2.2.2.2.1;have t21:=hH.2.2.2.2.2.2.2.2.2.2.2.2.2.2.2.2.2.2.2.2.2
    have HT:=hid (show (∀ m,m≤k+1→m≤Cl.length→iD Cl m=true)∧Below w3.heap.size w3 _ from ⟨fun m hm hl=>by
     rcases Nat.lt_or_ge k m with g | g
     ·obtain rfl : m = k + 1 := by omega
      rw [rQ,HO.out k (Nat.le_refl _) (by omega),HAT.out,decide_eq_true (by omega)];rfl
     ·exact HO.out m g hl,t21⟩)
    clear t0 t1 t2 t3 t4 t5 t6 t7 t8 t9 t10 t11 t12 t13 t14 t15 t16 t17 t18 t19 t20 t21 HB2 Z2 hH HOC;go_wp2;go_roundw
    case rel=>exact ⟨k+1,by omega,by omega,by go_num,HT⟩
    case measure=>simp [intOf];omega
  ·have HOO := hid (HO.out Cl.length (by omega) (Nat.le_refl _));obtain ⟨z0,z2,z3,z4,z5⟩:=HZ.out;replace z3:=keepCell HB2.out z3;replace z4:=keepCell HB2.out z4;replace z5:=keepCell HB2.out z5;replace z2:=keepCell HB2.out z2;clear z0;have lz:=lt_of_cell z3;have HBB:=hid (ah HB2.out HB1.out);obtain ⟨cb,hcb⟩:∃ z,z=aB 16777216 gx gy:=⟨_,rfl⟩;obtain ⟨ib,hib⟩:∃ z,z=dU st 1 65536:=⟨_,rfl⟩
   have HV:Hid (bH L Jl Cl gx gy st=if cb=true∧ib=true then 0 else 1):=hid (by
    rw [HSE.out,if_neg (by rw [HOO.out];simp),hcb,hib]
    have e:dY gx gy st↔¬ ((-16777216≤gx∧gx≤16777216 ∧ -16777216≤gy∧gy≤16777216)∧dU st 1 65536=true):=by
     unfold dY dU;rw [decide_eq_true_iff]
     split <;> split <;> omega
    by_cases g:dY gx gy st
    ·rw [if_pos g, if_neg];intro h;have h1:=aV.1 h.1;exact e.1 g ⟨by omega,h.2⟩
    ·rw [if_neg g, if_pos];have h:=Decidable.not_not.1 (fun q=>g (e.2 q))
     exact ⟨aV.2 (by omega),h.2⟩)
   have HCO:=hid (fun w'=>aP gx gy 16777216 w' (by omega) (by omega));have HBT:=hid (fun w'=>aF st 1 65536 w');rw [← hcb] at HCO;rw [← hib] at HBT;clear hcb hib HSE HO HOO HB2
   go_wp2_with fail
   refine (HCO.out _).mono ?_;rintro e w5 ⟨rfl,hb5⟩;replace z5:=keepCell hb5 z5;replace lz:=lt_of_cell z5;replace HBB:=hid (ah hb5 HBB.out);clear hb5 HCO z2 z3 z4
   cases cb with
   | false =>
    replace HV:=hid (HV.out.trans (if_neg (by simp)));go_wp2
    go_returns
    exact aj HV.out.symm HBB.out
   | true =>
    go_wp2_with fail
    refine (HBT.out _).mono ?_;rintro e w6 ⟨rfl,hb6⟩;replace HBB:=hid (ah hb6 HBB.out);clear hb6 HBT z5 lz
    cases ib with
    | false =>
     replace HV:=hid (HV.out.trans (if_neg (by simp)));go_wp2
     go_returns
     exact aj HV.out.symm HBB.out
    | true =>
     replace HV:=hid (HV.out.trans (if_pos (by simp)));go_wp2
     go_returns
     exact aj HV.out.symm HBB.out
end
end Go.Proofs.YtokgmcomgflloaaGreat
