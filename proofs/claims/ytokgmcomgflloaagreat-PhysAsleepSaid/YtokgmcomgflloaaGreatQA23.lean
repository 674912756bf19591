/- Parts of a proof: contracts and laws. -/
import Derived.Test.YtokgmcomgflloaaGreatQA22
import Derived.Test.YtokgmcomgflloaaGreatQA10
import Derived.Test.YtokgmcomgflloaaGreatQA02
import Derived.Test.YtokgmcomgflloaaGreatQA14
set_option maxRecDepth 100000
set_option maxHeartbeats 16000000
namespace Go.Proofs.YtokgmcomgflloaaGreat
section
set_option linter.unusedVariables false
set_option linter.unusedSimpArgs false
open Go.RowKit
variable {w0 w w':World}
def G8 (C:List Ct) (k:Nat):Bool:=if k=0 then true else match C[k-1]?,C[k]? with
 | some x,some y=>decide (zi x y<0)
 | _,_=>true
def o7 (C:List Ct) (n:Nat):Bool:=(List.range n).all (G8 C)
def jJ (gx gy st:Int):Prop:=(if gy<gx then gy else gx) < -16777216∨(if gy > gx then gy else gx) > 16777216∨st<1∨st > 65536
instance (gx gy st:Int):Decidable (jJ gx gy st):=by unfold jJ;infer_instance
def fJ (L:List BE) (J:List Jt) (C:List Ct) (gx gy st:Int):Int :=
 if bg L C≠0 then bg L C else if bS L J≠0 then bS L J else if o7 C C.length=false then 9 else if jJ gx gy st then 1 else 0
theorem Fz (C:List Ct) (n:Nat):o7 C (n+1)=(o7 C n && G8 C n):=by
 unfold o7;rw [List.range_succ,List.all_append];simp
theorem kW {A Aj Ac:Option Addr} {n c nj cj nc cc:Nat} {L:List BE} {Jl:List Jt} {Cl:List Ct} (hS:iH w A n c L) (hJ:dW gZ w Aj nj cj Jl) (hC:dW bZ w Ac nc cc Cl) (gx gy st:Int) :
  Calls Tryz.prog 17 #[.agg #[.slice A n c,.slice Aj nj cj,.slice Ac nc cc,.int .i64 gx,.int .i64 gy,.int .i64 st]] w (dG (.int .i64 (fJ L Jl Cl gx gy st)) w):=by
 have hnc:=hC.len;subst hnc;have hbc:=hC.big;have hpc:=hC.cap;obtain ⟨w1,hw1⟩:∃ x,x=w.alloc (.cells #[.slice A n c,.slice Aj nj cj,.slice Ac Cl.length cc,.int .i64 gx,.int .i64 gy,.int .i64 st] 33):=⟨_,rfl⟩;obtain ⟨gz,hgz⟩:∃ x,x=w.heap.size:=⟨_,rfl⟩;have hb1:Below w.heap.size w w1:=by rw [hw1];exact (Below.refl _ _).alloc (Nat.le_refl _) _
 have z0:w1.cell? ⟨gz,0,none⟩=some (.slice A n c):=by rw [hw1,hgz];go_simp
 have z1:w1.cell? ⟨gz,1,none⟩=some (.slice Aj nj cj):=by rw [hw1,hgz];go_simp
 have z2:w1.cell? ⟨gz,2,none⟩=some (.slice Ac Cl.length cc):=by rw [hw1,hgz];go_simp
 have z3:w1.cell? ⟨gz,3,none⟩=some (.int .i64 gx):=by rw [hw1,hgz];go_simp
 have z4:w1.cell? ⟨gz,4,none⟩=some (.int .i64 gy):=by rw [hw1,hgz];go_simp
 have z5:w1.cell? ⟨gz,5,none⟩=some (.int .i64 st):=by rw [hw1,hgz];go_simp
 have lz:=lt_of_cell z0;have HC1:=hid (rZ A Ac n c Cl.length cc L Cl w1 (hS.below hb1) (hC.below hb1));have HS:=hid hS;have HJ:=hid hJ;have HC:=hid hC;have HB1:=hid hb1;obtain ⟨e1,he1⟩:∃ y,y=bg L Cl:=⟨_,rfl⟩;obtain ⟨e2,he2⟩:∃ y,y=bS L Jl:=⟨_,rfl⟩;have HE1:=hid he1;have HE2:=hid he2;rw [← he1] at HC1;clear hS hJ hC hb1 he1 he2
 go_enter Tryz.func17,Tryz.ntmps17
 go_upto_region 1 with fail
 rw [← hw1,← hgz];clear hw1 hgz
 go_wp2_with fail
 refine HC1.out.mono ?_;rintro e w2 ⟨rfl,hb⟩;replace z0:=keepCell hb z0;replace z1:=keepCell hb z1;replace z2:=keepCell hb z2;replace z3:=keepCell hb z3;replace z4:=keepCell hb z4;replace z5:=keepCell hb z5;replace lz:=lt_of_cell z0;replace HB1:=hid (aj hb HB1.out);clear hb HC1
 by_cases h1:e1=0
 case neg =>
  have hq:(e1 != 0)=true:=by simpa using h1
  have hq2:(e1 == 0)=false:=by simpa using h1
  have HV:Hid (e1=fJ L Jl Cl gx gy st):=hid (by unfold fJ;rw [← HE1.out,if_pos h1]);clear h1;go_wp2
  go_returns
  exact aB (by rw [← HV.out]) HB1.out
 have HZ1:=hid h1;subst h1;have HC2:=hid (nV A Aj n c nj cj L Jl w2 (HS.out.below HB1.out) (HJ.out.below HB1.out));rw [← HE2.out] at HC2
 go_wp2_with fail
 refine HC2.out.mono ?_;rintro e w3 ⟨rfl,hb⟩;replace z0:=keepCell hb z0;replace z2:=keepCell hb z2;replace z3:=keepCell hb z3;replace z4:=keepCell hb z4;replace z5:=keepCell hb z5;replace lz:=lt_of_cell z0;replace HB1:=hid (aj hb HB1.out);clear hb HC2 z1
 by_cases h2:e2=0
 case neg =>
  have hq:(e2 != 0)=true:=by simpa using h2
  have hq2:(e2 == 0)=false:=by simpa using h2
  have HV:Hid (e2=fJ L Jl Cl gx gy st):=hid (by unfold fJ;rw [← HE1.out,if_neg (by simp),← HE2.out,if_pos h2]);clear h2;go_wp2
  go_returns
  exact aB (by rw [← HV.out]) HB1.out
 subst h2;have HSE:Hid (fJ L Jl Cl gx gy st=if o7 Cl Cl.length=false then 9 else if jJ gx gy st then 1 else 0):=hid (by unfold fJ;rw [← HE1.out,if_neg (by simp),← HE2.out,if_neg (by simp)])
 go_upto_region 8 with fail
 have HZ:Hid (w3.cell? ⟨gz,0,none⟩=some (.slice A n c)∧w3.cell? ⟨gz,2,none⟩=some (.slice Ac Cl.length cc)∧w3.cell? ⟨gz,3,none⟩=some (.int .i64 gx)∧w3.cell? ⟨gz,4,none⟩=some (.int .i64 gy)∧w3.cell? ⟨gz,5,none⟩=some (.int .i64 st)):=hid ⟨z0,z2,z3,z4,z5⟩;clear z0 z2 z3 z4 z5 lz HS HJ HE1 HE2 HZ1
 go_loopw [25] (fun j wr=>∃ k:Nat,k≤Cl.length∧j = .int .i64 k∧Hid (o7 Cl k=true∧Below w3.heap.size w3 wr)) (fun j _=>Cl.length-(intOf j).toNat)
 case atStart=>exact ⟨0,Nat.zero_le _,rfl,hid ⟨rfl,Below.refl _ _⟩⟩
 case round =>
  obtain ⟨k,hk,rfl,HK⟩:=hrel;obtain ⟨wo,rfl⟩:∃ wo:World,wo=wr:=⟨_,rfl⟩;have HB2:=hid HK.out.2;have HO:=hid HK.out.1;clear HK
  by_cases hlt:k<Cl.length
  ·have hlt' : (k : Int) < (Cl.length : Int) := by omega
   have hwk:IntKind.i64.wrap ((k:Int)+1)=(k:Int)+1:=IntWalk.i64_in _ (by omega);obtain ⟨bc,off,hA,hCc⟩:=((HC.out.below HB1.out).below HB2.out).at_ (by intro q;rw [q] at hlt;simp at hlt);subst hA;have Z2:=hid (keepCell HB2.out HZ.out.2.1);have lz:=lt_of_cell Z2.out;have HLT:=hid hlt
   by_cases hk0:k=0
   ·subst hk0;have HOK:Hid (o7 Cl (0+1)=true):=hid rfl;clear hCc HO
    go_upto_region 10 with fail
    refine wp_region_noPanic ?_;refine au (S:=(S2 (fun w'=>w'.cell? ⟨gz,2,none⟩=some (.slice (some ⟨bc,off,none⟩) Cl.length cc)∧Below w3.heap.size w3 w'))) (T:=(fun _=>0)) (by kernel_rfl) (aC ⟨Z2.out,(HB2.out).drew⟩) (fun hH=>?_);have hWr1:aH (S2 (fun w'=>w'.cell? ⟨gz,2,none⟩=some (.slice (some ⟨bc,off,none⟩) Cl.length cc)∧Below w3.heap.size w3 w')):=aK _;refine dn [(0,28),(1,29),(2,30)] 14 0 0 (L':=?Lr1_1) hWr1 hH ?yr1_1 ?_
    case yr1_1=>((iterate 3 apply dA;rfl;kernel_rfl;intro w' hSw;clear hSw;(try simp only [sB,sC]);go_simp;(try with_reducible rfl));exact dw)
    simp only [sB,sC];refine kX (by kernel_rfl) (fun _ _ _ _ h=>h) hWr1 0 0 (by omega) hH [(3,31),(4,32),(5,33),(6,34),(7,35),(8,36),(9,37),(10,38),(11,39),(12,40),(13,41),(14,42),(15,43)] 1 _ _ _ (by kernel_rfl) (by kernel_rfl) ?_;simp only [fZ,List.set_cons_zero,List.set_cons_succ];refine Ut 16 44 0 0 0 (v:=?vr1_4) rfl hWr1 hH ?yr1_4 ?_
    case yr1_4=>(intro w' hSw;clear hSw;go_simp;try (with_reducible rfl))
    simp only [sB,sC];refine ak (by kernel_rfl) ?_ _ _;refine NoPanic.normal ?_;clear hWr1;replace hH:=aA hH
    (try dsimp only at hH)
    have t0:=hH.1;have t1:=hH.2;have HT:=hid (show o7 Cl (0+1)=true∧Below w3.heap.size w3 _ from ⟨HOK.out,t1⟩);clear t0 t1 HB2 Z2 hH;go_wp2;go_roundw
    case rel=>exact ⟨0+1,hlt,by go_num,HT⟩
    case measure=>simp [intOf];omega
   ·have hp : (0 : Int) < (k : Int) := by omega
    have hpn:0<k:=by omega
    have hp1:k-1<Cl.length:=by omega
    have hp1':((k-1:Nat):Int)<(Cl.length:Int):=by omega
    have hwm:IntKind.i64.wrap ((k:Int)-1)=((k-1:Nat):Int):=by rw [IntWalk.i64_in _ (by omega)];omega
    obtain ⟨x,hx⟩:∃ x,x=Cl[k-1]:=⟨_,rfl⟩;obtain ⟨y,hy⟩:∃ y,y=Cl[k]:=⟨_,rfl⟩;obtain ⟨x0,x1,x2,x3,x4,x5,x6,x7,x8,x9⟩:=kr hCc hp1 hx;obtain ⟨y0,y1,y2,y3,y4,y5,y6,y7,y8,y9⟩:=kr hCc hlt hy;have lc:=lt_of_cell x0;have X0:=hid x0;have X1:=hid x1;have X2:=hid x2;have X3:=hid x3;have X4:=hid x4;have X5:=hid x5;have X6:=hid x6;have X7:=hid x7;have X8:=hid x8;have X9:=hid x9;have Y0:=hid y0;have Y1:=hid y1;have Y2:=hid y2;have Y3:=hid y3;have Y4:=hid y4;have Y5:=hid y5;have Y6:=hid y6;have Y7:=hid y7;have Y8:=hid y8;have Y9:=hid y9;obtain ⟨o,ho⟩:∃ o,o=zi x y:=⟨_,rfl⟩;have HOC:=hid (fun w=>uJ x y w);rw [← ho] at HOC
    have HAT:Hid (G8 Cl k=decide (o<0)):=hid (by
     have q1:Cl[k-1]? = some x:=by rw [List.getElem?_eq_getElem hp1,hx]
     have q2:Cl[k]? = some y:=by
      rw [hy];exact List.getElem?_eq_getElem hlt
     unfold G8
     rw [if_neg hk0,q1,q2,ho])
    clear hx hy ho hCc x0 x1 x2 x3 x4 x5 x6 x7 x8 x9 y0 y1 y2 y3 y4 y5 y6 y7 y8 y9
    by_cases hge:o ≥ 0
    ·go_upto_region 10 with fail
     refine wp_region_noPanic ?_;refine au (S:=(S2 (fun w'=>w'.cell? ⟨gz,2,none⟩=some (.slice (some ⟨bc,off,none⟩) Cl.length cc)∧w'.cell? ⟨bc,off+(k-1)*10,none⟩=some (.int .i64 x.a)∧w'.cell? ⟨bc,off+(k-1)*10+1,none⟩=some (.int .i64 x.b)∧w'.cell? ⟨bc,off+(k-1)*10+2,none⟩=some (.int .i64 x.id)∧w'.cell? ⟨bc,off+(k-1)*10+3,none⟩=some (.int .i64 x.px)∧w'.cell? ⟨bc,off+(k-1)*10+4,none⟩=some (.int .i64 x.py)∧w'.cell? ⟨bc,off+(k-1)*10+5,none⟩=some (.int .i64 x.nx)∧w'.cell? ⟨bc,off+(k-1)*10+6,none⟩=some (.int .i64 x.ny)∧w'.cell? ⟨bc,off+(k-1)*10+7,none⟩=some (.int .i64 x.dep)∧w'.cell? ⟨bc,off+(k-1)*10+8,none⟩=some (.int .i64 x.push)∧w'.cell? ⟨bc,off+(k-1)*10+9,none⟩=some (.int .i64 x.sli)∧w'.cell? ⟨bc,off+k*10,none⟩=some (.int .i64 y.a)∧w'.cell? ⟨bc,off+k*10+1,none⟩=some (.int .i64 y.b)∧w'.cell? ⟨bc,off+k*10+2,none⟩=some (.int .i64 y.id)∧w'.cell? ⟨bc,off+k*10+3,none⟩=some (.int .i64 y.px)∧w'.cell? ⟨bc,off+k*10+4,none⟩=some (.int .i64 y.py)∧w'.cell? ⟨bc,off+k*10+5,none⟩=some (.int .i64 y.nx)∧w'.cell? ⟨bc,off+k*10+6,none⟩=some (.int .i64 y.ny)∧w'.cell? ⟨bc,off+k*10+7,none⟩=some (.int .i64 y.dep)∧w'.cell? ⟨bc,off+k*10+8,none⟩=some (.int .i64 y.push)∧w'.cell? ⟨bc,off+k*10+9,none⟩=some (.int .i64 y.sli)∧Below w3.heap.size w3 w'))) (T:=(fun _=>0)) (by kernel_rfl) (aC ⟨Z2.out,X0.out,X1.out,X2.out,X3.out,X4.out,X5.out,X6.out,X7.out,X8.out,X9.out,Y0.out,Y1.out,Y2.out,Y3.out,Y4.out,Y5.out,Y6.out,Y7.out,Y8.out,Y9.out,(HB2.out).drew⟩) (fun hH=>?_);have hWr2:aH (S2 (fun w'=>w'.cell? ⟨gz,2,none⟩=some (.slice (some ⟨bc,off,none⟩) Cl.length cc)∧w'.cell? ⟨bc,off+(k-1)*10,none⟩=some (.int .i64 x.a)∧w'.cell? ⟨bc,off+(k-1)*10+1,none⟩=some (.int .i64 x.b)∧w'.cell? ⟨bc,off+(k-1)*10+2,none⟩=some (.int .i64 x.id)∧w'.cell? ⟨bc,off+(k-1)*10+3,none⟩=some (.int .i64 x.px)∧w'.cell? ⟨bc,off+(k-1)*10+4,none⟩=some (.int .i64 x.py)∧w'.cell? ⟨bc,off+(k-1)*10+5,none⟩=some (.int .i64 x.nx)∧w'.cell? ⟨bc,off+(k-1)*10+6,none⟩=some (.int .i64 x.ny)∧w'.cell? ⟨bc,off+(k-1)*10+7,none⟩=some (.int .i64 x.dep)∧w'.cell? ⟨bc,off+(k-1)*10+8,none⟩=some (.int .i64 x.push)∧w'.cell? ⟨bc,off+(k-1)*10+9,none⟩=some (.int .i64 x.sli)∧w'.cell? ⟨bc,off+k*10,none⟩=some (.int .i64 y.a)∧w'.cell? ⟨bc,off+k*10+1,none⟩=some (.int .i64 y.b)∧w'.cell? ⟨bc,off+k*10+2,none⟩=some (.int .i64 y.id)∧w'.cell? ⟨bc,off+k*10+3,none⟩=some (.int .i64 y.px)∧w'.cell? ⟨bc,off+k*10+4,none⟩=some (.int .i64 y.py)∧w'.cell? ⟨bc,off+k*10+5,none⟩=some (.int .i64 y.nx)∧w'.cell? ⟨bc,off+k*10+6,none⟩=some (.int .i64 y.ny)∧w'.cell? ⟨bc,off+k*10+7,none⟩=some (.int .i64 y.dep)∧w'.cell? ⟨bc,off+k*10+8,none⟩=some (.int .i64 y.push)∧w'.cell? ⟨bc,off+k*10+9,none⟩=some (.int .i64 y.sli)∧Below w3.heap.size w3 w')):=aK _;refine dn [(0,28),(1,29),(2,30),(3,31),(4,32),(5,33),(6,34),(7,35),(8,36),(9,37),(10,38),(11,39),(12,40),(13,41)] 3 0 0 (L':=?Lr2_1) hWr2 hH ?yr2_1 ?_
     case yr2_1=>((iterate 14 apply dA;rfl;kernel_rfl;intro w' hSw;replace hSw:=aA hSw;(try dsimp only at hSw);have q0:=hSw.1;have q1:=hSw.2.1;have q2:=hSw.2.2.1;have q3:=hSw.2.2.2.1;have q4:=hSw.2.2.2.2.1;have q5:=hSw.2.2.2.2.2.1;have q6:=hSw.2.2.2.2.2.2.1;have q7:=hSw.2.2.2.2.2.2.2.1;have q8:=hSw.2.2.2.2.2.2.2.2.1;have q9:=hSw.2.2.2.2.2.2.2.2.2.1;have q10:=hSw.2.2.2.2.2.2.2.2.2.2.1;have q11:=hSw.2.2.2.2.2.2.2.2.2.2.2.1;have q12:=hSw.2.2.2.2.2.2.2.2.2.2.2.2.1;have q13:=hSw.2.2.2.2.2.2.2.2.2.2.2.2.2.1;have q14:=hSw.2.2.2.2.2.2.2.2.2.2.2.2.2.2.1;have q15:=hSw.2.2.2.2.2.2.2.2.2.2.2.2.2.2.2.1;have q16:=hSw.2.2.2.2.2.2.2.2.2.2.2.2.2.2.2.2.1;have q17:=hSw.2.2.2.2.2.2.2.2.2.2.2.2.2.2.2.2.2.1;have q18:=hSw.2.2.2.2.2.2.2.2.2.2.2.2.2.2.2.2.2.2.1;have q19:=hSw.2.2.2.2.2.2.2.2.2.2.2.2.2.2.2.2.2.2.2.1;have q20:=hSw.2.2.2.2.2.2.2.2.2.2.2.2.2.2.2.2.2.2.2.2.1;have q21:=hSw.2.2.2.2.2.2.2.2.2.2.2.2.2.2.2.2.2.2.2.2.2;(try simp only [sB,sC]);go_simp;(try with_reducible rfl));exact dw)
     simp only [sB,sC];refine U1 14 0 rfl (fun K hK=>?_)
     try clear hb
     go_simp
     (go_at_call 60;refine (HOC.out _).mono ?_;rintro e wn ⟨rfl,hb⟩)
     refine hK.out _ _ (aC (by have hG:=hH;replace hG:=aA hG;(try dsimp only at hG);have q0:=hG.1;have q1:=hG.2.1;have q2:=hG.2.2.1;have q3:=hG.2.2.2.1;have q4:=hG.2.2.2.2.1;have q5:=hG.2.2.2.2.2.1;have q6:=hG.2.2.2.2.2.2.1;have q7:=hG.2.2.2.2.2.2.2.1;have q8:=hG.2.2.2.2.2.2.2.2.1;have q9:=hG.2.2.2.2.2.2.2.2.2.1;have q10:=hG.2.2.2.2.2.2.2.2.2.2.1;have q11:=hG.2.2.2.2.2.2.2.2.2.2.2.1;have q12:=hG.2.2.2.2.2.2.2.2.2.2.2.2.1;have q13:=hG.2.2.2.2.2.2.2.2.2.2.2.2.2.1;have q14:=hG.2.2.2.2.2.2.2.2.2.2.2.2.2.2.1;have q15:=hG.2.2.2.2.2.2.2.2.2.2.2.2.2.2.2.1;have q16:=hG.2.2.2.2.2.2.2.2.2.2.2.2.2.2.2.2.1;have q17:=hG.2.2.2.2.2.2.2.2.2.2.2.2.2.2.2.2.2.1;have q18:=hG.2.2.2.2.2.2.2.2.2.2.2.2.2.2.2.2.2.2.1;have q19:=hG.2.2.2.2.2.2.2.2.2.2.2.2.2.2.2.2.2.2.2.1;have q20:=hG.2.2.2.2.2.2.2.2.2.2.2.2.2.2.2.2.2.2.2.2.1;have q21:=hG.2.2.2.2.2.2.2.2.2.2.2.2.2.2.2.2.2.2.2.2.2;exact ⟨keepCell hb q0,keepCell hb q1,keepCell hb q2,keepCell hb q3,keepCell hb q4,keepCell hb q5,keepCell hb q6,keepCell hb q7,keepCell hb q8,keepCell hb q9,keepCell hb q10,keepCell hb q11,keepCell hb q12,keepCell hb q13,keepCell hb q14,keepCell hb q15,keepCell hb q16,keepCell hb q17,keepCell hb q18,keepCell hb q19,keepCell hb q20,aj hb q21⟩)) (fun hH2=>?_);clear hK K hH
     rename _=>hH
     try simp only [Act.put,sA,sB,sC]
     refine dn [(15,43),(16,44)] 0 0 0 (L':=?Lr2_16) hWr2 hH ?yr2_16 ?_
     case yr2_16=>((iterate 2 apply dA;rfl;kernel_rfl;intro w' hSw;clear hSw;(try simp only [sB,sC]);go_simp;(try with_reducible rfl));exact dw)
     simp only [sB,sC];refine ak (by kernel_rfl) ?_ _ _;refine NoPanic.normal ?_;clear hWr2;replace hH:=aA hH
     (try dsimp only at hH)
     have t0:=hH.1;have t1:=hH.2.1;have t2:=hH.2.2.1;have t3:=hH.2.2.2.1;have t4:=hH.2.2.2.2.1;have t5:=hH.2.2.2.2.2.1;have t6:=hH.2.2.2.2.2.2.1;have t7:=hH.2.2.2.2.2.2.2.1;have t8:=hH.2.2.2.2.2.2.2.2.1;have t9:=hH.2.2.2.2.2.2.2.2.2.1;have t10:=hH.2.2.2.2.2.2.2.2.2.2.1;have t11:=hH.2.2.2.2.2.2.2.2.2.2.2.1;have t12:=hH.2.2.2.2.2.2.2.2.2.2.2.2.1;have t13:=hH.2.2.2.2.2.2.2.2.2.2.2.2.2.1;have t14:=hH.2.2.2.2.2.2.2.2.2.2.2.2.2.2.1;have t15:=hH.2.2.2.2.2.2.2.2.2.2.2.2.2.2.2.1;have t16:=hH.2.2.2.2.2.2.2.2.2.2.2.2.2.2.2.2.1;have t17:=hH.2.2.2.2.2.2.2.2.2.2.2.2.2.2.2.2.2.1;have t18:=hH.2.2.2.2.2.2.2.2.2.2.2.2.2.2.2.2.2.2.1;have t19:=hH.2.2.2.2.2.2.2.2.2.2.2.2.2.2.2.2.2.2.2.1;have t20:=hH.2.2.2.2.2.2.2.2.2.2.2.2.2.2.2.2.2.2.2.2.1;have t21:=hH.2.2.2.2.2.2.2.2.2.2.2.2.2.2.2.2.2.2.2.2.2
     have HV:Hid ((9:Int)=fJ L Jl Cl gx gy st):=hid (by
      rw [HSE.out,if_pos]
      cases e:o7 Cl Cl.length with
      | false=>rfl
      | true =>
       have:=List.all_eq_true.1 e k (List.mem_range.2 HLT.out);rw [HAT.out,decide_eq_true_iff] at this
       omega)
     have HT:=hid (aj t21 HB1.out);clear t0 t1 t2 t3 t4 t5 t6 t7 t8 t9 t10 t11 t12 t13 t14 t15 t16 t17 t18 t19 t20 t21 HB2 Z2 hH HOC;go_wp2
     go_returns
     exact aB (by rw [← HV.out]) HT.out
    ·have hlo : ¬ 0 ≤ o := by omega
     go_upto_region 10 with fail
     refine wp_region_noPanic ?_;refine au (S:=(S2 (fun w'=>w'.cell? ⟨gz,2,none⟩=some (.slice (some ⟨bc,off,none⟩) Cl.length cc)∧w'.cell? ⟨bc,off+(k-1)*10,none⟩=some (.int .i64 x.a)∧w'.cell? ⟨bc,off+(k-1)*10+1,none⟩=some (.int .i64 x.b)∧w'.cell? ⟨bc,off+(k-1)*10+2,none⟩=some (.int .i64 x.id)∧w'.cell? ⟨bc,off+(k-1)*10+3,none⟩=some (.int .i64 x.px)∧w'.cell? ⟨bc,off+(k-1)*10+4,none⟩=some (.int .i64 x.py)∧w'.cell? ⟨bc,off+(k-1)*10+5,none⟩=some (.int .i64 x.nx)∧w'.cell? ⟨bc,off+(k-1)*10+6,none⟩=some (.int .i64 x.ny)∧w'.cell? ⟨bc,off+(k-1)*10+7,none⟩=some (.int .i64 x.dep)∧w'.cell? ⟨bc,off+(k-1)*10+8,none⟩=some (.int .i64 x.push)∧w'.cell? ⟨bc,off+(k-1)*10+9,none⟩=some (.int .i64 x.sli)∧w'.cell? ⟨bc,off+k*10,none⟩=some (.int .i64 y.a)∧w'.cell? ⟨bc,off+k*10+1,none⟩=some (.int .i64 y.b)∧w'.cell? ⟨bc,off+k*10+2,none⟩=some (.int .i64 y.id)∧w'.cell? ⟨bc,off+k*10+3,none⟩=some (.int .i64 y.px)∧w'.cell? ⟨bc,off+k*10+4,none⟩=some (.int .i64 y.py)∧w'.cell? ⟨bc,off+k*10+5,none⟩=some (.int .i64 y.nx)∧w'.cell? ⟨bc,off+k*10+6,none⟩=some (.int .i64 y.ny)∧w'.cell? ⟨bc,off+k*10+7,none⟩=some (.int .i64 y.dep)∧w'.cell? ⟨bc,off+k*10+8,none⟩=some (.int .i64 y.push)∧w'.cell? ⟨bc,off+k*10+9,none⟩=some (.int .i64 y.sli)∧Below w3.heap.size w3 w'))) (T:=(fun _=>0)) (by kernel_rfl) (aC ⟨Z2.out,X0.out,X1.out,X2.out,X3.out,X4.out,X5.out,X6.out,X7.out,X8.out,X9.out,Y0.out,Y1.out,Y2.out,Y3.out,Y4.out,Y5.out,Y6.out,Y7.out,Y8.out,Y9.out,(HB2.out).drew⟩) (fun hH=>?_);have hWr3:aH (S2 (fun w'=>w'.cell? ⟨gz,2,none⟩=some (.slice (some ⟨bc,off,none⟩) Cl.length cc)∧w'.cell? ⟨bc,off+(k-1)*10,none⟩=some (.int .i64 x.a)∧w'.cell? ⟨bc,off+(k-1)*10+1,none⟩=some (.int .i64 x.b)∧w'.cell? ⟨bc,off+(k-1)*10+2,none⟩=some (.int .i64 x.id)∧w'.cell? ⟨bc,off+(k-1)*10+3,none⟩=some (.int .i64 x.px)∧w'.cell? ⟨bc,off+(k-1)*10+4,none⟩=some (.int .i64 x.py)∧w'.cell? ⟨bc,off+(k-1)*10+5,none⟩=some (.int .i64 x.nx)∧w'.cell? ⟨bc,off+(k-1)*10+6,none⟩=some (.int .i64 x.ny)∧w'.cell? ⟨bc,off+(k-1)*10+7,none⟩=some (.int .i64 x.dep)∧w'.cell? ⟨bc,off+(k-1)*10+8,none⟩=some (.int .i64 x.push)∧w'.cell? ⟨bc,off+(k-1)*10+9,none⟩=some (.int .i64 x.sli)∧w'.cell? ⟨bc,off+k*10,none⟩=some (.int .i64 y.a)∧w'.cell? ⟨bc,off+k*10+1,none⟩=some (.int .i64 y.b)∧w'.cell? ⟨bc,off+k*10+2,none⟩=some (.int .i64 y.id)∧w'.cell? ⟨bc,off+k*10+3,none⟩=some (.int .i64 y.px)∧w'.cell? ⟨bc,off+k*10+4,none⟩=some (.int .i64 y.py)∧w'.cell? ⟨bc,off+k*10+5,none⟩=some (.int .i64 y.nx)∧w'.cell? ⟨bc,off+k*10+6,none⟩=some (.int .i64 y.ny)∧w'.cell? ⟨bc,off+k*10+7,none⟩=some (.int .i64 y.dep)∧w'.cell? ⟨bc,off+k*10+8,none⟩=some (.int .i64 y.push)∧w'.cell? ⟨bc,off+k*10+9,none⟩=some (.int .i64 y.sli)∧Below w3.heap.size w3 w')):=aK _;refine dn [(0,28),(1,29),(2,30),(3,31),(4,32),(5,33),(6,34),(7,35),(8,36),(9,37),(10,38),(11,39),(12,40),(13,41)] 3 0 0 (L':=?Lr3_1) hWr3 hH ?yr3_1 ?_
     case yr3_1=>((iterate 14 apply dA;rfl;kernel_rfl;intro w' hSw;replace hSw:=aA hSw;(try dsimp only at hSw);have q0:=hSw.1;have q1:=hSw.2.1;have q2:=hSw.2.2.1;have q3:=hSw.2.2.2.1;have q4:=hSw.2.2.2.2.1;have q5:=hSw.2.2.2.2.2.1;have q6:=hSw.2.2.2.2.2.2.1;have q7:=hSw.2.2.2.2.2.2.2.1;have q8:=hSw.2.2.2.2.2.2.2.2.1;have q9:=hSw.2.2.2.2.2.2.2.2.2.1;have q10:=hSw.2.2.2.2.2.2.2.2.2.2.1;have q11:=hSw.2.2.2.2.2.2.2.2.2.2.2.1;have q12:=hSw.2.2.2.2.2.2.2.2.2.2.2.2.1;have q13:=hSw.2.2.2.2.2.2.2.2.2.2.2.2.2.1;have q14:=hSw.2.2.2.2.2.2.2.2.2.2.2.2.2.2.1;have q15:=hSw.2.2.2.2.2.2.2.2.2.2.2.2.2.2.2.1;have q16:=hSw.2.2.2.2.2.2.2.2.2.2.2.2.2.2.2.2.1;have q17:=hSw.2.2.2.2.2.2.2.2.2.2.2.2.2.2.2.2.2.1;have q18:=hSw.2.2.2.2.2.2.2.2.2.2.2.2.2.2.2.2.2.2.1;have q19:=hSw.2.2.2.2.2.2.2.2.2.2.2.2.2.2.2.2.2.2.2.1;have q20:=hSw.2.2.2.2.2.2.2.2.2.2.2.2.2.2.2.2.2.2.2.2.1;have q21:=hSw.2.2.2.2.2.2.2.2.2.2.2.2.2.2.2.2.2.2.2.2.2;(try simp only [sB,sC]);go_simp;(try with_reducible rfl));exact dw)
     simp only [sB,sC];refine U1 14 0 rfl (fun K hK=>?_)
     try clear hb
     go_simp
     (go_at_call 60;refine (HOC.out _).mono ?_;rintro e wn ⟨rfl,hb⟩)
     refine hK.out _ _ (aC (by have hG:=hH;replace hG:=aA hG;(try dsimp only at hG);have q0:=hG.1;have q1:=hG.2.1;have q2:=hG.2.2.1;have q3:=hG.2.2.2.1;have q4:=hG.2.2.2.2.1;have q5:=hG.2.2.2.2.2.1;have q6:=hG.2.2.2.2.2.2.1;have q7:=hG.2.2.2.2.2.2.2.1;have q8:=hG.2.2.2.2.2.2.2.2.1;have q9:=hG.2.2.2.2.2.2.2.2.2.1;have q10:=hG.2.2.2.2.2.2.2.2.2.2.1;have q11:=hG.2.2.2.2.2.2.2.2.2.2.2.1;have q12:=hG.2.2.2.2.2.2.2.2.2.2.2.2.1;have q13:=hG.2.2.2.2.2.2.2.2.2.2.2.2.2.1;have q14:=hG.2.2.2.2.2.2.2.2.2.2.2.2.2.2.1;have q15:=hG.2.2.2.2.2.2.2.2.2.2.2.2.2.2.2.1;have q16:=hG.2.2.2.2.2.2.2.2.2.2.2.2.2.2.2.2.1;have q17:=hG.2.2.2.2.2.2.2.2.2.2.2.2.2.2.2.2.2.1;have q18:=hG.2.2.2.2.2.2.2.2.2.2.2.2.2.2.2.2.2.2.1;have q19:=hG.2.2.2.2.2.2.2.2.2.2.2.2.2.2.2.2.2.2.2.1;have q20:=hG.2.2.2.2.2.2.2.2.2.2.2.2.2.2.2.2.2.2.2.2.1;have q21:=hG.2.2.2.2.2.2.2.2.2.2.2.2.2.2.2.2.2.2.2.2.2;exact ⟨keepCell hb q0,keepCell hb q1,keepCell hb q2,keepCell hb q3,keepCell hb q4,keepCell hb q5,keepCell hb q6,keepCell hb q7,keepCell hb q8,keepCell hb q9,keepCell hb q10,keepCell hb q11,keepCell hb q12,keepCell hb q13,keepCell hb q14,keepCell hb q15,keepCell hb q16,keepCell hb q17,keepCell hb q18,keepCell hb q19,keepCell hb q20,aj hb q21⟩)) (fun hH2=>?_);clear hK K hH
     rename _=>hH
     try simp only [Act.put,sA,sB,sC]
     refine dn [(15,43),(16,44)] 0 0 0 (L':=?Lr3_16) hWr3 hH ?yr3_16 ?_
     case yr3_16=>((iterate 2 apply dA;rfl;kernel_rfl;intro w' hSw;clear hSw;(try simp only [sB,sC]);go_simp;(try with_reducible rfl));exact dw)
     simp only [sB,sC];refine ak (by kernel_rfl) ?_ _ _;refine NoPanic.normal ?_;clear hWr3;replace hH:=aA hH
     (try dsimp only at hH)
     have t0:=hH.1;have t1:=hH.2.1;have t2:=hH.2.2.1;have t3:=hH.2.2.2.1;have t4:=hH.2.2.2.2.1;have t5:=hH.2.2.2.2.2.1;have t6:=hH.2.2.2.2.2.2.1;have t7:=hH.2.2.2.2.2.2.2.1;have t8:=hH.2.2.2.2.2.2.2.2.1;have t9:=hH.2.2.2.2.2.2.2.2.2.1;have t10:=hH.2.2.2.2.2.2.2.2.2.2.1;have t11:=hH.2.2.2.2.2.2.2.2.2.2.2.1;have t12:=hH.2.2.2.2.2.2.2.2.2.2.2.2.1;have t13:=hH.2.2.2.2.2.2.2.2.2.2.2.2.2.1;have t14:=hH.2.2.2.2.2.2.2.2.2.2.2.2.2.2.1;have t15:=hH.2.2.2.2.2.2.2.2.2.2.2.2.2.2.2.1;have t16:=hH.2.2.2.2.2.2.2.2.2.2.2.2.2.2.2.2.1;have t17:=hH.2.2.2.2.2.2.2.2.2.2.2.2.2.2.2.2.2.1;have t18:=hH.2.2.2.2.2.2.2.2.2.2.2.2.2.2.2.2.2.2.1;have t19:=hH.2.2.2.2.2.2.2.2.2.2.2.2.2.2.2.2.2.2.2.1;have t20:=hH.2.2.2.2.2.2.2.2.2.2.2.2.2.2.2.2.2.2.2.2.1;have t21:=hH.2.2.2.2.2.2.2.2.2.2.2.2.2.2.2.2.2.2.2.2.2;have HT:=hid (show o7 Cl (k+1)=true∧Below w3.heap.size w3 _ from ⟨by rw [Fz,HO.out,HAT.out,decide_eq_true (by omega)];rfl,t21⟩);clear t0 t1 t2 t3 t4 t5 t6 t7 t8 t9 t10 t11 t12 t13 t14 t15 t16 t17 t18 t19 t20 t21 HB2 Z2 hH HOC;go_wp2;go_roundw
     case rel=>exact ⟨k+1,hlt,by go_num,HT⟩
     case measure=>simp [intOf];omega
  ·have hke : k = Cl.length := by omega
   subst hke;obtain ⟨z0,z2,z3,z4,z5⟩:=HZ.out;replace z3:=keepCell HB2.out z3;replace z4:=keepCell HB2.out z4;replace z5:=keepCell HB2.out z5;clear z0 z2;have lz:=lt_of_cell z3;have HBB:=hid (aj HB2.out HB1.out);obtain ⟨lo,hlo⟩:∃ y,y=if gy<gx then gy else gx:=⟨_,rfl⟩
   obtain ⟨hi,hhi⟩:∃ y,y=if gy > gx then gy else gx:=⟨_,rfl⟩
   have hrmin:∀ (ts:Array TypeId) (t:TypeId) (w:World),(Builtin.min_ ts t #[.int .i64 gx,.int .i64 gy]).run Tryz.prog w = .ok (.int .i64 lo) w:=fun ts t w=>by rw [run_min_int2,hlo]
   have hrmax:∀ (ts:Array TypeId) (t:TypeId) (w:World),(Builtin.max_ ts t #[.int .i64 gx,.int .i64 gy]).run Tryz.prog w = .ok (.int .i64 hi) w:=fun ts t w=>by rw [run_max_int2,hhi]
   have HV:Hid (fJ L Jl Cl gx gy st=if lo < -16777216∨hi > 16777216∨st<1∨st > 65536 then 1 else 0):=hid (by
    rw [HSE.out,if_neg (by rw [HO.out];simp),hlo,hhi]
    rfl)
   clear hlo hhi HSE HO HB2
   by_cases c1:lo < -16777216
   ·replace HV := hid (HV.out.trans (if_pos (.inl c1)));go_wp2
    go_returns
    exact aB HV.out.symm HBB.out
   ·by_cases c2 : hi > 16777216
    ·replace HV := hid (HV.out.trans (if_pos (.inr (.inl c2))));go_wp2
     go_returns
     exact aB HV.out.symm HBB.out
    ·by_cases c3 : st < 1
     ·replace HV := hid (HV.out.trans (if_pos (.inr (.inr (.inl c3)))));go_wp2
      go_returns
      exact aB HV.out.symm HBB.out
     ·by_cases c4 : st > 65536
      ·replace HV := hid (HV.out.trans (if_pos (.inr (.inr (.inr c4)))));go_wp2
       go_returns
       exact aB HV.out.symm HBB.out
      ·replace HV := hid (HV.out.trans (if_neg (by omega)));go_wp2
       go_returns
       exact aB HV.out.symm HBB.out
end
end Go.Proofs.YtokgmcomgflloaaGreat
