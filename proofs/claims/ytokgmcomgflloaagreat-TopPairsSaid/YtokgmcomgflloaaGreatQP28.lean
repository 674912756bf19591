/- Parts of a proof: contracts and laws. -/
import Derived.Test.YtokgmcomgflloaaGreatQP16
import Derived.Test.YtokgmcomgflloaaGreatQP26
import Derived.Test.YtokgmcomgflloaaGreatQP25
import Derived.Test.YtokgmcomgflloaaGreatQP13
import Derived.Test.YtokgmcomgflloaaGreatQP03
import Derived.Test.YtokgmcomgflloaaGreatQP22
set_option maxRecDepth 100000
set_option maxHeartbeats 16000000
namespace Go.Proofs.YtokgmcomgflloaaGreat
section
set_option linter.unusedVariables false
set_option linter.unusedSimpArgs false
open Go.RowKit
variable {w0 w w':World}
theorem yX {A Aj Ac:Option Addr} {n c nj cj nc cc:Nat} {L:List BE} {Jl:List Jt} {Cl:List Ct} (hS:kM w A n c L) (hJ:dN kF w Aj nj cj Jl) (hC:dN iC w Ac nc cc Cl) (gx gy st:Int) (hJ0:Jl=[]) (hC0:Cl=[]) :
  Calls Tryz.prog 17 #[.agg #[.slice A n c,.slice Aj nj cj,.slice Ac nc cc,.int .i64 gx,.int .i64 gy,.int .i64 st]] w (dS (.int .i64 (jg L Jl Cl gx gy st)) w):=by
 have HC0:Hid (Cl.length=0):=hid (by rw [hC0];rfl);have HJ0:=hid hJ0;have hnc:=hC.len;subst hnc;have hbc:=hC.big;have hpc:=hC.cap;obtain ⟨w1,hw1⟩:∃ x,x=w.alloc (.cells #[.slice A n c,.slice Aj nj cj,.slice Ac Cl.length cc,.int .i64 gx,.int .i64 gy,.int .i64 st] 33):=⟨_,rfl⟩;obtain ⟨gz,hgz⟩:∃ x,x=w.heap.size:=⟨_,rfl⟩;have hb1:Below w.heap.size w w1:=by rw [hw1];exact (Below.refl _ _).alloc (Nat.le_refl _) _
 have z0:w1.cell? ⟨gz,0,none⟩=some (.slice A n c):=by rw [hw1,hgz];go_simp
 have z1:w1.cell? ⟨gz,1,none⟩=some (.slice Aj nj cj):=by rw [hw1,hgz];go_simp
 have z2:w1.cell? ⟨gz,2,none⟩=some (.slice Ac Cl.length cc):=by rw [hw1,hgz];go_simp
 have z3:w1.cell? ⟨gz,3,none⟩=some (.int .i64 gx):=by rw [hw1,hgz];go_simp
 have z4:w1.cell? ⟨gz,4,none⟩=some (.int .i64 gy):=by rw [hw1,hgz];go_simp
 have z5:w1.cell? ⟨gz,5,none⟩=some (.int .i64 st):=by rw [hw1,hgz];go_simp
 have lz:=lt_of_cell z0;have HC1:=hid (qd A Ac n c Cl.length cc L Cl w1 (hS.below hb1) (hC.below hb1) hC0);clear hC0 hJ0;have HS:=hid hS;have HJ:=hid hJ;have HC:=hid hC;have HB1:=hid hb1;obtain ⟨e1,he1⟩:∃ y,y=bI L Cl:=⟨_,rfl⟩;obtain ⟨e2,he2⟩:∃ y,y=dK L Jl:=⟨_,rfl⟩;have HE1:=hid he1;have HE2:=hid he2;rw [← he1] at HC1;clear hS hJ hC hb1 he1 he2
 go_enter Tryz.func17,Tryz.ntmps17
 go_upto_region 1 with fail
 rw [← hw1,← hgz];clear hw1 hgz
 go_wp2_with fail
 refine HC1.out.mono ?_;rintro e w2 ⟨rfl,hb⟩;replace z0:=keepCell hb z0;replace z1:=keepCell hb z1;replace z2:=keepCell hb z2;replace z3:=keepCell hb z3;replace z4:=keepCell hb z4;replace z5:=keepCell hb z5;replace lz:=lt_of_cell z0;replace HB1:=hid (aj hb HB1.out);clear hb HC1
 by_cases h1:e1=0
 case neg =>
  have hq:(e1 != 0)=true:=by simpa using h1
  have hq2:(e1 == 0)=false:=by simpa using h1
  have HV:Hid (e1=jg L Jl Cl gx gy st):=hid (by unfold jg;rw [← HE1.out,if_pos h1]);clear h1;go_wp2
  go_returns
  exact aH (by rw [← HV.out]) HB1.out
 have HZ1:=hid h1;subst h1;have HC2:=hid (pR A Aj n c nj cj L Jl w2 (HS.out.below HB1.out) (HJ.out.below HB1.out) HJ0.out);rw [← HE2.out] at HC2
 go_wp2_with fail
 refine HC2.out.mono ?_;rintro e w3 ⟨rfl,hb⟩;replace z0:=keepCell hb z0;replace z2:=keepCell hb z2;replace z3:=keepCell hb z3;replace z4:=keepCell hb z4;replace z5:=keepCell hb z5;replace lz:=lt_of_cell z0;replace HB1:=hid (aj hb HB1.out);clear hb HC2 z1
 by_cases h2:e2=0
 case neg =>
  have hq:(e2 != 0)=true:=by simpa using h2
  have hq2:(e2 == 0)=false:=by simpa using h2
  have HV:Hid (e2=jg L Jl Cl gx gy st):=hid (by unfold jg;rw [← HE1.out,if_neg (by simp),← HE2.out,if_pos h2]);clear h2;go_wp2
  go_returns
  exact aH (by rw [← HV.out]) HB1.out
 subst h2;have HSE:Hid (jg L Jl Cl gx gy st=if Eo Cl Cl.length=false then 9 else if jM gx gy st then 1 else 0):=hid (by unfold jg;rw [← HE1.out,if_neg (by simp),← HE2.out,if_neg (by simp)])
 go_upto_region 8 with fail
 have HZ:Hid (w3.cell? ⟨gz,0,none⟩=some (.slice A n c)∧w3.cell? ⟨gz,2,none⟩=some (.slice Ac Cl.length cc)∧w3.cell? ⟨gz,3,none⟩=some (.int .i64 gx)∧w3.cell? ⟨gz,4,none⟩=some (.int .i64 gy)∧w3.cell? ⟨gz,5,none⟩=some (.int .i64 st)):=hid ⟨z0,z2,z3,z4,z5⟩;clear z0 z2 z3 z4 z5 lz HS HJ HE1 HE2 HZ1
 go_loopw [25] (fun j wr=>∃ k:Nat,k≤Cl.length∧j = .int .i64 k∧Hid (Eo Cl k=true∧Below w3.heap.size w3 wr)) (fun j _=>Cl.length-(intOf j).toNat)
 case atStart=>exact ⟨0,Nat.zero_le _,rfl,hid ⟨rfl,Below.refl _ _⟩⟩
 case round =>
  obtain ⟨k,hk,rfl,HK⟩:=hrel;obtain ⟨wo,rfl⟩:∃ wo:World,wo=wr:=⟨_,rfl⟩;have HB2:=hid HK.out.2;have HO:=hid HK.out.1;clear HK
  by_cases hlt:k<Cl.length
  ·exact absurd hlt (by have:=HC0.out;omega)
  ·have hke : k = Cl.length := by omega
   subst hke;obtain ⟨z0,z2,z3,z4,z5⟩:=HZ.out;replace z3:=keepCell HB2.out z3;replace z4:=keepCell HB2.out z4;replace z5:=keepCell HB2.out z5;clear z0 z2;have lz:=lt_of_cell z3;have HBB:=hid (aj HB2.out HB1.out);obtain ⟨lo,hlo⟩:∃ y,y=if gy<gx then gy else gx:=⟨_,rfl⟩
   obtain ⟨hi,hhi⟩:∃ y,y=if gy > gx then gy else gx:=⟨_,rfl⟩
   have hrmin:∀ (ts:Array TypeId) (t:TypeId) (w:World),(Builtin.min_ ts t #[.int .i64 gx,.int .i64 gy]).run Tryz.prog w = .ok (.int .i64 lo) w:=fun ts t w=>by rw [run_min_int2,hlo]
   have hrmax:∀ (ts:Array TypeId) (t:TypeId) (w:World),(Builtin.max_ ts t #[.int .i64 gx,.int .i64 gy]).run Tryz.prog w = .ok (.int .i64 hi) w:=fun ts t w=>by rw [run_max_int2,hhi]
   have HV:Hid (jg L Jl Cl gx gy st=if lo < -16777216∨hi > 16777216∨st<1∨st > 65536 then 1 else 0):=hid (by
    rw [HSE.out,if_neg (by rw [HO.out];simp),hlo,hhi]
    rfl)
   clear hlo hhi HSE HO HB2
   by_cases c1:lo < -16777216
   ·replace HV := hid (HV.out.trans (if_pos (.inl c1)));go_wp2
    go_returns
    exact aH HV.out.symm HBB.out
   ·by_cases c2 : hi > 16777216
    ·replace HV := hid (HV.out.trans (if_pos (.inr (.inl c2))));go_wp2
     go_returns
     exact aH HV.out.symm HBB.out
    ·by_cases c3 : st < 1
     ·replace HV := hid (HV.out.trans (if_pos (.inr (.inr (.inl c3)))));go_wp2
      go_returns
      exact aH HV.out.symm HBB.out
     ·by_cases c4 : st > 65536
      ·replace HV := hid (HV.out.trans (if_pos (.inr (.inr (.inr c4)))));go_wp2
       go_returns
       exact aH HV.out.symm HBB.out
      ·replace HV := hid (HV.out.trans (if_neg (by omega)));go_wp2
       go_returns
       exact aH HV.out.symm HBB.out
theorem uV {w : World} {A Aj Ac : Option Addr} {n c nj cj nc cc : Nat} {L : List BE} {Jl : List Jt} {Cl : List Ct} (hS : kM w A n c L) (hJ : dN kF w Aj nj cj Jl) (hC : dN iC w Ac nc cc Cl)
  (hjr:∀ x ∈ Jl,0≤x.a∧x.a<(n:Int)∧0≤x.b∧x.b<(n:Int)) (hcr:∀ x ∈ Cl,0≤x.a∧x.a<(n:Int)∧0≤x.b∧x.b<(n:Int)) (hn:n≤1000000) (hJ0:Jl=[]) (hC0:Cl=[]) :
  Calls Tryz.prog 45 #[.slice A n c,.slice Aj nj cj,.slice Ac nc cc] w (fun e w'=>∃ gs,e = .returned (.slice (some ⟨gs,0,none⟩) n n)∧w.heap.size≤gs∧aM bJ w' gs 0 ((List.range n).map (Af (N8 L) (Bh Jl ++ Gt Cl)))∧(∀ j,w'.frozen? ⟨gs,j,none⟩=false)∧Below w.heap.size w w'):=by
 have HC0:Hid (Cl.length=0):=hid (by rw [hC0];rfl);have HJ0:Hid (Jl.length=0):=hid (by rw [hJ0];rfl);clear hJ0 hC0;have hnn:=hS.sl.len;subst hnn;have hnj:=hJ.len;subst hnj;have hnc:=hC.len;subst hnc;have hbj:=hJ.big;have hbc:=hC.big;have hpj:=hJ.cap;have hpc:=hC.cap;have hcap:=hS.sl.cap;obtain ⟨n,hnl⟩:∃ n,n=L.length:=⟨_,rfl⟩;rw [← hnl] at hS hjr hcr hn hcap ⊢;obtain ⟨rep,hrep⟩:∃ x,x=(List.replicate n (Value.int .i64 0)).toArray:=⟨_,rfl⟩;have hmk:∀ w:World,(Instr.makeSlice 45 (.int .i64 (n:Int)) (.int .i64 (n:Int))).run Tryz.prog w = .ok (.slice (some ⟨w.heap.size,0,none⟩) n n) (w.alloc (.cells rep 3)):=fun w=>by rw [hrep];exact Gg n hn w
 have HREP:=hid hrep;clear hrep;have HS:=hid hS;have HJ:=hid hJ;have HC:=hid hC;have HJR:=hid hjr;have HCR:=hid hcr;have HNL:=hid hnl;clear hS hJ hC hjr hcr hnl
 go_enter Tryz.func45,Tryz.ntmps45
 go_upto_region 2 with fail
 obtain ⟨w1,hw1⟩:∃ x,x=w.alloc (.cells #[.slice A n c] 29):=⟨_,rfl⟩;obtain ⟨w2,hw2⟩:∃ x,x=w1.alloc (.cells rep 3):=⟨_,rfl⟩;obtain ⟨w3,hw3⟩:∃ x,x=w2.alloc (.cells #[.slice (some ⟨w.heap.size+1,0,none⟩) n n] 45):=⟨_,rfl⟩;obtain ⟨gl,hgl⟩:∃ x,x=w.heap.size:=⟨_,rfl⟩;obtain ⟨gs,hgs⟩:∃ x,x=w.heap.size+1:=⟨_,rfl⟩;obtain ⟨gu,hgu⟩:∃ x,x=w.heap.size+1+1:=⟨_,rfl⟩;have s1:w1.heap.size=gs:=by rw [hw1,hgs];simp
 have s2:w2.heap.size=gu:=by rw [hw2,hgu,World.size_alloc,s1,hgs]
 have hb1:Below w.heap.size w w1:=by rw [hw1];exact (Below.refl _ _).alloc (Nat.le_refl _) _
 have hb2:Below w1.heap.size w1 w2:=by rw [hw2];exact (Below.refl _ _).alloc (Nat.le_refl _) _
 have hb3:Below w2.heap.size w2 w3:=by rw [hw3];exact (Below.refl _ _).alloc (Nat.le_refl _) _
 have h2s:w2.heap[gs]? = some (.cells rep 3):=by rw [hw2,← s1];exact heap_alloc_new w1 _
 have h3s:w3.heap[gs]? = some (.cells rep 3):=(hb3.block _ (Array.getElem?_eq_some_iff.1 h2s).1).trans h2s;have cl1:w1.cell? ⟨gl,0,none⟩=some (.slice A n c):=by rw [hw1,hgl];go_simp
 have HCL:Hid (w3.cell? ⟨gl,0,none⟩=some (.slice A n c)):=keepCell hb3 (keepCell hb2 cl1);have HB3:Hid (Below w.heap.size w w3):=aj hb3 (aj hb2 hb1)
 have HI3:Hid (QL w3 gu gs n 0 w3):=hid ⟨⟨List.replicate n 0,by simp,⟨by rw [List.length_replicate,hw3,← s2,hgs];go_simp,fun i hi=>by
   rw [List.length_replicate] at hi;rw [Qm n i hi];unfold World.cell?
   rw [h3s,HREP.out];show (List.replicate n (Value.int .i64 0)).toArray[i]? = _;rw [List.getElem?_toArray,List.getElem?_replicate,if_pos hi]
   rfl,fun j=>by unfold World.frozen?;rw [h3s];simp,(Array.getElem?_eq_some_iff.1 h3s).1,by omega,by rw [List.length_replicate];exact hn⟩,fun j hj=>absurd hj (by omega)⟩,Out.refl _ _⟩
 have HG:Hid (gl≠gs∧gl≠gu∧gs≠gu∧w.heap.size≤gs∧gl<w3.heap.size∧gu<w3.heap.size∧gs<w3.heap.size):=by
  have q1:w3.heap.size=w2.heap.size+1:=by rw [hw3,World.size_alloc]
  show _∧_;refine ⟨by omega,by omega,by omega,by omega,by omega,by omega,by omega⟩
 rw [hgs] at h2s h3s;clear h2s h3s cl1 hb1 hb2 hb3 s1 s2;rw [← hw1,← hw2,← hw3,← hgu,← hgs,← hgl];clear hw1 hw2 hw3 hgu hgl hgs hmk HREP
 have c0:w3.cell? ⟨gu,0,none⟩=some (.slice (some ⟨gs,0,none⟩) n n):=by
  obtain ⟨⟨up,hl,hU,-⟩,-⟩:=HI3.out;have:=hU.cu;rwa [hl] at this
 go_wp2;clear c0
 go_loopw [21] (fun j wr=>∃ k:Nat,k≤n∧j = .int .i64 k∧Hid (QL w3 gu gs n k wr)) (fun j _=>n-(intOf j).toNat)
 case atStart=>exact ⟨0,Nat.zero_le _,rfl,HI3⟩
 case round =>
  clear HI3;obtain ⟨k,hk,rfl,HI⟩:=hrel;obtain ⟨wo,rfl⟩:∃ wo:World,wo=wr:=⟨_,rfl⟩;obtain ⟨⟨up,hl,hU,hu⟩,hO⟩:=HI.out;have c0:=hU.cu;rw [hl] at c0;have lu:=lt_of_cell c0
  by_cases hlt:k<n
  ·have hlt' : (k : Int) < (n : Int) := by omega
   have hwk:IntKind.i64.wrap ((k:Int)+1)=(k:Int)+1:=IntWalk.i64_in _ (by omega);have ck:=hU.cs k (by omega);have cf:=hU.fr;have ls:=lt_of_cell ck
   have HI2:Hid (QL w3 gu gs n (k+1) (wo.setCell ⟨gs,k,none⟩ (.int .i64 (k:Nat)))):=hid ⟨⟨_,by rw [List.length_set];exact hl,hU.set (by omega) k,fun j hj=>by
    rw [jC (by omega)]
    by_cases e:j=k
    ·rw [if_pos e,e]
    ·rw [if_neg e]
     exact hu j (by omega)⟩,hO.setCell (p:=⟨gs,k,none⟩) (.inr rfl) _⟩
   clear hl hU hu hO HI;go_wp2;go_roundw
   case rel=>exact ⟨k+1,hlt,by go_num,HI2⟩
   case measure=>simp [intOf];omega
  ·have hke : n = k := by omega
   subst hke;obtain ⟨gr,hgr⟩:∃ x,x=wo.heap.size:=⟨_,rfl⟩;obtain ⟨w4,hw4⟩:∃ x,x=wo.alloc (.cells #[.func (.func 109) #[] #[.pointer (some ⟨gu,0,none⟩)]] 80):=⟨_,rfl⟩;have hb4:Below wo.heap.size wo w4:=by rw [hw4];exact (Below.refl _ _).alloc (Nat.le_refl _) _
   have e:=LV hl hu;subst e;have HR4:Hid (tX w4 gu gs n (Af (N8 L) ([]:List (Nat × Nat))) (fun _=>False) w4):=hid ⟨⟨_,hl,hU.out (Out.below (D:=fun _=>False) hb4) (fun q=>q) (fun q=>q),EN.new n,fun _ q=>q.elim⟩,Out.refl _ _⟩;have HO4:Hid (Out (fun k=>k=gs) w3 w4):=hid (hO.trans (Out.below (D:=fun _=>False) hb4) (fun i _ q=>q.elim));have HB4:Hid (Below w.heap.size w w4):=hid (zi HB3.out (Nat.le_refl _) HO4.out (fun k hk=>by rw [hk];exact HG.out.2.2.2.1));have HCR4:Hid (w4.cell? ⟨gr,0,none⟩=some (.func (.func 109) #[] #[.pointer (some ⟨gu,0,none⟩)])):=hid (by rw [hw4,hgr];go_simp);have HCL4:Hid (w4.cell? ⟨gl,0,none⟩=some (.slice A n c)):=hid (HO4.out.cell HCL.out HG.out.1);have HGR:Hid (gr≠gs):=hid (by have:=HO4.out.size;have:=hU.lt;show ¬ _;omega);have hst:∀ (a:Addr) (w:World),(store a (.func (.func 109) #[] #[.pointer (some ⟨gu,0,none⟩)])).run Tryz.prog w=stored Tryz.prog w a (.func (.func 109) #[] #[.pointer (some ⟨gu,0,none⟩)]) .plain:=fun a w=>run_store _ w a _ _ rfl
   go_upto_region 10 with fail
   rw [← hw4,← hgr];clear hw4 hgr hb4 hl hU hu hO HI hst c0 lu hlt hk
   have HJN:Hid (∀ i,i<n→∃ bl off,A=some ⟨bl,off,none⟩∧R8 w4 gl gr gu gs n bl off c (N8 L)):=hid (fun i hi=>by
    obtain ⟨bl,off,hA,hC0⟩:=HS.out.sl.at_ (by intro q;rw [HNL.out,q] at hi;simp at hi);have hlt:=hC0.lt;have hC:=hC0.below HB4.out;have hge:=HG.out.2.2.2.1;refine ⟨bl,off,hA,by rw [← hA];exact HCL4.out,HCR4.out,fun j hj=>?_,HG.out.1,HGR.out,by omega⟩;have hj':j<L.length:=by rw [← HNL.out];exact hj
    refine ⟨L[j].b.mass,hC.at_ j hj' 6 _ rfl,?_⟩;unfold N8;rw [List.getElem?_eq_getElem hj']
    simp)
   go_loopw [33] (fun j wr=>∃ k:Nat,k≤Jl.length∧j = .int .i64 k∧Hid (tX w4 gu gs n (Af (N8 L) (Bh (Jl.take k))) (fun _=>False) wr)) (fun j _=>Jl.length-(intOf j).toNat)
   case atStart=>exact ⟨0,Nat.zero_le _,rfl,HR4⟩
   case round =>
    clear HR4;obtain ⟨k,hk,rfl,HR⟩:=hrel;obtain ⟨wo,rfl⟩:∃ wo:World,wo=wr:=⟨_,rfl⟩
    by_cases hlt:k<Jl.length
    ·exact absurd hlt (by have:=HJ0.out;omega)
    ·have hke : k = Jl.length := by omega
     subst hke;rw [List.take_length] at HR
     have HR4:Hid (tX w4 gu gs n (Af (N8 L) (Bh Jl ++ Gt (Cl.take 0))) (fun _=>False) wo):=hid (by
      rw [show Bh Jl ++ Gt (Cl.take 0)=Bh Jl from List.append_nil _]
      exact HR.out)
     clear HR hlt hk
     go_upto_region 15 with fail
     go_loopw [46] (fun j wr=>∃ k:Nat,k≤Cl.length∧j = .int .i64 k∧Hid (tX w4 gu gs n (Af (N8 L) (Bh Jl ++ Gt (Cl.take k))) (fun _=>False) wr)) (fun j _=>Cl.length-(intOf j).toNat)
     case atStart=>exact ⟨0,Nat.zero_le _,rfl,HR4⟩
     case round =>
      clear HR4;obtain ⟨k,hk,rfl,HR⟩:=hrel;obtain ⟨wo,rfl⟩:∃ wo:World,wo=wr:=⟨_,rfl⟩
      by_cases hlt:k<Cl.length
      ·exact absurd hlt (by have:=HC0.out;omega)
      ·have hke : k = Cl.length := by omega
       subst hke;rw [List.take_length] at HR;obtain ⟨f,hf⟩:∃ f,f=Af (N8 L) (Bh Jl ++ Gt Cl):=⟨_,rfl⟩;rw [← hf] at HR;have HFE:=hid hf;clear hf
       have c0:wo.cell? ⟨gu,0,none⟩=some (.slice (some ⟨gs,0,none⟩) n n):=by
        obtain ⟨up,hl,hU,-⟩:=HR.out.ex;have:=hU.cu;rwa [hl] at this
       have HR7:Hid (tX w4 gu gs n f (fun q=>q<0) wo):=hid (by
        obtain ⟨up,hl,hU,hf,-⟩:=HR.out.ex
        exact ⟨⟨up,hl,hU,hf,fun q hq=>absurd hq (by omega)⟩,HR.out.out⟩)
       go_upto_region 20 with fail
       clear c0 HR
       go_loopw [59] (fun j wr=>∃ k:Nat,k≤n∧j = .int .i64 k∧Hid (tX w4 gu gs n f (fun q=>q<k) wr)) (fun j _=>n-(intOf j).toNat)
       case atStart=>exact ⟨0,Nat.zero_le _,rfl,HR7⟩
       case round =>
        clear HR7;obtain ⟨k,hk,rfl,HR⟩:=hrel;obtain ⟨wo,rfl⟩:∃ wo:World,wo=wr:=⟨_,rfl⟩
        have c0:wo.cell? ⟨gu,0,none⟩=some (.slice (some ⟨gs,0,none⟩) n n):=by
         obtain ⟨up,hl,hU,-⟩:=HR.out.ex;have:=hU.cu;rwa [hl] at this
        by_cases hlt:k<n
        ·have hlt' : (k : Int) < (n : Int) := by omega
         have hwk:IntKind.i64.wrap ((k:Int)+1)=(k:Int)+1:=IntWalk.i64_in _ (by omega);have HKN:=hid hlt;have C0:=hid c0;have CR:=hid (HR.out.out.cell HCR4.out HGR.out);have HN1:Hid (¬ gu=gs):=hid (fun q=>HG.out.2.2.1 q.symm);have HN2:Hid (¬ gr=gs):=HGR;clear c0
         go_upto_region 22 with fail
         refine wp_region_noPanic ?_;refine au (S:=(S2 (fun w'=>w'.cell? ⟨gu,0,none⟩=some (.slice (some ⟨gs,0,none⟩) n n)∧w'.cell? ⟨gr,0,none⟩=some (.func (.func 109) #[] #[.pointer (some ⟨gu,0,none⟩)])∧tX w4 gu gs n f (fun q=>q<k) w'))) (T:=(fun j=>[0,0,0,0,0,0,1].getD j 0)) (by kernel_rfl) (aK ⟨C0.out,CR.out,HR.out.keep ((Below.refl _ _).drew)⟩) (fun hH=>?_);have hWr3:aG (S2 (fun w'=>w'.cell? ⟨gu,0,none⟩=some (.slice (some ⟨gs,0,none⟩) n n)∧w'.cell? ⟨gr,0,none⟩=some (.func (.func 109) #[] #[.pointer (some ⟨gu,0,none⟩)])∧tX w4 gu gs n f (fun q=>q<k) w')):=aI _;refine dG [(0,62),(1,63),(2,64),(3,65)] 3 0 0 (L':=?Lr3_1) hWr3 hH ?yr3_1 ?_
         case yr3_1=>((iterate 4 apply dF;rfl;kernel_rfl;intro w' hSw;replace hSw:=aB hSw;(try dsimp only at hSw);have q0:=hSw.1;have q1:=hSw.2.1;have q2:=hSw.2.2;(try simp only [sB,sC]);go_simp;(try with_reducible rfl));exact dD)
         simp only [sB,sC];refine U1 4 0 rfl (fun K hK=>?_);have hG:=hH;replace hG:=aB hG;(try dsimp only at hG);have q0:=hG.1;have q1:=hG.2.1;have q2:=hG.2.2;go_simp
         (go_at_call 109;refine (Dm (tX.here q2) HKN.out).mono ?_;rintro e wn ⟨rfl,hR⟩)
         refine hK.out _ _ (aK ⟨hR.out.cell q0 HN1.out,hR.out.cell q1 HN2.out,q2.then hR⟩) (fun hH2=>?_);clear hK K hH
         rename _=>hH
         try simp only [Act.put,sA,sB,sC]
         have HRN:=hid (q2.then hR);clear hG q0 q1 q2 hR;refine Ut 5 67 1 0 0 (v:=?vr3_6) rfl hWr3 hH ?yr3_6 ?_
         case yr3_6=>(intro w' hSw;clear hSw;go_simp;try (with_reducible rfl))
         simp only [sB,sC];refine U1 6 1 rfl (fun K hK=>?_);have hG:=hH;replace hG:=aB hG;(try dsimp only at hG);have q0:=hG.1;have q1:=hG.2.1;have q2:=hG.2.2;obtain ⟨up,hl,hU,hf,hP⟩:=q2.ex;have ck:=hU.cs k (by rw [hl];exact HKN.out);have cf:=hU.fr;go_simp;refine hK.out _ _ (gV) (fun hH2=>?_);clear hK K hH
         rename _=>hH
         try simp only [Act.put,sA,sB,sC]
         clear hG q0 q1 q2 hU hf hP hl ck cf;refine ak (by kernel_rfl) ?_ _ _;refine NoPanic.normal ?_;clear hWr3 hH
         have HR8:Hid (∀ u,u=f k→tX w4 gu gs n f (fun q=>q<k+1) (wn.setCell ⟨gs,k,none⟩ (.int .i64 (u:Nat)))):=hid (fun u hu=>by
          subst hu;obtain ⟨up,hl,hU,hf,hP⟩:=HRN.out.ex;have hi:k<up.length:=by rw [hl];exact HKN.out
          exact ⟨⟨_,by rw [List.length_set];exact hl,hU.set hi _,hf.put hi,fun j hj=>by
           rw [jC hi]
           by_cases e:j=k
           ·rw [if_pos e,e]
           ·rw [if_neg e]
            exact hP j (by omega)⟩,HRN.out.out.setCell (p:=⟨gs,k,none⟩) (.inr rfl) _⟩)
         clear HRN C0 CR HN1 HN2 HR;replace HR8:=hid (HR8.out (f k) rfl);generalize hwB:World.setCell _ _ _=wB at *
         clear hwB;go_wp2;go_roundw
         case rel=>exact ⟨k+1,hlt,by go_num,HR8⟩
         case measure=>simp [intOf];omega
        ·have hke : n = k := by omega
         subst hke;obtain ⟨up,hl,hU,hf,hP⟩:=HR.out.ex
         have HC7:Hid (aM bJ wo gs 0 ((List.range n).map f)):=hid ⟨hU.lt,fun j hj i v hv=>by
          have hj2:j<n:=by simpa using hj
          match i,hv with
          | 0,hv =>
           have h1:=hU.cs j (by omega);rw [hP j hj2] at h1;have e:v = .int .i64 (f j:Nat):=by simpa [bJ] using hv.symm
           rw [e];simpa [bJ] using h1
          | i+1,hv=>simp [bJ] at hv⟩
         have HF7:=hid hU.fr;have HB7:Hid (Below w.heap.size w wo):=hid (zi HB4.out (Nat.le_refl _) HR.out.out (fun k hk=>by rw [hk];exact HG.out.2.2.2.1));have lu:=lt_of_cell c0;clear hl hU hf hP HR;go_wp2
         go_returns
         exact ⟨gs,by simp,HG.out.2.2.2.1,by rw [← HFE.out];exact HC7.out,HF7.out,HB7.out⟩
theorem AA (A B:Option Addr) (m c m' c':Nat) (old F:List Ct) (w:World) (hO:dN iC w A m c old) (hF:dN iC w B m' c' F) (hl:F.length≤100000) (hF0:F=[]):Calls Tryz.prog 108 #[.slice A m c,.slice B m' c'] w (FH (AV old F) w):=by
 have HF0:Hid (F.length=0):=hid (by rw [hF0];rfl);clear hF0;have HCL:=hid (pU B m' c' F w hF hl);have HO:=hid hO;have hol:=hO.len;subst hol;have hbig:=hO.big;have hcap:=hO.cap;clear hO hF
 go_enter Tryz.func108,Tryz.ntmps108
 go_wp2_with fail
 refine HCL.out.mono ?_;rintro e w1 ⟨s,rfl,hs,hb1⟩;clear HCL;obtain ⟨gO,hgO⟩:∃ g,g=w1.heap.size:=⟨_,rfl⟩
 rcases hs.form with ⟨rfl,h0⟩ | ⟨gq,cap,rfl,hB,hg,hn,hm,hf,hcl⟩
 ·have HR : Hid (FH (AV old F) w (.returned (.slice none 0 0)) (w1.alloc (.cells #[.slice none 0 0] 31))) := by rw [h0]; exact ⟨_, _, _, rfl, dN.nil _ _, hb1.alloc hb1.size _⟩
  clear hs h0 hgO;go_wp2
  go_loopw [12] (fun i wr=>i = .int .i64 0∧wr=(w1.alloc (.cells #[.slice none 0 0] 31))) (fun _ _=>0)
  case atStart=>exact ⟨rfl,rfl⟩
  case round =>
   obtain ⟨rfl,rfl⟩:=hrel;go_wp2;refine bodyPost_ret (v:=.slice none 0 0) (by simp [results,Tryz.results108,go_sem]) rfl HR.out
 obtain ⟨n,hn'⟩:∃ n,n=F.length:=⟨_,rfl⟩;obtain ⟨W,hW⟩:∃ W,W=w1.alloc (.cells #[.slice (some ⟨gq,0,none⟩) n cap] 31):=⟨_,rfl⟩;have hBW:Below w1.heap.size w1 W:=by rw [hW];go_grown
 have HCY0:Hid (Cy w gO gq n cap F W):=⟨by rw [hW,hgO];go_simp,aM.below hBW hcl,fun j=>((cO hBW).2 _ _ hg).trans (hf j),aj hBW hb1,⟨hB,by rw [hgO];exact hg⟩,hn'.symm⟩;have hnc:n≤cap:=by rw [hn'];exact hn
 have hn0:n≤100000:=by rw [hn'];exact hl
 have hc0:=HCY0.out.co;rw [← hn'];clear hs hB hg hn hf hcl hBW hl;have HN:=hid hn';clear hn';go_wp2;rw [← hgO,← hW];clear hW hgO hc0
 go_loopw [12] (fun i wr=>∃ k:Nat,k≤n∧i = .int .i64 k∧Cy w gO gq n cap (AV old (F.take k) ++ F.drop k) wr) (fun i _=>n-(intOf i).toNat)
 case atStart=>exact ⟨0,Nat.zero_le _,rfl,by simpa [AV] using HCY0.out⟩
 case round =>
  clear HCY0;obtain ⟨k,hk,rfl,hcy⟩:=hrel;obtain ⟨wo,rfl⟩:∃ wo:World,wo=wr:=⟨_,rfl⟩;have HCY:=hid hcy;clear hcy
  by_cases hlt:k<n
  ·exact absurd hlt (by have:=HF0.out;have:=HN.out;omega)
  ·have hkn : k = n := by omega
   subst hkn
   have HR:Hid (FH (AV old F) w (.returned (.slice (some ⟨gq,0,none⟩) k cap)) wo):=by
    have e:AV old (F.take k) ++ F.drop k=AV old F:=by rw [HN.out,List.take_length,List.drop_length,List.append_nil]
    have h:=HCY.out;rw [e] at h;exact ⟨_,_,_,rfl,h.sl hnc hm,h.bel⟩
   have hc1:=HCY.out.co;clear HCY;go_wp2;refine bodyPost_ret (v:=.slice (some ⟨gq,0,none⟩) k cap) (by simp [results,Tryz.results108,go_sem]) rfl HR.out
structure TA (w1 : World) (s : Value) (w : World) : Prop where
 own:aN iC 106 w w1.heap.size s []
 bel:Below w1.heap.size w1 w
theorem AB (A B:Option Addr) (n c m c':Nat) (L:List BE) (old:List Ct) (w:World) (hS:kM w A n c L) (hO:dN iC w B m c' old) (hE:aX L=0) (hN:iU L=[]) :
  Calls Tryz.prog 43 #[.slice A n c,.slice B m c'] w (fun e w'=>∃ A n c,e = .returned (.tuple #[.slice A n c,.int .i64 0])∧dN iC w' A n c []∧Below w.heap.size w w'):=by
 have hn:=hS.sl.len;subst hn;have HS:=hid hS;have HO:=hid hO;have hcap:=hS.sl.cap;have hbig:=hS.sl.big;have HKP:=hid (qW A L.length c L w hS);have HNL:=hid hN;clear hS hO hN
 go_enter Tryz.func43,Tryz.ntmps43
 go_wp2_with fail
 refine HKP.out.mono ?_;rintro e w1 ⟨A0,n0,c0,rfl,hs0,hb0⟩;clear HKP;have HEZ:=hid hE;have HB0:=hid hb0;have e0:zV L=iU L:=by unfold zV;rw [if_pos hE]
 rw [e0] at hs0;rw [hE];obtain ⟨P,hP⟩:∃ P,P=iU L:=⟨_,rfl⟩;rw [← hP] at hs0;have HP:Hid (P.length=0):=hid (by rw [hP,HNL.out];rfl);have hlen:P.length≤4096:=by have:=HP.out;omega
 have hn0:=hs0.len;subst hn0;have HS0:=hid hs0;have HF0:Hid (TA w1 (.slice none 0 0) w1):=⟨aN.nil _ _ _ _,Below.refl _ _⟩;have hcap0:=hs0.cap;have hbig0:=hs0.big;clear hE hb0 e0 hP hs0;go_wp2
 go_loopw [8,23] (fun s j wr=>∃ t:Nat,t≤P.length∧j = .int .i64 t∧TA w1 s wr) (fun _ j _=>P.length-(intOf j).toNat)
 case atStart=>exact ⟨0,Nat.zero_le _,rfl,HF0.out⟩
 case round =>
  clear HF0;obtain ⟨t,ht,rfl,hfw⟩:=hrel;obtain ⟨wo,rfl⟩:∃ wo:World,wo=wr:=⟨_,rfl⟩;obtain ⟨s,hs⟩:∃ s,s=u8:=⟨_,rfl⟩;rw [← hs] at hfw ⊢;clear hs
  by_cases hlt:t<P.length
  ·exact absurd hlt (by have:=HP.out;omega)
  ·have hte : t = P.length := by omega
   subst hte;obtain ⟨sA,sn,sc,hse,hsl,-⟩:=hfw.own.sl;have hB1:Below w.heap.size w wo:=HB0.out.trans (hfw.bel.mono HB0.out.size);have HCA:=hid (AA B sA m c' sn sc old [] wo (HO.out.below hB1) hsl (by simp) rfl);have HB1:=hid hB1;subst hse;clear hfw hsl hB1
   go_wp2_with fail
   refine HCA.out.mono ?_;rintro e w2 ⟨A2,n2,c2,rfl,hs2,hb2⟩;rw [show AV old []=[] by unfold AV;simp] at hs2;have HR:Hid (dN iC w2 A2 n2 c2 []∧Below w.heap.size w w2):=⟨hs2,aj hb2 HB1.out⟩;clear HCA hs2 hb2;go_wp2;refine bodyPost_ret (v:=.tuple #[.slice A2 n2 c2,.int .i64 0]) (by simp [results,Tryz.results43,go_sem]) rfl ⟨A2,n2,c2,rfl,HR.out.1,HR.out.2⟩
end
end Go.Proofs.YtokgmcomgflloaaGreat
