/- Parts of a proof: contracts and laws. -/
import Derived.Test.YtokgmcomgflloaaGreatQA18
import Derived.Test.YtokgmcomgflloaaGreatQA16
import Derived.Test.YtokgmcomgflloaaGreatQA08
import Derived.Test.YtokgmcomgflloaaGreatQA19
import Derived.Test.YtokgmcomgflloaaGreatQA02
import Derived.Test.YtokgmcomgflloaaGreatQA14
set_option maxRecDepth 100000
set_option maxHeartbeats 16000000
namespace Go.Proofs.YtokgmcomgflloaaGreat
section
set_option linter.unusedVariables false
set_option linter.unusedSimpArgs false
open Go.RowKit
theorem qA {D:Nat→Prop} {B:Nat} {w a b:World} (h:Below B w a) (hB:B≤w.heap.size) (o:Out D a b) (hd:∀ k,D k→B≤k):Below B w b :=
 h.trans ⟨o.os,o.tape,o.output,o.size,fun k hk=>o.block k (by have:=h.size;omega) (fun q=>by have:=hd k q;omega)⟩
def pz (l:List Jt):List (Nat × Nat):=l.map fun x=>(x.a.toNat,x.b.toNat)
def tC (l:List Ct):List (Nat × Nat):=l.map fun x=>(x.a.toNat,x.b.toNat)
def GN (L:List BE) (j:Nat):Bool:=match L[j]? with | some x=>decide (x.b.mass≠0) | none=>false
theorem Gj (n:Nat) (hn:n≤1000000) (w:World):(Instr.makeSlice 45 (.int .i64 (n:Int)) (.int .i64 (n:Int))).run Tryz.prog w = .ok (.slice (some ⟨w.heap.size,0,none⟩) n n) (w.alloc (.cells (List.replicate n (.int .i64 0)).toArray 3)):=by
 obtain ⟨i0,hi,hz0,hz1,hz2⟩:=info_parts Ab;have:=run_makeSlice (P:=Tryz.prog) w 45 3 i0 (.int .i64 0) Tryz.underlying45 hi hz0 .i64 .i64 n n (by omega) (Int.le_refl _) (by rw [hz1];omega) (by rw [hz2];omega) (by omega);rw [this,hz1,Int.toNat_natCast,Nat.mul_one]
 have e:madeCells (Value.cells (.int .i64 0)) n=(List.replicate n (Value.int .i64 0)).toArray:=by
  have:=toList_madeCells_one (.int .i64 0) n;rw [show Value.cells (.int .i64 0)=#[.int .i64 0] from rfl,← this]
 rw [e]
theorem OL (n:Nat):∀ i,i<n→gU (List.replicate n 0) i=0:=fun i hi=>by
 unfold gU;rw [List.getD_eq_getElem?_getD,List.getElem?_replicate,if_pos hi];rfl
theorem JN {up:List Nat} {n:Nat} (hl:up.length=n) (h:∀ j,j<n→gU up j=j):up=List.range n:=by
 apply List.ext_getElem (by simpa using hl);intro j h1 h2;have:=h j (by omega);unfold gU at this;rw [List.getD_eq_getElem?_getD,List.getElem?_eq_getElem h1] at this;simpa using this

structure Oi (w : World) (gu gs n k : Nat) (wr : World) : Prop where
 ex:∃ up,up.length=n∧NI wr gu gs up∧∀ j,j<k→gU up j=j
 out:Out (fun k=>k=gs) w wr
theorem pI {w : World} {A Aj Ac : Option Addr} {n c nj cj nc cc : Nat} {L : List BE} {Jl : List Jt} {Cl : List Ct} (hS : iH w A n c L) (hJ : dW gZ w Aj nj cj Jl) (hC : dW bZ w Ac nc cc Cl)
  (hjr:∀ x ∈ Jl,0≤x.a∧x.a<(n:Int)∧0≤x.b∧x.b<(n:Int)) (hcr:∀ x ∈ Cl,0≤x.a∧x.a<(n:Int)∧0≤x.b∧x.b<(n:Int)) (hn:n≤1000000) :
  Calls Tryz.prog 45 #[.slice A n c,.slice Aj nj cj,.slice Ac nc cc] w (fun e w'=>∃ gs,e = .returned (.slice (some ⟨gs,0,none⟩) n n)∧w.heap.size≤gs∧aJ fq w' gs 0 ((List.range n).map (qF (GN L) (pz Jl ++ tC Cl)))∧(∀ j,w'.frozen? ⟨gs,j,none⟩=false)∧Below w.heap.size w w'):=by
 have hnn:=hS.sl.len;subst hnn;have hnj:=hJ.len;subst hnj;have hnc:=hC.len;subst hnc;have hbj:=hJ.big;have hbc:=hC.big;have hpj:=hJ.cap;have hpc:=hC.cap;have hcap:=hS.sl.cap;obtain ⟨n,hnl⟩:∃ n,n=L.length:=⟨_,rfl⟩;rw [← hnl] at hS hjr hcr hn hcap ⊢;obtain ⟨rep,hrep⟩:∃ x,x=(List.replicate n (Value.int .i64 0)).toArray:=⟨_,rfl⟩;have hmk:∀ w:World,(Instr.makeSlice 45 (.int .i64 (n:Int)) (.int .i64 (n:Int))).run Tryz.prog w = .ok (.slice (some ⟨w.heap.size,0,none⟩) n n) (w.alloc (.cells rep 3)):=fun w=>by rw [hrep];exact Gj n hn w
 have HREP:=hid hrep;clear hrep;have HS:=hid hS;have HJ:=hid hJ;have HC:=hid hC;have HJR:=hid hjr;have HCR:=hid hcr;have HNL:=hid hnl;clear hS hJ hC hjr hcr hnl
 go_enter Tryz.func45,Tryz.ntmps45
 go_upto_region 2 with fail
 obtain ⟨w1,hw1⟩:∃ x,x=w.alloc (.cells #[.slice A n c] 29):=⟨_,rfl⟩;obtain ⟨w2,hw2⟩:∃ x,x=w1.alloc (.cells rep 3):=⟨_,rfl⟩;obtain ⟨w3,hw3⟩:∃ x,x=w2.alloc (.cells #[.slice (some ⟨w.heap.size+1,0,none⟩) n n] 45):=⟨_,rfl⟩;obtain ⟨gl,hgl⟩:∃ x,x=w.heap.size:=⟨_,rfl⟩;obtain ⟨gs,hgs⟩:∃ x,x=w.heap.size+1:=⟨_,rfl⟩;obtain ⟨gu,hgu⟩:∃ x,x=w.heap.size+1+1:=⟨_,rfl⟩;have s1:w1.heap.size=gs:=by rw [hw1,hgs];simp
 have s2:w2.heap.size=gu:=by rw [hw2,hgu,World.size_alloc,s1,hgs]
 have hb1:Below w.heap.size w w1:=by rw [hw1];exact (Below.refl _ _).alloc (Nat.le_refl _) _
 have hb2:Below w1.heap.size w1 w2:=by rw [hw2];exact (Below.refl _ _).alloc (Nat.le_refl _) _
 have hb3:Below w2.heap.size w2 w3:=by rw [hw3];exact (Below.refl _ _).alloc (Nat.le_refl _) _
 have h2s:w2.heap[gs]? = some (.cells rep 3):=by rw [hw2,← s1];exact heap_alloc_new w1 _
 have h3s:w3.heap[gs]? = some (.cells rep 3):=(hb3.block _ (Array.getElem?_eq_some_iff.1 h2s).1).trans h2s;have cl1:w1.cell? ⟨gl,0,none⟩=some (.slice A n c):=by rw [hw1,hgl];go_simp
 have HCL:Hid (w3.cell? ⟨gl,0,none⟩=some (.slice A n c)):=keepCell hb3 (keepCell hb2 cl1);have HB3:Hid (Below w.heap.size w w3):=aj hb3 (aj hb2 hb1)
 have HI3:Hid (Oi w3 gu gs n 0 w3):=hid ⟨⟨List.replicate n 0,by simp,⟨by rw [List.length_replicate,hw3,← s2,hgs];go_simp,fun i hi=>by
   rw [List.length_replicate] at hi;rw [OL n i hi];unfold World.cell?
   rw [h3s,HREP.out];show (List.replicate n (Value.int .i64 0)).toArray[i]? = _;rw [List.getElem?_toArray,List.getElem?_replicate,if_pos hi]
   rfl,fun j=>by unfold World.frozen?;rw [h3s];simp,(Array.getElem?_eq_some_iff.1 h3s).1,by omega,by rw [List.length_replicate];exact hn⟩,fun j hj=>absurd hj (by omega)⟩,Out.refl _ _⟩
 have HG:Hid (gl≠gs∧gl≠gu∧gs≠gu∧w.heap.size≤gs∧gl<w3.heap.size∧gu<w3.heap.size∧gs<w3.heap.size):=by
  have q1:w3.heap.size=w2.heap.size+1:=by rw [hw3,World.size_alloc]
  show _∧_;refine ⟨by omega,by omega,by omega,by omega,by omega,by omega,by omega⟩
 rw [hgs] at h2s h3s;clear h2s h3s cl1 hb1 hb2 hb3 s1 s2;rw [← hw1,← hw2,← hw3,← hgu,← hgs,← hgl];clear hw1 hw2 hw3 hgu hgl hgs hmk HREP
 have c0:w3.cell? ⟨gu,0,none⟩=some (.slice (some ⟨gs,0,none⟩) n n):=by
  obtain ⟨⟨up,hl,hU,-⟩,-⟩:=HI3.out;have:=hU.cu;rwa [hl] at this
 go_wp2;clear c0
 go_loopw [21] (fun j wr=>∃ k:Nat,k≤n∧j = .int .i64 k∧Hid (Oi w3 gu gs n k wr)) (fun j _=>n-(intOf j).toNat)
 case atStart=>exact ⟨0,Nat.zero_le _,rfl,HI3⟩
 case round =>
  clear HI3;obtain ⟨k,hk,rfl,HI⟩:=hrel;obtain ⟨wo,rfl⟩:∃ wo:World,wo=wr:=⟨_,rfl⟩;obtain ⟨⟨up,hl,hU,hu⟩,hO⟩:=HI.out;have c0:=hU.cu;rw [hl] at c0;have lu:=lt_of_cell c0
  by_cases hlt:k<n
  ·have hlt' : (k : Int) < (n : Int) := by omega
   have hwk:IntKind.i64.wrap ((k:Int)+1)=(k:Int)+1:=IntWalk.i64_in _ (by omega);have ck:=hU.cs k (by omega);have cf:=hU.fr;have ls:=lt_of_cell ck
   have HI2:Hid (Oi w3 gu gs n (k+1) (wo.setCell ⟨gs,k,none⟩ (.int .i64 (k:Nat)))):=hid ⟨⟨_,by rw [List.length_set];exact hl,hU.set (by omega) k,fun j hj=>by
    rw [jI (by omega)]
    by_cases e:j=k
    ·rw [if_pos e,e]
    ·rw [if_neg e]
     exact hu j (by omega)⟩,hO.setCell (p:=⟨gs,k,none⟩) (.inr rfl) _⟩
   clear hl hU hu hO HI;go_wp2;go_roundw
   case rel=>exact ⟨k+1,hlt,by go_num,HI2⟩
   case measure=>simp [intOf];omega
  ·have hke : n = k := by omega
   subst hke;obtain ⟨gr,hgr⟩:∃ x,x=wo.heap.size:=⟨_,rfl⟩;obtain ⟨w4,hw4⟩:∃ x,x=wo.alloc (.cells #[.func (.func 109) #[] #[.pointer (some ⟨gu,0,none⟩)]] 80):=⟨_,rfl⟩;have hb4:Below wo.heap.size wo w4:=by rw [hw4];exact (Below.refl _ _).alloc (Nat.le_refl _) _
   have e:=JN hl hu;subst e;have HR4:Hid (qG w4 gu gs n (qF (GN L) ([]:List (Nat × Nat))) (fun _=>False) w4):=hid ⟨⟨_,hl,hU.out (Out.below (D:=fun _=>False) hb4) (fun q=>q) (fun q=>q),EB.new n,fun _ q=>q.elim⟩,Out.refl _ _⟩;have HO4:Hid (Out (fun k=>k=gs) w3 w4):=hid (hO.trans (Out.below (D:=fun _=>False) hb4) (fun i _ q=>q.elim));have HB4:Hid (Below w.heap.size w w4):=hid (qA HB3.out (Nat.le_refl _) HO4.out (fun k hk=>by rw [hk];exact HG.out.2.2.2.1));have HCR4:Hid (w4.cell? ⟨gr,0,none⟩=some (.func (.func 109) #[] #[.pointer (some ⟨gu,0,none⟩)])):=hid (by rw [hw4,hgr];go_simp);have HCL4:Hid (w4.cell? ⟨gl,0,none⟩=some (.slice A n c)):=hid (HO4.out.cell HCL.out HG.out.1);have HGR:Hid (gr≠gs):=hid (by have:=HO4.out.size;have:=hU.lt;show ¬ _;omega);have hst:∀ (a:Addr) (w:World),(store a (.func (.func 109) #[] #[.pointer (some ⟨gu,0,none⟩)])).run Tryz.prog w=stored Tryz.prog w a (.func (.func 109) #[] #[.pointer (some ⟨gu,0,none⟩)]) .plain:=fun a w=>run_store _ w a _ _ rfl
   go_upto_region 10 with fail
   rw [← hw4,← hgr];clear hw4 hgr hb4 hl hU hu hO HI hst c0 lu hlt hk
   have HJN:Hid (∀ i,i<n→∃ bl off,A=some ⟨bl,off,none⟩∧O1 w4 gl gr gu gs n bl off c (GN L)):=hid (fun i hi=>by
    obtain ⟨bl,off,hA,hC0⟩:=HS.out.sl.at_ (by intro q;rw [HNL.out,q] at hi;simp at hi);have hlt:=hC0.lt;have hC:=hC0.below HB4.out;have hge:=HG.out.2.2.2.1;refine ⟨bl,off,hA,by rw [← hA];exact HCL4.out,HCR4.out,fun j hj=>?_,HG.out.1,HGR.out,by omega⟩;have hj':j<L.length:=by rw [← HNL.out];exact hj
    refine ⟨L[j].b.mass,hC.at_ j hj' 6 _ rfl,?_⟩;unfold GN;rw [List.getElem?_eq_getElem hj']
    simp)
   go_loopw [33] (fun j wr=>∃ k:Nat,k≤Jl.length∧j = .int .i64 k∧Hid (qG w4 gu gs n (qF (GN L) (pz (Jl.take k))) (fun _=>False) wr)) (fun j _=>Jl.length-(intOf j).toNat)
   case atStart=>exact ⟨0,Nat.zero_le _,rfl,HR4⟩
   case round =>
    clear HR4;obtain ⟨k,hk,rfl,HR⟩:=hrel;obtain ⟨wo,rfl⟩:∃ wo:World,wo=wr:=⟨_,rfl⟩
    by_cases hlt:k<Jl.length
    ·have hlt' : (k : Int) < (Jl.length : Int) := by omega
     have hwk:IntKind.i64.wrap ((k:Int)+1)=(k:Int)+1:=IntWalk.i64_in _ (by omega);have hB:Below w.heap.size w wo:=qA HB4.out (Nat.le_refl _) HR.out.out (fun k hk=>by rw [hk];exact HG.out.2.2.2.1);obtain ⟨bl,off,hA,hC⟩:=(HJ.out.below hB).at_ (by intro q;rw [q] at hlt;simp at hlt);subst hA;obtain ⟨x,hx⟩:∃ x,x=Jl[k]:=⟨_,rfl⟩;obtain ⟨d0,d1,d2,d3,d4,d5,d6⟩:=yB hC hlt hx;obtain ⟨r1,r2,r3,r4⟩:=HJR.out x (by rw [hx];exact List.getElem_mem _);obtain ⟨ia,hia⟩:∃ i:Nat,(i:Int)=x.a:=⟨x.a.toNat,by omega⟩;obtain ⟨ib,hib⟩:∃ i:Nat,(i:Int)=x.b:=⟨x.b.toNat,by omega⟩
     have HT:Hid (pz (Jl.take (k+1))=(pz (Jl.take k)) ++ [(ia,ib)]):=hid (by
      have e1:x.a.toNat=ia:=by omega
      have e2:x.b.toNat=ib:=by omega
      rw [List.take_add_one,List.getElem?_eq_getElem hlt,← hx];unfold pz
      simp [e1,e2])
     have ha:ia<n:=by omega
     have hb:ib<n:=by omega
     rw [← hia] at d0;rw [← hib] at d1;have ld:=lt_of_cell d0;obtain ⟨w5,hw5⟩:∃ y,y=wo.alloc (.cells #[.int .i64 (ia:Nat),.int .i64 (ib:Nat),.int .i64 x.p1,.int .i64 x.p2,.int .i64 x.q1,.int .i64 x.q2,.int .i64 x.len] 37):=⟨_,rfl⟩;obtain ⟨g5,hg5⟩:∃ y,y=wo.heap.size:=⟨_,rfl⟩;have hb5:Below wo.heap.size wo w5:=by rw [hw5];exact (Below.refl _ _).alloc (Nat.le_refl _) _
     have e0:w5.cell? ⟨g5,0,none⟩=some (.int .i64 (ia:Nat)):=by rw [hw5,hg5];go_simp
     have e1:w5.cell? ⟨g5,1,none⟩=some (.int .i64 (ib:Nat)):=by rw [hw5,hg5];go_simp
     have HR5:=hid (HR.out.keep hb5);obtain ⟨bl2,off2,-,hjn⟩:=HJN.out ia ha;have HP:=hid (uY (hjn.out HR5.out.out) HR5.out.here ha hb hcap hn);clear hB hC hx hia hib r1 r2 r3 r4 hjn hb5 HR ha hb
     go_upto_region 12 with fail
     rw [← hw5,← hg5];clear hw5 hg5 ld d0 d1 d2 d3 d4 d5 d6;have le:=lt_of_cell e0
     go_wp2_with fail
     refine HP.out.mono ?_;rintro e w6 ⟨rfl,hR⟩;have HR6:=hid (HR5.out.then hR);rw [← uT,← HT.out] at HR6;clear hR HR5 HP HT e0 e1 le;go_wp2;go_roundw
     case rel=>exact ⟨k+1,hlt,by go_num,HR6⟩
     case measure=>simp [intOf];omega
    ·have hke : k = Jl.length := by omega
     subst hke;rw [List.take_length] at HR
     have HR4:Hid (qG w4 gu gs n (qF (GN L) (pz Jl ++ tC (Cl.take 0))) (fun _=>False) wo):=hid (by
      rw [show pz Jl ++ tC (Cl.take 0)=pz Jl from List.append_nil _]
      exact HR.out)
     clear HR hlt hk
     go_upto_region 15 with fail
     go_loopw [46] (fun j wr=>∃ k:Nat,k≤Cl.length∧j = .int .i64 k∧Hid (qG w4 gu gs n (qF (GN L) (pz Jl ++ tC (Cl.take k))) (fun _=>False) wr)) (fun j _=>Cl.length-(intOf j).toNat)
     case atStart=>exact ⟨0,Nat.zero_le _,rfl,HR4⟩
     case round =>
      clear HR4;obtain ⟨k,hk,rfl,HR⟩:=hrel;obtain ⟨wo,rfl⟩:∃ wo:World,wo=wr:=⟨_,rfl⟩
      by_cases hlt:k<Cl.length
      ·have hlt' : (k : Int) < (Cl.length : Int) := by omega
       have hwk:IntKind.i64.wrap ((k:Int)+1)=(k:Int)+1:=IntWalk.i64_in _ (by omega);have hB:Below w.heap.size w wo:=qA HB4.out (Nat.le_refl _) HR.out.out (fun k hk=>by rw [hk];exact HG.out.2.2.2.1);obtain ⟨bl,off,hA,hC⟩:=(HC.out.below hB).at_ (by intro q;rw [q] at hlt;simp at hlt);subst hA;obtain ⟨x,hx⟩:∃ x,x=Cl[k]:=⟨_,rfl⟩;obtain ⟨d0,d1,d2,d3,d4,d5,d6,d7,d8,d9⟩:=kr hC hlt hx;obtain ⟨r1,r2,r3,r4⟩:=HCR.out x (by rw [hx];exact List.getElem_mem _);obtain ⟨ia,hia⟩:∃ i:Nat,(i:Int)=x.a:=⟨x.a.toNat,by omega⟩;obtain ⟨ib,hib⟩:∃ i:Nat,(i:Int)=x.b:=⟨x.b.toNat,by omega⟩
       have HT:Hid (pz Jl ++ tC (Cl.take (k+1))=(pz Jl ++ tC (Cl.take k)) ++ [(ia,ib)]):=hid (by
        have e1:x.a.toNat=ia:=by omega
        have e2:x.b.toNat=ib:=by omega
        rw [List.take_add_one,List.getElem?_eq_getElem hlt,← hx];unfold tC
        simp [e1,e2])
       have ha:ia<n:=by omega
       have hb:ib<n:=by omega
       rw [← hia] at d0;rw [← hib] at d1;have ld:=lt_of_cell d0;obtain ⟨w5,hw5⟩:∃ y,y=wo.alloc (.cells #[.int .i64 (ia:Nat),.int .i64 (ib:Nat),.int .i64 x.id,.int .i64 x.px,.int .i64 x.py,.int .i64 x.nx,.int .i64 x.ny,.int .i64 x.dep,.int .i64 x.push,.int .i64 x.sli] 106):=⟨_,rfl⟩;obtain ⟨g5,hg5⟩:∃ y,y=wo.heap.size:=⟨_,rfl⟩;have hb5:Below wo.heap.size wo w5:=by rw [hw5];exact (Below.refl _ _).alloc (Nat.le_refl _) _
       have e0:w5.cell? ⟨g5,0,none⟩=some (.int .i64 (ia:Nat)):=by rw [hw5,hg5];go_simp
       have e1:w5.cell? ⟨g5,1,none⟩=some (.int .i64 (ib:Nat)):=by rw [hw5,hg5];go_simp
       have HR5:=hid (HR.out.keep hb5);obtain ⟨bl2,off2,-,hjn⟩:=HJN.out ia ha;have HP:=hid (uY (hjn.out HR5.out.out) HR5.out.here ha hb hcap hn);clear hB hC hx hia hib r1 r2 r3 r4 hjn hb5 HR ha hb
       go_upto_region 17 with fail
       rw [← hw5,← hg5];clear hw5 hg5 ld d0 d1 d2 d3 d4 d5 d6 d7 d8 d9;have le:=lt_of_cell e0
       go_wp2_with fail
       refine HP.out.mono ?_;rintro e w6 ⟨rfl,hR⟩;have HR6:=hid (HR5.out.then hR);rw [← uT,← HT.out] at HR6;clear hR HR5 HP HT e0 e1 le;go_wp2;go_roundw
       case rel=>exact ⟨k+1,hlt,by go_num,HR6⟩
       case measure=>simp [intOf];omega
      ·have hke : k = Cl.length := by omega
       subst hke;rw [List.take_length] at HR;obtain ⟨f,hf⟩:∃ f,f=qF (GN L) (pz Jl ++ tC Cl):=⟨_,rfl⟩;rw [← hf] at HR;have HFE:=hid hf;clear hf
       have c0:wo.cell? ⟨gu,0,none⟩=some (.slice (some ⟨gs,0,none⟩) n n):=by
        obtain ⟨up,hl,hU,-⟩:=HR.out.ex;have:=hU.cu;rwa [hl] at this
       have HR7:Hid (qG w4 gu gs n f (fun q=>q<0) wo):=hid (by
        obtain ⟨up,hl,hU,hf,-⟩:=HR.out.ex
        exact ⟨⟨up,hl,hU,hf,fun q hq=>absurd hq (by omega)⟩,HR.out.out⟩)
       go_upto_region 20 with fail
       clear c0 HR
       go_loopw [59] (fun j wr=>∃ k:Nat,k≤n∧j = .int .i64 k∧Hid (qG w4 gu gs n f (fun q=>q<k) wr)) (fun j _=>n-(intOf j).toNat)
       case atStart=>exact ⟨0,Nat.zero_le _,rfl,HR7⟩
       case round =>
        clear HR7;obtain ⟨k,hk,rfl,HR⟩:=hrel;obtain ⟨wo,rfl⟩:∃ wo:World,wo=wr:=⟨_,rfl⟩
        have c0:wo.cell? ⟨gu,0,none⟩=some (.slice (some ⟨gs,0,none⟩) n n):=by
         obtain ⟨up,hl,hU,-⟩:=HR.out.ex;have:=hU.cu;rwa [hl] at this
        by_cases hlt:k<n
        ·have hlt' : (k : Int) < (n : Int) := by omega
         have hwk:IntKind.i64.wrap ((k:Int)+1)=(k:Int)+1:=IntWalk.i64_in _ (by omega);have HKN:=hid hlt;have C0:=hid c0;have CR:=hid (HR.out.out.cell HCR4.out HGR.out);have HN1:Hid (¬ gu=gs):=hid (fun q=>HG.out.2.2.1 q.symm);have HN2:Hid (¬ gr=gs):=HGR;clear c0
         go_upto_region 22 with fail
         refine wp_region_noPanic ?_;refine au (S:=(S2 (fun w'=>w'.cell? ⟨gu,0,none⟩=some (.slice (some ⟨gs,0,none⟩) n n)∧w'.cell? ⟨gr,0,none⟩=some (.func (.func 109) #[] #[.pointer (some ⟨gu,0,none⟩)])∧qG w4 gu gs n f (fun q=>q<k) w'))) (T:=(fun j=>[0,0,0,0,0,0,1].getD j 0)) (by kernel_rfl) (aC ⟨C0.out,CR.out,HR.out.keep ((Below.refl _ _).drew)⟩) (fun hH=>?_);have hWr3:aH (S2 (fun w'=>w'.cell? ⟨gu,0,none⟩=some (.slice (some ⟨gs,0,none⟩) n n)∧w'.cell? ⟨gr,0,none⟩=some (.func (.func 109) #[] #[.pointer (some ⟨gu,0,none⟩)])∧qG w4 gu gs n f (fun q=>q<k) w')):=aK _;refine dn [(0,62),(1,63),(2,64),(3,65)] 3 0 0 (L':=?Lr3_1) hWr3 hH ?yr3_1 ?_
         case yr3_1=>((iterate 4 apply dA;rfl;kernel_rfl;intro w' hSw;replace hSw:=aA hSw;(try dsimp only at hSw);have q0:=hSw.1;have q1:=hSw.2.1;have q2:=hSw.2.2;(try simp only [sB,sC]);go_simp;(try with_reducible rfl));exact dw)
         simp only [sB,sC];refine U1 4 0 rfl (fun K hK=>?_);have hG:=hH;replace hG:=aA hG;(try dsimp only at hG);have q0:=hG.1;have q1:=hG.2.1;have q2:=hG.2.2;go_simp
         (go_at_call 109;refine (pR (qG.here q2) HKN.out).mono ?_;rintro e wn ⟨rfl,hR⟩)
         refine hK.out _ _ (aC ⟨hR.out.cell q0 HN1.out,hR.out.cell q1 HN2.out,q2.then hR⟩) (fun hH2=>?_);clear hK K hH
         rename _=>hH
         try simp only [Act.put,sA,sB,sC]
         have HRN:=hid (q2.then hR);clear hG q0 q1 q2 hR;refine Ut 5 67 1 0 0 (v:=?vr3_6) rfl hWr3 hH ?yr3_6 ?_
         case yr3_6=>(intro w' hSw;clear hSw;go_simp;try (with_reducible rfl))
         simp only [sB,sC];refine U1 6 1 rfl (fun K hK=>?_);have hG:=hH;replace hG:=aA hG;(try dsimp only at hG);have q0:=hG.1;have q1:=hG.2.1;have q2:=hG.2.2;obtain ⟨up,hl,hU,hf,hP⟩:=q2.ex;have ck:=hU.cs k (by rw [hl];exact HKN.out);have cf:=hU.fr;go_simp;refine hK.out _ _ (dY) (fun hH2=>?_);clear hK K hH
         rename _=>hH
         try simp only [Act.put,sA,sB,sC]
         clear hG q0 q1 q2 hU hf hP hl ck cf;refine ak (by kernel_rfl) ?_ _ _;refine NoPanic.normal ?_;clear hWr3 hH
         have HR8:Hid (∀ u,u=f k→qG w4 gu gs n f (fun q=>q<k+1) (wn.setCell ⟨gs,k,none⟩ (.int .i64 (u:Nat)))):=hid (fun u hu=>by
          subst hu;obtain ⟨up,hl,hU,hf,hP⟩:=HRN.out.ex;have hi:k<up.length:=by rw [hl];exact HKN.out
          exact ⟨⟨_,by rw [List.length_set];exact hl,hU.set hi _,hf.put hi,fun j hj=>by
           rw [jI hi]
           by_cases e:j=k
           ·rw [if_pos e,e]
           ·rw [if_neg e]
            exact hP j (by omega)⟩,HRN.out.out.setCell (p:=⟨gs,k,none⟩) (.inr rfl) _⟩)
         clear HRN C0 CR HN1 HN2 HR;replace HR8:=hid (HR8.out (f k) rfl);generalize hwB:World.setCell _ _ _=wB at *
         clear hwB;go_wp2;go_roundw
         case rel=>exact ⟨k+1,hlt,by go_num,HR8⟩
         case measure=>simp [intOf];omega
        ·have hke : n = k := by omega
         subst hke;obtain ⟨up,hl,hU,hf,hP⟩:=HR.out.ex
         have HC7:Hid (aJ fq wo gs 0 ((List.range n).map f)):=hid ⟨hU.lt,fun j hj i v hv=>by
          have hj2:j<n:=by simpa using hj
          match i,hv with
          | 0,hv =>
           have h1:=hU.cs j (by omega);rw [hP j hj2] at h1;have e:v = .int .i64 (f j:Nat):=by simpa [fq] using hv.symm
           rw [e];simpa [fq] using h1
          | i+1,hv=>simp [fq] at hv⟩
         have HF7:=hid hU.fr;have HB7:Hid (Below w.heap.size w wo):=hid (qA HB4.out (Nat.le_refl _) HR.out.out (fun k hk=>by rw [hk];exact HG.out.2.2.2.1));have lu:=lt_of_cell c0;clear hl hU hf hP HR;go_wp2
         go_returns
         exact ⟨gs,by simp,HG.out.2.2.2.1,by rw [← HFE.out];exact HC7.out,HF7.out,HB7.out⟩
end
end Go.Proofs.YtokgmcomgflloaaGreat
