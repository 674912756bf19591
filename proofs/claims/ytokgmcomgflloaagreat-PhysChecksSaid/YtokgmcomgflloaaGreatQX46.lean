/- Parts of a proof: contracts and laws. -/
import Derived.Test.YtokgmcomgflloaaGreatQX32
import Derived.Test.YtokgmcomgflloaaGreatQX30
import Derived.Test.YtokgmcomgflloaaGreatQX43
import Derived.Test.YtokgmcomgflloaaGreatQX26
import Derived.Test.YtokgmcomgflloaaGreatQX23
import Derived.Test.YtokgmcomgflloaaGreatQX04
set_option maxRecDepth 100000
set_option maxHeartbeats 16000000
namespace Go.Proofs.YtokgmcomgflloaaGreat
section
set_option linter.unusedVariables false
set_option linter.unusedSimpArgs false
open Go.RowKit
variable {w0 w w':World}

structure BD (w0 : World) (gs n : Nat) (o : Nat → Nat) (wr : World) : Prop where
 c:∀ j,j<n→wr.cell? ⟨gs,j,none⟩=some (.int .i64 (o j:Nat))
 f:∀ j,wr.frozen? ⟨gs,j,none⟩=false
 lt:gs<wr.heap.size
 le:w0.heap.size≤gs
 bel:Below w0.heap.size w0 wr
theorem BD.keep {gs n:Nat} {o:Nat→Nat} {wr w':World} (hb:Below wr.heap.size wr w') (h:BD w0 gs n o wr):BD w0 gs n o w' :=
 ⟨fun j hj=>keepCell hb (h.c j hj),fun j=>(World.frozen?_of_block (hb.block _ h.lt)).trans (h.f j),Nat.lt_of_lt_of_le h.lt hb.size,h.le,ah hb h.bel⟩
theorem BD.set {gs n:Nat} {o:Nat→Nat} {wr:World} (h:BD w0 gs n o wr) (k v:Nat) (hk:k<n):BD w0 gs n (fun j=>if j=k then v else o j) (wr.setCell ⟨gs,k,none⟩ (.int .i64 (v:Nat))):=by
 refine ⟨fun j hj=>?_,dL h.f _ _,by rw [World.size_setCell];exact h.lt,h.le,h.bel.setCell (p:=⟨gs,k,none⟩) h.le _⟩
 by_cases e:j=k
 ·subst e;simp only [if_true];exact jh (h.c j hj)
 ·rw [if_neg e];exact dS (h.c j hj) (by omega)
theorem BD.eq {gs n:Nat} {o o':Nat→Nat} {wr:World} (h:BD w0 gs n o wr) (e:∀ j,j<n→o' j=o j):BD w0 gs n o' wr:=⟨fun j hj=>by rw [e j hj];exact h.c j hj,h.f,h.lt,h.le,h.bel⟩

structure ql (w0 : World) (gs n : Nat) (o : Nat → Nat) (s : Value) (P : List (Nat × Nat)) (wr : World) : Prop where
 own:aN aZ 72 wr (gs+1) s P
 gr:BD w0 gs n o wr
theorem ql.keep {gs n:Nat} {o:Nat→Nat} {s:Value} {P:List (Nat × Nat)} {wr w':World} (hb:Below wr.heap.size wr w') (h:ql w0 gs n o s P wr):ql w0 gs n o s P w':=⟨h.own.below hb,h.gr.keep hb⟩
theorem ql.app {gs n:Nat} {o:Nat→Nat} {s s':Value} {P P':List (Nat × Nat)} {wa w':World} (h:ql w0 gs n o s P wa) (ho:aN aZ 72 w' (gs+1) s' P') (hg:wa.grownBy w' s.ownBlock):ql w0 gs n o s' P' w':=by
 have hne:some gs≠s.ownBlock:=fun e=>by have:=(h.own.lt e.symm).1;omega
 exact ⟨ho,fun j hj=>hg.cell (h.gr.c j hj) hne,fun j=>(World.frozen?_of_block (hg.block gs h.gr.lt hne)).trans (h.gr.f j),Nat.lt_of_lt_of_le h.gr.lt hg.size,h.gr.le,h.gr.bel.grown hg h.gr.bel.size (fun k hk=>by have:=(h.own.lt hk).1;have:=h.gr.le;omega)⟩
theorem ql.put2 {gs n:Nat} {o:Nat→Nat} {s:Value} {P:List (Nat × Nat)} {wr:World} (h:ql w0 gs n o s P wr) {ia ib:Nat} (ha:ia<n) (hb:ib<n) (lo:Nat):ql w0 gs n (fun j=>if j=ia∨j=ib then lo else o j) s P ((wr.setCell ⟨gs,ia,none⟩ (.int .i64 (lo:Nat))).setCell ⟨gs,ib,none⟩ (.int .i64 (lo:Nat))):=by
 have hn:∀ k,s.ownBlock=some k→k≠gs:=fun k hk=>by have:=(h.own.lt hk).1;omega
 refine ⟨(h.own.off hn _ _).off hn _ _,((h.gr.set ia lo ha).set ib lo hb).eq (fun j hj=>?_)⟩
 by_cases e1:j=ib
 ·rw [if_pos (.inr e1),if_pos e1]
 ·by_cases e2 : j = ia
  ·rw [if_pos (.inl e2),if_neg e1,if_pos e2]
  ·rw [if_neg (by omega),if_neg e1,if_neg e2]
theorem sP {w : World} {A Aj Ac : Option Addr} {n c nj cj nc cc : Nat} {L : List BE} {Jl : List Jt} {Cl : List Ct} (hS : iE w A n c L) (hJ : dD gV w Aj nj cj Jl) (hC : dD dH w Ac nc cc Cl)
  (hjr:∀ x ∈ Jl,0≤x.a∧x.a<x.b∧x.b<(n:Int)) (hcr:∀ x ∈ Cl,0≤x.a∧x.a<x.b∧x.b<(n:Int)) (hn:n≤1000) (hmm:∀ x ∈ L,0≤x.b.mass) (hjl:Jl.length≤100000) (hcl:Cl.length≤100000) :
  Calls Tryz.prog 26 #[.slice A n c,.slice Aj nj cj,.slice Ac nc cc] w (fun e w'=>∃ gs,e = .returned (.slice (some ⟨gs,0,none⟩) n n)∧BD w gs n (iC (jv L) (dM Jl ++ fV Cl)) w'):=by
 have hnn:=hS.sl.len;subst hnn;have hnj:=hJ.len;subst hnj;have hnc:=hC.len;subst hnc;have hbj:=hJ.big;have hbc:=hC.big;have hpj:=hJ.cap;have hpc:=hC.cap;have hcap:=hS.sl.cap;obtain ⟨n,hnl⟩:∃ n,n=L.length:=⟨_,rfl⟩;rw [← hnl] at hS hjr hcr hn hcap ⊢;obtain ⟨rep,hrep⟩:∃ x,x=(List.replicate n (Value.int .i64 0)).toArray:=⟨_,rfl⟩;have hmk:∀ w:World,(Instr.makeSlice 45 (.int .i64 (n:Int)) (.int .i64 (n:Int))).run Tryz.prog w = .ok (.slice (some ⟨w.heap.size,0,none⟩) n n) (w.alloc (.cells rep 3)):=fun w=>by rw [hrep];exact mJ n (by omega) w
 obtain ⟨gs,hgs⟩:∃ x,x=w.heap.size:=⟨_,rfl⟩;obtain ⟨w1,hw1⟩:∃ x,x=w.alloc (.cells rep 3):=⟨_,rfl⟩;have hb1:Below w.heap.size w w1:=by rw [hw1];exact (Below.refl _ _).alloc (Nat.le_refl _) _
 have hq1:w1.heap[gs]? = some (.cells rep 3):=by rw [hw1,hgs];exact heap_alloc_new w _
 have HG1:Hid (BD w gs n (fun _=>0) w1):=hid ⟨fun j hj=>by
   unfold World.cell?
   rw [hq1,hrep];show (List.replicate n (Value.int .i64 0)).toArray[j]? = _;rw [List.getElem?_toArray,List.getElem?_replicate,if_pos hj]
   rfl,fun j=>by unfold World.frozen?;rw [hq1];simp,(Array.getElem?_eq_some_iff.1 hq1).1,by omega,hb1⟩
 have HS:=hid hS;have HJ:=hid hJ;have HC:=hid hC;have HJR:=hid hjr;have HMM:=hid hmm;have HCR:=hid hcr;have HNL:=hid hnl;clear hS hJ hC hjr hcr hmm hnl hrep hb1 hq1
 go_enter Tryz.func26,Tryz.ntmps26
 go_upto_region 2 with fail
 rw [← hgs,← hw1];clear hgs hw1 hmk;go_wp2
 go_loopw [22] (fun j wr=>∃ k:Nat,k≤n∧j = .int .i64 k∧Hid (BD w gs n (fun j=>if j<k then j else 0) wr)) (fun j _=>n-(intOf j).toNat)
 case atStart=>exact ⟨0,Nat.zero_le _,rfl,hid (HG1.out.eq (fun j hj=>by simp))⟩
 case round =>
  clear HG1;obtain ⟨k,hk,rfl,HK⟩:=hrel;obtain ⟨wo,rfl⟩:∃ wo:World,wo=wr:=⟨_,rfl⟩
  by_cases hlt:k<n
  ·have hlt' : (k : Int) < (n : Int) := by omega
   have hwk:IntKind.i64.wrap ((k:Int)+1)=(k:Int)+1:=IntWalk.i64_in _ (by omega);have ck:=HK.out.c k hlt;have cf:=HK.out.f;have ls:=HK.out.lt
   have HN:=hid ((HK.out.set k k hlt).eq (o':=fun j=>if j<k+1 then j else 0) (fun j hj=>by
    by_cases e:j=k
    ·rw [if_pos e,if_pos (by omega),e]
    ·rw [if_neg e]
     by_cases g:j<k
     ·rw [if_pos g,if_pos (by omega)]
     ·rw [if_neg g,if_neg (by omega)]))
   clear HK;go_wp2;go_roundw
   case rel=>exact ⟨k+1,hlt,by go_num,HN⟩
   case measure=>simp [intOf];omega
  ·have HG2 := hid (HK.out.eq (o' := id) (fun j hj => by rw [if_pos (by omega)]; rfl));have HL0:Hid (ql w gs n id (.slice none 0 0) (dM (Jl.take 0)) wo):=hid ⟨aN.nil _ _ _ _,HG2.out⟩;clear HK HG2;go_wp2
   go_loopw [9,32] (fun s j wr=>∃ k:Nat,k≤Jl.length∧j = .int .i64 k∧Hid (ql w gs n id s (dM (Jl.take k)) wr)) (fun _ j _=>Jl.length-(intOf j).toNat)
   case atStart=>exact ⟨0,Nat.zero_le _,rfl,HL0⟩
   case round =>
    clear HL0;obtain ⟨k,hk,rfl,HK⟩:=hrel;obtain ⟨wo,rfl⟩:∃ wo:World,wo=wr:=⟨_,rfl⟩
    by_cases hlt:k<Jl.length
    ·have hlt' : (k : Int) < (Jl.length : Int) := by omega
     have hwk:IntKind.i64.wrap ((k:Int)+1)=(k:Int)+1:=IntWalk.i64_in _ (by omega);obtain ⟨bl,off,hA,hC⟩:=(HJ.out.below HK.out.gr.bel).at_ (by intro q;rw [q] at hlt;simp at hlt);subst hA;obtain ⟨x,hx⟩:∃ x,x=Jl[k]:=⟨_,rfl⟩;obtain ⟨d0,d1,d2,d3,d4,d5,d6⟩:=nE hC hlt hx;obtain ⟨r1,r2,r3⟩:=HJR.out x (by rw [hx];exact List.getElem_mem _);obtain ⟨ia,hia⟩:∃ i:Nat,(i:Int)=x.a:=⟨x.a.toNat,by omega⟩;obtain ⟨ib,hib⟩:∃ i:Nat,(i:Int)=x.b:=⟨x.b.toNat,by omega⟩
     have HT:Hid (dM (Jl.take (k+1))=(dM (Jl.take k)) ++ [(ia,ib)]):=hid (by
      have e1:x.a.toNat=ia:=by omega
      have e2:x.b.toNat=ib:=by omega
      rw [List.take_add_one,List.getElem?_eq_getElem hlt,← hx];unfold dM
      simp [e1,e2])
     have HTL:Hid ((dM (Jl.take k)).length≤200000):=hid (by unfold dM;simp;omega);rw [← hia] at d0;rw [← hib] at d1;have ld:=lt_of_cell d0;obtain ⟨w5,hw5⟩:∃ y,y=wo.alloc (.cells #[.int .i64 (ia:Nat),.int .i64 (ib:Nat),.int .i64 x.p1,.int .i64 x.p2,.int .i64 x.q1,.int .i64 x.q2,.int .i64 x.len] 37):=⟨_,rfl⟩;obtain ⟨g5,hg5⟩:∃ y,y=wo.heap.size:=⟨_,rfl⟩;have hb5:Below wo.heap.size wo w5:=by rw [hw5];exact (Below.refl _ _).alloc (Nat.le_refl _) _
     have e0:w5.cell? ⟨g5,0,none⟩=some (.int .i64 (ia:Nat)):=by rw [hw5,hg5];go_simp
     have e1:w5.cell? ⟨g5,1,none⟩=some (.int .i64 (ib:Nat)):=by rw [hw5,hg5];go_simp
     have HP:=hid (HK.out.keep hb5);generalize dM (Jl.take k)=P at *
     clear hC hx hia hib r1 r2 r3 hb5 HK
     go_upto_region 11 with fail
     rw [← hw5,← hg5];clear hw5 hg5 ld d0 d1 d2 d3 d4 d5 d6;have le:=lt_of_cell e0
     go_wp2_with (at_builtin;refine dG zT rfl _ _ rfl (gs+1) _ _ rfl (HP.out.own.alloc _) w5.heap.size 0 1 1 [(ia,ib)] rfl rfl (mX (by go_simp) (by go_simp)) (by have:=HTL.out;simp;omega) (by have:=HTL.out;simp;omega) (by have:=HP.out.gr.lt;simp;omega) ?_;intro v' w7 ho1 hg1 hat;have HP7:=hid ((HP.out.keep Ba).app ho1 hg1);clear ho1 hg1 hat)
     clear HP e0 e1 le;go_roundw
     case rel=>exact ⟨k+1,hlt,by go_num,by rw [HT.out];exact HP7⟩
     case measure=>simp [intOf];omega
    ·obtain rfl : k = Jl.length := by omega
     rw [List.take_length] at HK
     have HL1:Hid (ql w gs n id _ (dM Jl ++ fV (Cl.take 0)) wo):=hid (by
      rw [show dM Jl ++ fV (Cl.take 0)=dM Jl from List.append_nil _]
      exact HK.out)
     clear HK hlt hk;go_wp2
     go_loopw [9,47] (fun s j wr=>∃ k:Nat,k≤Cl.length∧j = .int .i64 k∧Hid (ql w gs n id s (dM Jl ++ fV (Cl.take k)) wr)) (fun _ j _=>Cl.length-(intOf j).toNat)
     case atStart=>exact ⟨0,Nat.zero_le _,rfl,HL1⟩
     case round =>
      clear HL1;obtain ⟨k,hk,rfl,HK⟩:=hrel;obtain ⟨wo,rfl⟩:∃ wo:World,wo=wr:=⟨_,rfl⟩
      by_cases hlt:k<Cl.length
      ·have hlt' : (k : Int) < (Cl.length : Int) := by omega
       have hwk:IntKind.i64.wrap ((k:Int)+1)=(k:Int)+1:=IntWalk.i64_in _ (by omega);obtain ⟨bl,off,hA,hC⟩:=(HC.out.below HK.out.gr.bel).at_ (by intro q;rw [q] at hlt;simp at hlt);subst hA;obtain ⟨x,hx⟩:∃ x,x=Cl[k]:=⟨_,rfl⟩;obtain ⟨d0,d1,d2,d3,d4,d5,d6,d7,d8,d9⟩:=iO hC hlt hx;obtain ⟨r1,r2,r3⟩:=HCR.out x (by rw [hx];exact List.getElem_mem _);obtain ⟨ia,hia⟩:∃ i:Nat,(i:Int)=x.a:=⟨x.a.toNat,by omega⟩;obtain ⟨ib,hib⟩:∃ i:Nat,(i:Int)=x.b:=⟨x.b.toNat,by omega⟩
       have HT:Hid (dM Jl ++ fV (Cl.take (k+1))=(dM Jl ++ fV (Cl.take k)) ++ [(ia,ib)]):=hid (by
        have e1:x.a.toNat=ia:=by omega
        have e2:x.b.toNat=ib:=by omega
        rw [List.take_add_one,List.getElem?_eq_getElem hlt,← hx];unfold fV
        simp [e1,e2])
       have HTL:Hid ((dM Jl ++ fV (Cl.take k)).length≤200000):=hid (by unfold dM fV;simp;omega);rw [← hia] at d0;rw [← hib] at d1;have ld:=lt_of_cell d0;obtain ⟨w5,hw5⟩:∃ y,y=wo.alloc (.cells #[.int .i64 (ia:Nat),.int .i64 (ib:Nat),.int .i64 x.id,.int .i64 x.px,.int .i64 x.py,.int .i64 x.nx,.int .i64 x.ny,.int .i64 x.dep,.int .i64 x.push,.int .i64 x.sli] 106):=⟨_,rfl⟩;obtain ⟨g5,hg5⟩:∃ y,y=wo.heap.size:=⟨_,rfl⟩;have hb5:Below wo.heap.size wo w5:=by rw [hw5];exact (Below.refl _ _).alloc (Nat.le_refl _) _
       have e0:w5.cell? ⟨g5,0,none⟩=some (.int .i64 (ia:Nat)):=by rw [hw5,hg5];go_simp
       have e1:w5.cell? ⟨g5,1,none⟩=some (.int .i64 (ib:Nat)):=by rw [hw5,hg5];go_simp
       have HP:=hid (HK.out.keep hb5);generalize dM Jl ++ fV (Cl.take k)=P at *
       clear hC hx hia hib r1 r2 r3 hb5 HK
       go_upto_region 16 with fail
       rw [← hw5,← hg5];clear hw5 hg5 ld d0 d1 d2 d3 d4 d5 d6 d7 d8 d9;have le:=lt_of_cell e0
       go_wp2_with (at_builtin;refine dG zT rfl _ _ rfl (gs+1) _ _ rfl (HP.out.own.alloc _) w5.heap.size 0 1 1 [(ia,ib)] rfl rfl (mX (by go_simp) (by go_simp)) (by have:=HTL.out;simp;omega) (by have:=HTL.out;simp;omega) (by have:=HP.out.gr.lt;simp;omega) ?_;intro v' w7 ho1 hg1 hat;have HP7:=hid ((HP.out.keep Ba).app ho1 hg1);clear ho1 hg1 hat)
       clear HP e0 e1 le;go_roundw
       case rel=>exact ⟨k+1,hlt,by go_num,by rw [HT.out];exact HP7⟩
       case measure=>simp [intOf];omega
      ·obtain rfl : k = Cl.length := by omega
       rw [List.take_length] at HK;obtain ⟨P,hP⟩:∃ P,P=dM Jl ++ fV Cl:=⟨_,rfl⟩
       have HPB:Hid (∀ p ∈ P,p.1<p.2∧p.2<n):=hid (fun p hp=>by
        rw [hP] at hp;unfold dM fV at hp
        rcases List.mem_append.1 hp with hp | hp
        ·obtain ⟨x, hx, rfl⟩ := List.mem_map.1 hp;have:=HJR.out x hx;dsimp only;omega
        ·obtain ⟨x, hx, rfl⟩ := List.mem_map.1 hp;have:=HCR.out x hx;dsimp only
         omega)
       have HPE:=hid hP;rw [← hP] at HK;obtain ⟨A9,n9,c9,rfl,hsl9,-⟩:=HK.out.own.sl;obtain rfl:n9=P.length:=hsl9.len;have hb9:=hsl9.big;have hp9:=hsl9.cap;have HE0:Hid (ql w gs n (ni (jv L) P 0) (.slice A9 P.length c9) P wo):=HK;clear HK hP hsl9 hlt hk HJR HCR HJ HC;go_wp2
       go_loopw [62] (fun j wr=>∃ t:Nat,t≤n∧j = .int .i64 t∧Hid (ql w gs n (ni (jv L) P t) (.slice A9 P.length c9) P wr)) (fun j _=>n-(intOf j).toNat)
       case atStart=>exact ⟨0,Nat.zero_le _,rfl,HE0⟩
       case round =>
        clear HE0;obtain ⟨t,ht,rfl,HK⟩:=hrel;obtain ⟨wo,rfl⟩:∃ wo:World,wo=wr:=⟨_,rfl⟩
        by_cases hlt:t<n
        ·have hlt' : (t : Int) < (n : Int) := by omega
         have hwt:IntKind.i64.wrap ((t:Int)+1)=(t:Int)+1:=IntWalk.i64_in _ (by omega);go_wp2
         go_loopw [66] (fun j wr=>∃ k:Nat,k≤P.length∧j = .int .i64 k∧Hid (ql w gs n (zH (jv L) (P.take k) (ni (jv L) P t)) (.slice A9 P.length c9) P wr)) (fun j _=>P.length-(intOf j).toNat)
         case atStart=>exact ⟨0,Nat.zero_le _,rfl,HK⟩
         case round =>
          clear HK;obtain ⟨k,hk,rfl,HK⟩:=hrel;obtain ⟨wi,rfl⟩:∃ wi:World,wi=wr:=⟨_,rfl⟩
          by_cases hlk:k<P.length
          ·have hlk' : (k : Int) < (P.length : Int) := by omega
           have hwk:IntKind.i64.wrap ((k:Int)+1)=(k:Int)+1:=IntWalk.i64_in _ (by omega);obtain ⟨A8,n8,c8,hs8,hsl8,-⟩:=HK.out.own.sl;obtain ⟨rfl,rfl,rfl⟩:A8=A9∧n8=P.length∧c8=c9:=by cases hs8;exact ⟨rfl,rfl,rfl⟩
           obtain ⟨bp,op,hA,hCP⟩:=hsl8.at_ (by intro q;rw [q] at hlk;simp at hlk);subst hA;obtain ⟨⟨ia,ib⟩,hp⟩:∃ p,p=P[k]:=⟨_,rfl⟩;obtain ⟨d0,d1⟩:=hCP.pairK hlk hp;obtain ⟨hab,hbn⟩:=HPB.out (ia,ib) (by rw [hp];exact List.getElem_mem _);dsimp only at d0 d1 hab hbn;have ld:=lt_of_cell d0;obtain ⟨o,ho⟩:∃ o,o=zH (jv L) (P.take k) (ni (jv L) P t):=⟨_,rfl⟩
           have HT:Hid (zH (jv L) (P.take (k+1)) (ni (jv L) P t)=xX (jv L) o (ia,ib)):=hid (by
            rw [ho,List.take_add_one,List.getElem?_eq_getElem hlk,← hp];unfold zH;rw [List.foldl_append]
            rfl)
           rw [← ho] at HK;obtain ⟨x,hx⟩:∃ x,x=L[ia]'(by rw [← HNL.out];omega):=⟨_,rfl⟩;obtain ⟨y,hy⟩:∃ y,y=L[ib]'(by rw [← HNL.out];omega):=⟨_,rfl⟩;have HMV:Hid (jv L ia=decide (x.b.mass≠0)∧jv L ib=decide (y.b.mass≠0)):=hid ⟨by unfold jv;rw [List.getElem?_eq_getElem (by rw [← HNL.out];omega),hx],by unfold jv;rw [List.getElem?_eq_getElem (by rw [← HNL.out];omega),hy]⟩;have hmx:=HMM.out x (by rw [hx];exact List.getElem_mem _);have hmy:=HMM.out y (by rw [hy];exact List.getElem_mem _);obtain ⟨bA,oA,hA,hCA⟩:=(HS.out.below HK.out.gr.bel).sl.at_ (by intro q;have:=HNL.out;rw [q] at this;simp at this;omega);subst hA;obtain ⟨-,-,-,-,-,-,x6,-⟩:=dB hCA (by rw [← HNL.out];omega) hx;obtain ⟨-,-,-,-,-,-,y6,-⟩:=dB hCA (by rw [← HNL.out];omega) hy;have hia:(ia:Int)<(n:Int):=by omega
           have hib:(ib:Int)<(n:Int):=by omega
           have hian:ia<n:=by omega
           have hne1:¬ ia=ib:=by omega
           have hne2:¬ ib=ia:=by omega
           obtain ⟨w5,hw5⟩:∃ y,y=wi.alloc (.cells #[.int .i64 (ia:Nat),.int .i64 (ib:Nat)] 72):=⟨_,rfl⟩;obtain ⟨g5,hg5⟩:∃ y,y=wi.heap.size:=⟨_,rfl⟩;have hb5:Below wi.heap.size wi w5:=by rw [hw5];exact (Below.refl _ _).alloc (Nat.le_refl _) _
           have e0:w5.cell? ⟨g5,0,none⟩=some (.int .i64 (ia:Nat)):=by rw [hw5,hg5];go_simp
           have e1:w5.cell? ⟨g5,1,none⟩=some (.int .i64 (ib:Nat)):=by rw [hw5,hg5];go_simp
           have HP:=hid (HK.out.keep hb5);have HGN:Hid (g5≠gs):=hid (by have:=HK.out.gr.lt;omega);replace x6:=keepCell hb5 x6;replace y6:=keepCell hb5 y6;have lx:=lt_of_cell x6;obtain ⟨mx,hmx'⟩:∃ z,z=x.b.mass:=⟨_,rfl⟩;obtain ⟨my,hmy'⟩:∃ z,z=y.b.mass:=⟨_,rfl⟩;rw [← hmx'] at x6 HMV hmx;rw [← hmy'] at y6 HMV hmy;clear hCA hx hy hCP hp ho hb5 hs8 hsl8 HK hmx' hmy'
           go_upto_region 23 with fail
           rw [← hw5,← hg5];clear hw5 hg5 ld d0 d1;have le:=lt_of_cell e0;have HEE:=hid (And.intro e0 e1)
           by_cases cx:0<mx
           ·by_cases cy : 0 < my
            ·have HTT:Hid (xX (jv L) o (ia,ib)=fun j=>if j=ia∨j=ib then min (o ia) (o ib) else o j):=hid (by
              unfold xX
              rw [if_pos ⟨by rw [HMV.out.1];exact decide_eq_true (by omega),by rw [HMV.out.2];exact decide_eq_true (by omega)⟩])
             obtain ⟨lo,hlo⟩:∃ z,z=min (o ia) (o ib):=⟨_,rfl⟩
             have hrmin:∀ (ts:Array TypeId) (t:TypeId) (w:World),(Builtin.min_ ts t #[.int .i64 (o ia:Nat),.int .i64 (o ib:Nat)]).run Tryz.prog w = .ok (.int .i64 (lo:Nat)) w:=fun ts t w=>by
              rw [run_min_int2,hlo]
              congr 2
              split <;> omega
             rw [← hlo] at HTT;clear hlo
             go_upto_region 24 with fail
             clear e0 e1 x6 y6 le lx;refine wp_region_noPanic ?_;refine au (S:=(S2 (fun w'=>w'.cell? ⟨g5,0,none⟩=some (.int .i64 (ia:Nat))∧w'.cell? ⟨g5,1,none⟩=some (.int .i64 (ib:Nat))∧ql w gs n o (.slice (some ⟨bp,op,none⟩) P.length c8) P w'))) (T:=(fun _=>0)) (by kernel_rfl) (aM ⟨HEE.out.1,HEE.out.2,HP.out.keep (Below.refl _ _).drew⟩) (fun hH=>?_);have hWr1:aO (S2 (fun w'=>w'.cell? ⟨g5,0,none⟩=some (.int .i64 (ia:Nat))∧w'.cell? ⟨g5,1,none⟩=some (.int .i64 (ib:Nat))∧ql w gs n o (.slice (some ⟨bp,op,none⟩) P.length c8) P w')):=aR _;refine gH [(0,86),(1,87),(2,88),(3,89),(4,90),(5,91),(6,92),(7,93),(8,94),(9,95),(10,96),(11,16)] 0 0 0 (L':=?Lr1_1) hWr1 hH ?yr1_1 ?_
             case yr1_1=>((iterate 12 apply gK;rfl;kernel_rfl;intro w' hSw;replace hSw:=aC hSw;(try dsimp only at hSw);have q0:=hSw.1;have q1:=hSw.2.1;have q2:=hSw.2.2;have qa2_0:=(q2).gr.c ia hian;have qa2_1:=(q2).gr.c ib hbn;(try simp only [sB,sC]);go_simp;(try with_reducible rfl));exact gF)
             simp only [sB,sC];refine ak (by kernel_rfl) ?_ _ _;refine NoPanic.normal ?_;replace hH:=aC hH
             (try dsimp only at hH)
             have q0:=hH.1;have q1:=hH.2.1;have q2:=hH.2.2;have HE2:=hid (And.intro q0 q1);have HP2:=hid q2;clear q0 q1 q2 hH;clear hrmin
             go_upto_region 25 with fail
             refine wp_region_noPanic ?_;refine au (S:=(S3 (fun w'=>w'.cell? ⟨g5,0,none⟩=some (.int .i64 (ia:Nat))∧w'.cell? ⟨g5,1,none⟩=some (.int .i64 (ib:Nat))∧w'.cell? ⟨gs,ib,none⟩=some (.int .i64 (o ib:Nat))∧(∀ j,w'.frozen? ⟨gs,j,none⟩=false)∧ql w gs n o (.slice (some ⟨bp,op,none⟩) P.length c8) P w') (fun w'=>w'.cell? ⟨g5,0,none⟩=some (.int .i64 (ia:Nat))∧w'.cell? ⟨g5,1,none⟩=some (.int .i64 (ib:Nat))∧w'.cell? ⟨gs,ib,none⟩=some (.int .i64 (o ib:Nat))∧(∀ j,w'.frozen? ⟨gs,j,none⟩=false)))) (T:=(fun j=>[0,0,0,0,0,0,0,0,0,1,0,2].getD j 0)) (by kernel_rfl) (D9 ⟨HE2.out.1,HE2.out.2,HP2.out.gr.c ib hbn,HP2.out.gr.f,HP2.out.keep (Below.refl _ _).drew⟩) (fun hH=>?_);have hWr2:aO (S3 (fun w'=>w'.cell? ⟨g5,0,none⟩=some (.int .i64 (ia:Nat))∧w'.cell? ⟨g5,1,none⟩=some (.int .i64 (ib:Nat))∧w'.cell? ⟨gs,ib,none⟩=some (.int .i64 (o ib:Nat))∧(∀ j,w'.frozen? ⟨gs,j,none⟩=false)∧ql w gs n o (.slice (some ⟨bp,op,none⟩) P.length c8) P w') (fun w'=>w'.cell? ⟨g5,0,none⟩=some (.int .i64 (ia:Nat))∧w'.cell? ⟨g5,1,none⟩=some (.int .i64 (ib:Nat))∧w'.cell? ⟨gs,ib,none⟩=some (.int .i64 (o ib:Nat))∧(∀ j,w'.frozen? ⟨gs,j,none⟩=false))):=Bl (fun _ ⟨q0,q1,q2,q3,q4⟩=>⟨q0,q1,q2,q3⟩);refine gH [(0,97),(1,98),(2,99),(6,103),(8,105)] 7 0 0 (L':=?Lr2_1) hWr2 hH ?yr2_1 ?_
             case yr2_1=>((iterate 5 apply gK;rfl;kernel_rfl;intro w' hSw;replace hSw:=yT hSw;(try dsimp only at hSw);have q0:=hSw.1;have q1:=hSw.2.1;have q2:=hSw.2.2.1;have q3:=hSw.2.2.2.1;have q4:=hSw.2.2.2.2;have qa4_0:=(q4).gr.c ia hian;have qa4_1:=(q4).gr.c ib hbn;(try simp only [sB,sC]);go_simp;(try with_reducible rfl));exact gF)
             simp only [sB,sC];refine gH [(3,100),(4,101),(5,102),(7,104)] 3 1 0 (L':=?Lr2_6) hWr2 hH ?yr2_6 ?_
             case yr2_6=>((iterate 4 apply gK;rfl;kernel_rfl;intro w' hSw;replace hSw:=Gs hSw;(try dsimp only at hSw);have q0:=hSw.1;have q1:=hSw.2.1;have q2:=hSw.2.2.1;have q3:=hSw.2.2.2;(try simp only [sB,sC]);go_simp;(try with_reducible rfl));exact gF)
             simp only [sB,sC];refine U1 9 1 rfl (fun K hK=>?_);have hG:=hH;replace hG:=yT hG;(try dsimp only at hG);have q0:=hG.1;have q1:=hG.2.1;have q2:=hG.2.2.1;have q3:=hG.2.2.2.1;have q4:=hG.2.2.2.2;have y0:=q4.gr.c ia hian;have yl:=q4.gr.lt;have HQ2:=hid q4;go_simp;refine hK.out _ _ (GN ⟨aW HGN.out.symm q0,aW HGN.out.symm q1,dS q2 (by omega),dL q3 _ _⟩) (fun hH2=>?_);clear hK K hH
             rename _=>hH
             try simp only [Act.put,sA,sB,sC]
             clear hG q0 q1 q2 q3 q4 y0;refine Ut 10 106 1 1 1 (v:=?vr2_11) rfl hWr2 hH ?yr2_11 ?_
             case yr2_11=>(intro w' hSw;clear hSw;go_simp;try (with_reducible rfl))
             simp only [sB,sC];refine U1 11 2 rfl (fun K hK=>?_);have hG:=hH;replace hG:=Gs hG;(try dsimp only at hG);have q0:=hG.1;have q1:=hG.2.1;have q2:=hG.2.2.1;have q3:=hG.2.2.2;go_simp;refine hK.out _ _ (Jh) (fun hH2=>?_);clear hK K hH
             rename _=>hH
             try simp only [Act.put,sA,sB,sC]
             clear hG q0 q1 q2 q3 yl;refine ak (by kernel_rfl) ?_ _ _;refine NoPanic.normal ?_;have HN:=hid (show ql w gs n (zH (jv L) (P.take (k+1)) (ni (jv L) P t)) _ P _ by rw [HT.out,HTT.out];exact HQ2.out.put2 hian hbn (lo:Nat));clear HQ2 HT HTT HMV;go_wp2;go_roundw
             case rel=>exact ⟨k+1,hlk,by go_num,HN⟩
             case measure=>simp [intOf];omega
            ·obtain rfl : my = 0 := by omega
             have HN:=hid (show ql w gs n (zH (jv L) (P.take (k+1)) (ni (jv L) P t)) _ P w5 by
              rw [HT.out];unfold xX;rw [if_neg (by intro h;have:=h.2;rw [HMV.out.2] at this;simp at this)]
              exact HP.out)
             clear HP HT HMV;go_wp2;go_roundw
             case rel=>exact ⟨k+1,hlk,by go_num,HN⟩
             case measure=>simp [intOf];omega
           ·obtain rfl : mx = 0 := by omega
            have HN:=hid (show ql w gs n (zH (jv L) (P.take (k+1)) (ni (jv L) P t)) _ P w5 by
             rw [HT.out];unfold xX;rw [if_neg (by intro h;have:=h.1;rw [HMV.out.1] at this;simp at this)]
             exact HP.out)
            clear HP HT HMV;go_wp2;go_roundw
            case rel=>exact ⟨k+1,hlk,by go_num,HN⟩
            case measure=>simp [intOf];omega
          ·obtain rfl : k = P.length := by omega
           rw [List.take_length] at HK;have HK2:Hid (ql w gs n (ni (jv L) P (t+1)) (.slice A9 P.length c9) P wi):=HK;clear HK;go_wp2;go_roundw
           case rel=>exact ⟨t+1,hlt,by go_num,HK2⟩
           case measure=>simp [intOf];omega
        ·obtain rfl : t = n := by omega
         have HR:Hid (BD w gs t (iC (jv L) (dM Jl ++ fV Cl)) wo):=hid (by rw [← HPE.out];exact HK.out.gr.eq (fun j hj=>(He (fun p hp=>by have:=HPB.out p hp;omega) j hj).symm));clear HK;go_wp2
         go_returns
         exact ⟨gs,rfl,HR.out⟩
end
end Go.Proofs.YtokgmcomgflloaaGreat
