/- Parts of a proof: contracts and laws. -/
import Derived.Test.YtokgmcomgflloaaGreatQP25
import Derived.Test.YtokgmcomgflloaaGreatQP16
import Derived.Test.YtokgmcomgflloaaGreatQP10
import Derived.Test.YtokgmcomgflloaaGreatQP03
set_option maxRecDepth 100000
set_option maxHeartbeats 16000000
namespace Go.Proofs.YtokgmcomgflloaaGreat
section
set_option linter.unusedVariables false
set_option linter.unusedSimpArgs false
open Go.RowKit
def pX (L:List BE) (C:List Ct) (st r:Int):Int:=if bI L C≠0 then bI L C else if st<1∨65536<st∨r<0∨32<r then 1 else 0
def uF (L:List BE) (C:List Ct) (st r:Int):List QB × List Ct:=if pX L C st r=0 then vT (L.map dw) C st r.toNat else ([],[])
def Q0 (E:Int) (S:List QB × List Ct) (w:World) (e:Ending) (w':World):Prop:=∃ (A B:Option Addr) (n c m d:Nat) (L':List BE),e = .returned (.tuple #[.slice A n c,.slice B m d,.int .i64 E])∧kM w' A n c L'∧dN iC w' B m d S.2∧L'.map dw=S.1∧Below w.heap.size w w'

structure S1 (w0 : World) (gs : Nat) (sc sb : Value) (C : List Ct) (L' : List BE) (w : World) : Prop where
 c0:w.cell? ⟨gs,0,none⟩=some sb
 c1:w.cell? ⟨gs,1,none⟩=some sc
 c2:w.cell? ⟨gs,2,none⟩=some (.slice none 0 0)
 cf:∀ j,w.frozen? ⟨gs,j,none⟩=false
 oc:aN iC 106 w w0.heap.size sc C
 own:aN jc 27 w (gs+1) sb L'
 co:∀ x ∈ L',Sl w x.A x.n x.c x.l∧x.l≠[]∧∀ bx off,x.A=some ⟨bx,off,none⟩→gs<bx∧some bx≠sb.ownBlock
 bel:Below w0.heap.size w0 w
 lt:w0.heap.size≤gs∧gs<w.heap.size∧∀ k,sc.ownBlock=some k→k<gs
section
variable {w0 w w':World} {gs:Nat} {sc sb:Value} {C:List Ct} {L':List BE}
theorem BM (hb:Below w.heap.size w w') (h:S1 w0 gs sc sb C L' w):S1 w0 gs sc sb C L' w' :=
 ⟨keepCell hb h.c0,keepCell hb h.c1,keepCell hb h.c2,fun j=>((cO hb).2 _ _ h.lt.2.1).trans (h.cf j),h.oc.below hb,h.own.below hb,fun x hx=>⟨(h.co x hx).1.below hb,(h.co x hx).2⟩,aj hb h.bel,h.lt.1,Nat.lt_of_lt_of_le h.lt.2.1 hb.size,h.lt.2.2⟩
theorem S1.drew (h:S1 w0 gs sc sb C L' w):S1 w0 gs sc sb C L' w.drew:=BM (Below.refl _ _).drew h
theorem S1.set {wb:World} {k o:Nat} {v:Value} (hb:S1 w0 gs sc sb C L' wb) (h:S1 w0 gs sc sb C L' w) (hk:wb.heap.size≤k):S1 w0 gs sc sb C L' (w.setCell ⟨k,o,none⟩ v):=by
 obtain ⟨l1,l2,l3⟩:=hb.lt;refine ⟨aZ (by omega) h.c0,aZ (by omega) h.c1,aZ (by omega) h.c2,fun j=>by rw [World.frozen?_setCell];exact h.cf j,h.oc.off (fun j hj=>by have:=l3 j hj;omega) o v,h.own.off (fun j hj=>by have:=(hb.own.lt hj).2;omega) o v,fun x hx=>?_,h.bel.setCell (p:=⟨k,o,none⟩) (by show w0.heap.size≤k;omega) _,l1,by simp;exact h.lt.2.1,l3⟩;obtain ⟨h1,h2,h3⟩:=h.co x hx;exact ⟨h1.setAt (fun bx off e=>by have:=pY (hb.co x hx).1 h2 bx off e;omega),h2,h3⟩
theorem S1.push {wb wa w7 : World} {sb' : Value} {y : BE} (hb : S1 w0 gs sc sb C L' wb) (h : S1 w0 gs sc sb C L' w) (hS : Sl w y.A y.n y.c y.l) (hl : y.l ≠ []) (hf : ∀ bx off, y.A = some ⟨bx, off, none⟩ → wb.heap.size ≤ bx) (hba : Below w.heap.size w wa)
  (ho:aN jc 27 w7 (gs+1) sb' (L' ++ [y])) (hg:wa.grownBy w7 sb.ownBlock) (hat:sb'.ownBlock=sb.ownBlock∨sb'.ownBlock=some wa.heap.size) :
  S1 w0 gs sc sb' C (L' ++ [y]) (w7.setCell ⟨gs,0,none⟩ sb')∧w7.cell? ⟨gs,0,none⟩=some sb∧∀ k,w7.frozen? ⟨gs,k,none⟩=false:=by
 obtain ⟨l1,l2,l3⟩:=hb.lt;have hsa:=hba.size;have hsz:=hg.size;have hg7:w.grownBy w7 sb.ownBlock:=aQ (bW hba) hg;have hneg:some gs≠sb.ownBlock:=fun e=>by have:=(hb.own.lt e.symm).1;omega
 have e0:=hg7.block gs h.lt.2.1 hneg
 have nblk:∀ {z:BE},Sl w z.A z.n z.c z.l→z.l≠[]→(∀ bx off,z.A=some ⟨bx,off,none⟩→some bx≠sb.ownBlock)→∀ bx off,z.A=some ⟨bx,off,none⟩→some bx≠sb'.ownBlock:=fun {z} hs hne hno bx off e e2=>by
  have:=pY hs hne bx off e
  rcases hat with q | q
  ·exact hno bx off e (e2.trans q)
  ·rw [q] at e2;cases e2;omega
 have hnw:∀ bx off,y.A=some ⟨bx,off,none⟩→some bx≠sb.ownBlock:=fun bx off e e2=>by have:=hf bx off e;have:=(hb.own.lt e2.symm).2;omega
 have c00:w7.cell? ⟨gs,0,none⟩=some sb:=(World.cell?_of_block e0).trans h.c0;have c10:w7.cell? ⟨gs,1,none⟩=some sc:=(World.cell?_of_block e0).trans h.c1;have c20:w7.cell? ⟨gs,2,none⟩=some (.slice none 0 0):=(World.cell?_of_block e0).trans h.c2;have cf0:∀ k,w7.frozen? ⟨gs,k,none⟩=false:=fun k=>(World.frozen?_of_block e0).trans (h.cf k)
 have hoc:aN iC 106 w7 w0.heap.size sc C:=h.oc.kept hg7 (by
  cases hv:sc.ownBlock with
  | none=>exact .inl rfl
  | some k=>exact .inr (fun e=>by have:=l3 k hv;have:=(hb.own.lt e.symm).1;omega))
 refine ⟨⟨by go_simp,by go_simp,by go_simp,fun j=>by rw [World.frozen?_setCell];exact cf0 j,hoc.off (fun j hj=>by have:=l3 j hj;omega) 0 _,ho.off (fun j hj=>by have:=(ho.lt hj).1;omega) 0 _,fun x hx=>?_,?_,l1,by simp;have:=h.lt.2.1;omega,l3⟩,c00,cf0⟩
 ·rcases List.mem_append.1 hx with hx | hx
  ·obtain ⟨h1, h2, h3⟩ := h.co x hx;exact ⟨(jl h1 hg7 (fun bx off e=>(h3 bx off e).2)).setAt (fun bx off e=>by have:=(h3 bx off e).1;omega),h2,fun bx off e=>⟨(h3 bx off e).1,nblk h1 h2 (fun bx off e=>(h3 bx off e).2) bx off e⟩⟩
  ·rw [List.mem_singleton.1 hx];exact ⟨(jl hS hg7 hnw).setAt (fun bx off e=>by have:=hf bx off e;omega),hl,fun bx off e=>⟨by have:=hf bx off e;omega,nblk hS hl hnw bx off e⟩⟩
 ·have hB : Below w0.heap.size w0 w7 := h.bel.grown hg7 h.bel.size (fun k hk => by have := (hb.own.lt hk).1; omega);exact hB.setCell (p:=⟨gs,0,none⟩) (by show w0.heap.size≤gs;omega) _
end

structure NV (w0 : World) (Bz gs g gc cap cc : Nat) (L : List BE) (C : List Ct) (sr : Value) (R : List Rw) (w : World) : Prop where
 c0:w.cell? ⟨gs,0,none⟩=some (.slice (some ⟨g,0,none⟩) L.length cap)
 c1:w.cell? ⟨gs,1,none⟩=some (.slice (some ⟨gc,0,none⟩) C.length cc)
 c2:w.cell? ⟨gs,2,none⟩=some sr
 cf:∀ j,w.frozen? ⟨gs,j,none⟩=false
 bl:BL w g L
 cl:aM iC w gc 0 C
 clf:∀ j,w.frozen? ⟨gc,j,none⟩=false
 own:aN Qa 173 w Bz sr R
 nc:∀ y ∈ L,∀ bx off,y.A=some ⟨bx,off,none⟩→gs<bx
 lo:∀ y ∈ L,∀ bx off,y.A=some ⟨bx,off,none⟩→bx<Bz
 bel:Below w0.heap.size w0 w
 lt:w0.heap.size≤gc∧gc<gs∧gs<g∧g<Bz∧Bz≤w.heap.size
section
variable {w0 w w':World} {Bz gs g gc cap cc:Nat} {L:List BE} {C:List Ct} {sr:Value} {R:List Rw}
theorem Pm (hb:Below w.heap.size w w') (h:NV w0 Bz gs g gc cap cc L C sr R w):NV w0 Bz gs g gc cap cc L C sr R w':=by
 obtain ⟨l1,l2,l3,l4,l5⟩:=h.lt;exact ⟨keepCell hb h.c0,keepCell hb h.c1,keepCell hb h.c2,fun j=>((cO hb).2 _ _ (lt_of_cell h.c0)).trans (h.cf j),iB hb h.bl,h.cl.below hb,fun j=>((cO hb).2 _ _ h.cl.lt).trans (h.clf j),h.own.below hb,h.nc,h.lo,aj hb h.bel,l1,l2,l3,l4,Nat.le_trans l5 hb.size⟩
theorem NV.drew (h:NV w0 Bz gs g gc cap cc L C sr R w):NV w0 Bz gs g gc cap cc L C sr R w.drew:=Pm (Below.refl _ _).drew h
theorem NV.push {wa w7:World} {sr':Value} {y:Rw} (h:NV w0 Bz gs g gc cap cc L C sr R w) (hba:Below w.heap.size w wa) (ho:aN Qa 173 w7 Bz sr' (R ++ [y])) (hg:wa.grownBy w7 sr.ownBlock) :
  NV w0 Bz gs g gc cap cc L C sr' (R ++ [y]) (w7.setCell ⟨gs,2,none⟩ sr')∧w7.cell? ⟨gs,2,none⟩=some sr∧∀ k,w7.frozen? ⟨gs,k,none⟩=false:=by
 obtain ⟨l1,l2,l3,l4,l5⟩:=h.lt;have hg7:w.grownBy w7 sr.ownBlock:=aQ (bW hba) hg;have hno:∀ k,k<Bz→some k≠sr.ownBlock:=fun k hk e=>by have:=(h.own.lt e.symm).1;omega
 have e0:=hg7.block gs (by omega) (hno gs (by omega));have eg:=hg7.block g (by omega) (hno g l4);have ec:=hg7.block gc (by omega) (hno gc (by omega));have c00:=(World.cell?_of_block e0).trans h.c0;have c10:=(World.cell?_of_block e0).trans h.c1;have c20:=(World.cell?_of_block e0).trans h.c2;have cf0:∀ k,w7.frozen? ⟨gs,k,none⟩=false:=fun k=>(World.frozen?_of_block e0).trans (h.cf k)
 have hbl:BL w7 g L:=⟨⟨Nat.lt_of_lt_of_le h.bl.cl.lt hg7.size,fun j hj i u hu=>(World.cell?_of_block eg).trans (h.bl.cl.at_ j hj i u hu)⟩,fun j=>(World.frozen?_of_block eg).trans (h.bl.free j),fun x hx=>jl (h.bl.co x hx) hg7 (fun bx off e=>hno bx (h.lo x hx bx off e)),h.bl.ne⟩;have hcl:aM iC w7 gc 0 C:=⟨Nat.lt_of_lt_of_le h.cl.lt hg7.size,fun j hj i u hu=>(World.cell?_of_block ec).trans (h.cl.at_ j hj i u hu)⟩;refine ⟨⟨by go_simp,by go_simp,by go_simp,fun j=>by rw [World.frozen?_setCell];exact cf0 j,hbl.off (by omega) (fun x hx bx off e=>by have:=h.nc x hx bx off e;omega),⟨by simp;exact hcl.lt,fun j hj i u hu=>aZ (by omega) (hcl.at_ j hj i u hu)⟩,fun j=>by rw [World.frozen?_setCell];exact (World.frozen?_of_block ec).trans (h.clf j),ho.off (fun j hj=>by have:=(ho.lt hj).1;omega) 2 _,h.nc,h.lo,?_,l1,l2,l3,l4,by simp;have:=hg7.size;omega⟩,c20,cf0⟩;have hB:Below w0.heap.size w0 w7:=h.bel.grown hg7 h.bel.size (fun k hk=>by have:=(h.own.lt hk).1;omega);exact hB.setCell (p:=⟨gs,2,none⟩) (by show w0.heap.size≤gs;omega) _

theorem NV.done {gq cq:Nat} (h:NV w0 Bz gs g gc cap cc L C (.slice (some ⟨gq,0,none⟩) R.length cq) R w) (hR:R≠[]):Sr w gs g gc gq cap cc cq L C R w:=by
 obtain ⟨l1,l2,l3,l4,l5⟩:=h.lt
 rcases h.own.form with ⟨h1,h2⟩ | ⟨g',cap',hv,h3,h4,-,-,-,h6⟩
 ·exact absurd h2 hR
 ·cases hv
  exact ⟨h.c0,h.c1,h.c2,h.bl,h.cl,h.clf,h6,fun y hy bx off e=>by have:=h.nc y hy bx off e;omega,.refl _ _ _,⟨by omega,by omega,h4,by omega⟩,by omega,by omega,by omega,by omega,by omega⟩
end
section
variable {w0 wm w w':World} {gs g gc gq cap cc cq:Nat} {L L2:List BE} {C C2:List Ct} {R:List Rw}
theorem EO.trans {a b d:World} {g c:Nat} (h:EO a b g c) (k:EO b d g c):EO a d g c :=
 ⟨k.os.trans h.os,k.tape.trans h.tape,k.output.trans h.output,Nat.le_trans h.size k.size,fun j hj h1 h2=>(k.block j (Nat.lt_of_lt_of_le hj h.size) h1 h2).trans (h.block j hj h1 h2)⟩
end
theorem xu (Q:List QB) (st:Int) (r:Nat):vT Q [] st r=(Q,[]):=by
 unfold vT;rw [List.length_nil,Nat.mul_zero];rfl
theorem qd (A B:Option Addr) (n c n' c':Nat) (L:List BE) (C:List Ct) (w:World) (hS:kM w A n c L) (hC:dN iC w B n' c' C) (hC0:C=[]) :
  Calls Tryz.prog 58 #[.slice A n c,.slice B n' c'] w (dS (.int .i64 (bI L C)) w):=by
 have HC0:Hid (C.length=0):=hid (by rw [hC0];rfl);clear hC0;have hn:=hS.sl.len;have hcap:=hS.sl.cap;have hbig:=hS.sl.big;have hn':=hC.len;have hcap':=hC.cap;have hbig':=hC.big;subst hn hn';have HSC:=hid (fun (w':World) (hb:Below w.heap.size w w')=>hC.below hb);have HCK:=hid (kI A L.length c L w hS);clear hS hC
 go_enter Tryz.func58,Tryz.ntmps58
 go_wp2_with fail
 refine HCK.out.mono ?_;rintro e w1 ⟨rfl,hB⟩;clear HCK
 by_cases hE:aX L=0
 case neg =>
  have HR:Hid (bI L C=aX L):=by show _=_;unfold bI;rw [if_pos hE]
  have hne:(aX L != 0)=true:=by simp [hE]
  generalize aX L=z at *
  go_wp2
  go_returns
  exact aH HR.out.symm hB
 by_cases h96:4096<C.length
 ·have HR : Hid (bI L C = 2) := by show _ = _; unfold bI; rw [if_neg (by simp [hE]), if_pos h96]
  rw [hE];clear hE;go_wp2
  go_returns
  exact aH HR.out.symm hB
 have HCE:Hid (bI L C=P8 L.length C C.length):=by show _=_;unfold bI;rw [if_neg (by simp [hE]),if_neg h96]
 have h64:=(gK hE).1;rw [hE];clear hE;go_wp2
 go_loopw [19] (fun i wr=>∃ k:Nat,k≤C.length∧i = .int .i64 k∧P8 L.length C k=0∧Below w.heap.size w wr) (fun i _=>C.length-(intOf i).toNat)
 case atStart=>exact ⟨0,Nat.zero_le _,rfl,rfl,hB⟩
 case round =>
  clear hB;obtain ⟨k,hk,rfl,hz,hB⟩:=hrel;obtain ⟨wo,rfl⟩:∃ wo:World,wo=wr:=⟨_,rfl⟩
  by_cases hlt:k<C.length
  ·exact absurd hlt (by have:=HC0.out;omega)
  ·have hkn : k = C.length := by omega
   subst hkn;have HR:Hid (bI L C=0):=by show _=_;rw [HCE.out];exact hz
   clear hz;go_wp2
   go_returns
   exact aH HR.out.symm hB
def tQ (E:Int) (S:List QB × List Ct) (w:World) (e:Ending) (w':World):Prop:=∃ (A B:Option Addr) (n c m d:Nat) (L':List BE),e = .returned (.tuple #[.slice A n c,.slice B m d,.int .i64 E])∧kM w' A n c L'∧dN iC w' B m d S.2∧L'.map dw=S.1∧Below w.heap.size w w'∧(∀ b off,A=some ⟨b,off,none⟩→w.heap.size≤b)∧(∀ y ∈ L',∀ bx off,y.A=some ⟨bx,off,none⟩→w.heap.size≤bx)∧∀ b off,B=some ⟨b,off,none⟩→w.heap.size≤b
theorem Ez (A B:Option Addr) (n c n' c':Nat) (L:List BE) (C:List Ct) (st r:Int) (w:World) (hS:kM w A n c L) (hC:dN iC w B n' c' C) (hC00:C=[]) :
  Calls Tryz.prog 49 #[.slice A n c,.slice B n' c',.int .i64 st,.int .i64 r] w (tQ (pX L C st r) (uF L C st r) w):=by
 have HC00:=hid hC00;have hn:=hS.sl.len;have hcap:=hS.sl.cap;have hbig:=hS.sl.big;have hn':=hC.len;have hcap':=hC.cap;have hbig':=hC.big;subst hn hn';have HS:=hid hS;have HC:=hid hC;have HCK:=hid (qd A B L.length c C.length c' L C w hS hC hC00);clear hC00;clear hS hC
 go_enter Tryz.func49,Tryz.ntmps49
 go_wp2_with fail
 refine HCK.out.mono ?_;rintro e w1 ⟨rfl,hB1⟩;clear HCK
 have HNIL:Hid (∀ (z:Int) (wx:World),z≠0→pX L C st r=z→Below w.heap.size w wx→tQ (pX L C st r) (uF L C st r) w (.returned (.tuple #[.slice none 0 0,.slice none 0 0,.int .i64 z])) wx):=fun z wx hz he hb =>
  ⟨none,none,0,0,0,0,[],by rw [he],⟨dN.nil _ _,fun x hx=>by cases hx⟩,by unfold uF;rw [if_neg (by rw [he];exact hz)];exact dN.nil _ _,by unfold uF;rw [if_neg (by rw [he];exact hz)];rfl,hb,(fun b off e=>by cases e),(fun y hy=>by cases hy),(fun b off e=>by cases e)⟩
 by_cases hE:bI L C=0
 case neg =>
  have HR:=hid (HNIL.out (bI L C) w1 hE (by unfold pX;rw [if_pos hE]) hB1);have hne:(bI L C != 0)=true:=by simp [hE]
  generalize bI L C=z at *
  go_wp2;exact bodyPost_ret (v:=.tuple #[.slice none 0 0,.slice none 0 0,.int .i64 z]) (by simp [results,Tryz.results49,go_sem]) rfl HR.out
 obtain ⟨hbe,hc96,hcs⟩:=kS hE;obtain ⟨h64,hval⟩:=gK hbe;have HV:=hid hval;have HCS:=hid hcs
 by_cases hbad:st<1∨65536<st∨r<0∨32<r
 ·have HR := hid (HNIL.out 1 w1 (by decide) (by unfold pX; rw [if_neg (by simp [hE]), if_pos hbad]) hB1);rw [hE];clear hE hbe hval hcs HNIL
  by_cases c1:st<1
  ·go_wp2;exact bodyPost_ret (v:=.tuple #[.slice none 0 0,.slice none 0 0,.int .i64 1]) (by simp [results,Tryz.results49,go_sem]) rfl HR.out
  by_cases c2:65536<st
  ·go_wp2;exact bodyPost_ret (v:=.tuple #[.slice none 0 0,.slice none 0 0,.int .i64 1]) (by simp [results,Tryz.results49,go_sem]) rfl HR.out
  by_cases c3:r<0
  ·go_wp2;exact bodyPost_ret (v:=.tuple #[.slice none 0 0,.slice none 0 0,.int .i64 1]) (by simp [results,Tryz.results49,go_sem]) rfl HR.out
  have c4:32<r:=by omega
  go_wp2;exact bodyPost_ret (v:=.tuple #[.slice none 0 0,.slice none 0 0,.int .i64 1]) (by simp [results,Tryz.results49,go_sem]) rfl HR.out
 have c1:¬ st<1:=fun h=>hbad (.inl h)
 have c2:¬ 65536<st:=fun h=>hbad (.inr (.inl h))
 have c3:¬ r<0:=fun h=>hbad (.inr (.inr (.inl h)))
 have c4:¬ 32<r:=fun h=>hbad (.inr (.inr (.inr h)))
 have HRE:Hid (pX L C st r=0):=by show _=_;unfold pX;rw [if_neg (by simp [hE]),if_neg hbad]
 have HRQ:Hid (uF L C st r=vT (L.map dw) C st r.toNat):=by show _=_;unfold uF;rw [if_pos HRE.out]
 rw [hE];clear hE hbe hval hcs HNIL hbad
 go_wp2_with fail
 refine (pU B C.length c' C _ (HC.out.below hB1) (by omega)).mono ?_;rintro e w2 ⟨sc,rfl,hoc,hb2⟩;obtain ⟨Ac,nc,cc,rfl,hsl9,-⟩:=hoc.sl;have hnc:=hsl9.len;subst hnc;have hccap:=hsl9.cap;have hcbig:=hsl9.big;clear hsl9;have HC1:=hid c1;have HC2:=hid c2;clear c1 c2;obtain ⟨rn,rfl⟩:∃ rn:Nat,r=rn:=⟨r.toNat,by omega⟩;rw [Int.toNat_natCast] at HRQ;have hrn:rn≤32:=by omega
 clear c3 c4;have hB2:=aj hb2 hB1;obtain ⟨gs,hgs⟩:∃ gs,gs=w2.heap.size:=⟨_,rfl⟩;obtain ⟨w3,hw3⟩:∃ w3,w3=w2.alloc (.cells #[.slice none 0 0,.slice Ac C.length cc,.slice none 0 0] 171):=⟨_,rfl⟩;have hb3:Below w2.heap.size w2 w3:=by rw [hw3];go_grown
 have hscl:∀ k,(Value.slice Ac C.length cc).ownBlock=some k→k<gs:=fun k hk=>by rw [hgs];exact (hoc.lt hk).2
 have HS3:Hid (S1 w gs (.slice Ac C.length cc) (.slice none 0 0) C [] w3):=by
  show S1 _ _ _ _ _ _ _;refine ⟨?_,?_,?_,?_,(hoc.mono hB1.size).below hb3,aN.nil _ _ _ _,fun x hx=>(by cases hx),aj hb3 hB2,by rw [hgs];exact hB2.size,by rw [hgs,hw3];simp,hscl⟩ <;> rw [hw3,hgs]
  ·go_simp
  ·go_simp
  ·go_simp
  ·exact fun j=>by go_simp
 clear hoc hb2 hb3 hB2 hB1 hscl
 go_upto_region 7 with fail
 rw [← hw3,← hgs];clear hw3 hgs;go_wp2
 go_loopw [46] (fun i wr=>∃ (k:Nat) (sb:Value) (L':List BE),k≤L.length∧i = .int .i64 k∧S1 w gs (.slice Ac C.length cc) sb C L' wr∧L'.map dw=(L.map dw).take k) (fun i _=>L.length-(intOf i).toNat)
 case atStart=>exact ⟨0,_,[],Nat.zero_le _,rfl,HS3.out,rfl⟩
 case round =>
  clear HS3;obtain ⟨k,sb,L',hk,rfl,hs1,hmp⟩:=hrel;obtain ⟨wo,rfl⟩:∃ wo:World,wo=wr:=⟨_,rfl⟩;have HSB:=hid hs1;have HMP:=hid hmp;clear hs1 hmp
  by_cases hlt:k<L.length
  ·obtain ⟨ba, off, hA, hCl⟩ := (HS.out.below HSB.out.bel).sl.at_ (by intro h; subst h; simp at hlt);subst hA;obtain ⟨x,hx⟩:∃ x,x=L[k]:=⟨_,rfl⟩;have hxm:x ∈ L:=by rw [hx];exact List.getElem_mem hlt
   have hxs:Sl wo x.A x.n x.c x.l:=(HS.out.below HSB.out.bel).co x hxm;have hxv:=(fA (HV.out x hxm)).1;have hx3:=uH (jk hxv);have HXN:Hid (x.l≠[]):=fun e=>by rw [e] at hxv;exact absurd hxv (by decide)
   obtain ⟨d0,d1,d2,d3,d4,d5,d6,d7,d8,d9,d10,d11,d12⟩:=dP hCl hlt hx;have hbo:=hCl.lt;have hlt':(k:Int)<(L.length:Int):=by omega
   have hkw:IntKind.i64.wrap ((k:Int)+1)=(k:Int)+1:=IntWalk.i64_in _ (by omega);obtain ⟨wj,hwj⟩:∃ wj,wj=wo.alloc (.cells #[.int .i64 x.b.px,.int .i64 x.b.py,.int .i64 x.b.vx,.int .i64 x.b.vy,.int .i64 x.b.ang,.int .i64 x.b.spin,.int .i64 x.b.mass,.int .i64 x.b.iner,.int .i64 x.b.bounce,.int .i64 x.b.rub,.slice x.A x.n x.c,.bool x.b.asleep,.int .i64 x.b.calm] 27):=⟨_,rfl⟩;obtain ⟨gb,hgb⟩:∃ gb,gb=wo.heap.size:=⟨_,rfl⟩;have hbj:Below wo.heap.size wo wj:=by rw [hwj];go_grown
   have HK:=hid (show aW wj gb x.b x.A x.n x.c by rw [hwj,hgb];exact aW.here wo x.b x.A x.n x.c _);have HCL:=hid (nX x.A x.n x.c x.l wj (hxs.below hbj) (by omega));have HSJ:=hid (BM hbj HSB.out);have hgbw:wo.heap.size≤gb:=by rw [hgb];exact Nat.le_refl _
   have hgbj:gb<wj.heap.size:=HK.out.lt
   have HTK:Hid (L'.map dw ++ [dw x]=(L.map dw).take (k+1)):=by
    show _=_;rw [HMP.out,List.take_add_one,List.getElem?_map,List.getElem?_eq_getElem hlt,← hx];rfl
   have HLL:Hid (L'.length≤64):=by
    have:=congrArg List.length HMP.out;simp at this;show _≤_;omega
   clear hCl hx hxs hxv hx3 hbj
   go_upto_region 10 with fail
   rw [← hwj,← hgb];clear hwj hgb d0 d1 d2 d3 d4 d5 d6 d7 d8 d9 d10 d11 d12 hbo;obtain ⟨k0,k1,k2,k3,k4,k5,k6,k7,k8,k9,k10,k11,k12,kf⟩:=HK.out
   go_wp2_with fail
   refine HCL.out.mono ?_;rintro e w3 ⟨A1,n1,c1,rfl,hs1,hf1,hb1⟩;clear k0 k1 k2 k3 k4 k5 k6 k7 k8 k9 k10 k11 k12 kf HCL;have HK3:=hid (eD hb1 HK.out);obtain ⟨w4,hw4⟩:∃ w4,w4=w3.setCell ⟨gb,10,none⟩ (.slice A1 n1 c1):=⟨_,rfl⟩;have HFN:Hid (∀ bx off,A1=some ⟨bx,off,none⟩→wo.heap.size≤bx):=fun bx off e=>by have:=hf1 bx off e;omega
   have HK4:=hid (show aW w4 gb x.b A1 n1 c1 by rw [hw4];exact HK3.out.set_slice);have HSL:=hid (show Sl w4 A1 n1 c1 x.l by rw [hw4];exact hs1.setAt (fun bx off e=>by have:=hf1 bx off e;omega));have HS4:=hid (show S1 w gs (.slice Ac C.length cc) sb C L' w4 by rw [hw4];exact S1.set HSB.out (BM hb1 HSJ.out) hgbw);obtain ⟨k0,k1,k2,k3,k4,k5,k6,k7,k8,k9,k10,k11,k12,kf⟩:=HK3.out;clear hs1 hf1 hb1 HSJ HK hgbw hgbj
   go_upto_region 11 with fail
   rw [← hw4];clear hw4 k0 k1 k2 k3 k4 k5 k6 k7 k8 k9 k10 k11 k12 kf HK3;refine wp_region_noPanic ?_;refine au (S:=(S2 (fun w'=>S1 w gs (.slice Ac C.length cc) sb C L' w'∧aW w' gb x.b A1 n1 c1))) (T:=(fun j=>[0,0,0,0,0,0,0,1,0,0,1].getD j 0)) (by kernel_rfl) (aK ⟨HS4.out.drew,HK4.out.drew⟩) (fun hH=>?_);have hWr9:aG (S2 (fun w'=>S1 w gs (.slice Ac C.length cc) sb C L' w'∧aW w' gb x.b A1 n1 c1)):=aI _;refine dG [(1,55),(2,56),(3,57),(4,58),(5,59)] 6 0 0 (L':=?Lr9_1) hWr9 hH ?hyr9_1 ?_
   case hyr9_1=>((iterate 5 apply dF;rfl;kernel_rfl;intro w' hSw;replace hSw:=aB hSw;(try dsimp only at hSw);have q0:=hSw.1;have q1:=hSw.2;have qa0_0:=(q0).c0;have qa0_1:=(q0).c1;have qa0_2:=(q0).c2;obtain ⟨c1_0,c1_1,c1_2,c1_3,c1_4,c1_5,c1_6,c1_7,c1_8,c1_9,c1_10,c1_11,c1_12,c1_f⟩:=id q1;(try simp only [sB,sC]);go_simp;(try with_reducible rfl));exact dD)
   simp only [sB,sC];refine Ut 0 54 5 1 0 (v:=?vr9_6) rfl hWr9 hH ?hyr9_6 ?_
   case hyr9_6=>(intro w' hSw;clear hSw;go_simp;try (with_reducible rfl))
   simp only [sB,sC];refine U1 6 0 rfl (fun K hK=>?_)
   try clear hb
   have hG:=hH;replace hG:=aB hG;(try dsimp only at hG);have fq0:=hG.1;have fq1:=hG.2;go_simp;refine hK.out _ _ ?hsr9_7 (fun hH2=>?hrr9_7)
   case hsr9_7=>exact aK (by have hG:=hH;replace hG:=aB hG;(try dsimp only at hG);have q0:=hG.1;have q1:=hG.2;exact ⟨BM Ba q0,eD Ba q1⟩)
   clear hK K hH;have hH:=hH2;clear hH2
   try simp only [Act.put,sA,sB,sC]
   clear fq0 fq1 hG;refine U1 7 1 rfl (fun K hK=>?_)
   try clear hb
   (refine iw wO (by rfl) _ _ (by rfl) (gs+1) _ _ (by rfl) (HS4.out.own.alloc _).drew _ 0 1 1 [⟨x.b,A1,n1,c1,x.l⟩] (by rfl) (by rfl) (aM.below (Below.refl _ _).drew (kC (aW.here w4 x.b A1 n1 c1 _))) (by have:=HLL.out;simp;omega) (by have:=HLL.out;simp;omega) (by have:=HS4.out.lt.2.1;simp;omega) ?_;intro sb' w7 ho1 hg1 hat)
   refine hK.out _ _ ?hsr9_8 (fun hH2=>?hrr9_8)
   case hsr9_8=>exact gV
   clear hK K hH;have hH:=hH2;clear hH2
   try simp only [Act.put,List.getElem_toArray,List.getElem_cons_succ,List.getElem_cons_zero,List.setIfInBounds_toArray,List.set_cons_zero,List.set_cons_succ]
   obtain ⟨A2,n2,c2,rfl,-,-⟩:=ho1.sl;have HQ7:=hid (S1.push HSB.out HS4.out (y:=⟨x.b,A1,n1,c1,x.l⟩) HSL.out HXN.out HFN.out (by go_grown) ho1 hg1 hat);clear ho1 hg1 hat;refine dG [(8,62),(9,63)] 1 1 1 (L':=?Lr9_9) hWr9 hH ?hyr9_9 ?_
   case hyr9_9=>((iterate 2 apply dF;rfl;kernel_rfl;intro w' hSw;clear hSw;(try simp only [sB,sC]);go_simp;(try with_reducible rfl));exact dD)
   simp only [sB,sC];refine U1 10 1 rfl (fun K hK=>?_);obtain ⟨y0,yf⟩:=HQ7.out.2;go_simp;refine hK.out _ _ ?hsr9_11 (fun hH2=>?hrr9_11)
   case hsr9_11=>exact gV
   clear hK K hH;have hH:=hH2;clear hH2
   try simp only [Act.put,sA,sB,sC]
   refine ak (by kernel_rfl) ?_ _ _;refine NoPanic.normal ?_;go_wp2;go_roundw
   case rel=>exact ⟨k+1,_,_,by omega,by go_num,HQ7.out.1,by rw [List.map_append];exact HTK.out⟩
   case measure=>simp [intOf] <;> omega
  ·have hkn : k = L.length := by omega
   subst hkn;have HLM:Hid (L'.map dw=L.map dw):=by show _=_;rw [HMP.out,List.take_of_length_le (by simp)]
   clear HMP hlt hk;have HCF:Hid (∀ x ∈ C,Gp L'.length x):=fun x hx=>by have h9:=congrArg List.length HLM.out;rw [List.length_map,List.length_map] at h9;rw [h9];exact HCS.out x hx
   have HVL':Hid (∀ y ∈ L',bG y.b y.l=0):=fun y hy=>by
    have h9:dw y ∈ L.map dw:=by rw [← HLM.out];exact List.mem_map_of_mem hy
    obtain ⟨z,hz,hzy⟩:=List.mem_map.1 h9;have h1:z.b=y.b:=congrArg Prod.fst hzy;have h2:z.l=y.l:=congrArg Prod.snd hzy;rw [← h1,← h2];exact HV.out z hz
   have hl64:L'.length≤64:=by have h9:=congrArg List.length HLM.out;rw [List.length_map,List.length_map] at h9;omega
   by_cases hC0:C=[]
   ·subst hC0;have HSN:Hid (vT (L.map dw) [] st rn=(L.map dw,[])):=xu _ _ _;obtain ⟨k0,k1,k2⟩:wo.cell? ⟨gs,0,none⟩=some sb∧wo.cell? ⟨gs,1,none⟩=some (.slice Ac 0 cc)∧wo.cell? ⟨gs,2,none⟩=some (.slice none 0 0):=⟨HSB.out.c0,HSB.out.c1,HSB.out.c2⟩;have HSB2:Hid (S1 w gs (.slice Ac 0 cc) sb [] L' wo):=HSB.out;clear HSB;have HSB:=HSB2;clear HSB2 HCF HVL' HCS;go_wp2
    go_loopw [70] (fun i wr=>i = .int .i64 0∧wr=wo) (fun i _=>0)
    case atStart=>exact ⟨rfl,rfl⟩
    case round =>
     obtain ⟨rfl,rfl⟩:=hrel;go_wp2
     go_loopw [93] (fun i wr2=>i = .int .i64 0∧wr2=wr) (fun i _=>0)
     case atStart=>exact ⟨rfl,rfl⟩
     case round =>
      obtain ⟨rfl,rfl⟩:=hrel;go_wp2
      go_loopw [120] (fun i wr3=>∃ t:Nat,t≤rn∧i = .int .i64 t∧wr3=wr) (fun i _=>rn-(intOf i).toNat)
      case atStart=>exact ⟨0,Nat.zero_le _,rfl,rfl⟩
      case round =>
       obtain ⟨t,ht,rfl,rfl⟩:=hrel
       by_cases hlt:t<rn
       ·have hlt' : (t : Int) < (rn : Int) := by omega
        have htw:IntKind.i64.wrap ((t:Int)+1)=(t:Int)+1:=IntWalk.i64_in _ (by omega);go_wp2
        go_loopw [127] (fun i wr4=>i = .int .i64 0∧wr4=wr) (fun i _=>0)
        case atStart=>exact ⟨rfl,rfl⟩
        case round =>
         obtain ⟨rfl,rfl⟩:=hrel;go_wp2;go_roundw
         case rel=>exact ⟨t+1,by omega,by go_num,by simp⟩
         case measure=>simp [intOf] <;> omega
       ·have htn : t = rn := by omega
        subst htn;clear k0 k1 k2
        go_upto_region 31 with fail
        refine wp_region_noPanic ?_;refine au (S:=(S2 (fun w'=>S1 w gs (.slice Ac 0 cc) sb [] L' w'))) (T:=(fun _=>0)) (by kernel_rfl) (aK HSB.out.drew) (fun hH=>?_);have hWr13:aG (S2 (fun w'=>S1 w gs (.slice Ac 0 cc) sb [] L' w')):=aI _;refine dG [(0,135),(1,136),(2,137),(3,138),(4,139),(5,140),(6,141),(7,142),(8,8),(9,9),(10,10)] 0 0 0 (L':=?Lr13_1) hWr13 hH ?hyr13_1 ?_
        case hyr13_1=>((iterate 11 apply dF;rfl;kernel_rfl;intro w' hSw;replace hSw:=aB hSw;(try dsimp only at hSw);have q0:=hSw;have d0_0:=(q0).c0;have d0_1:=(q0).c1;have d0_2:=(q0).c2;(try simp only [sB,sC]);go_simp;(try with_reducible rfl));exact dD)
        simp only [sB,sC];refine ak (by kernel_rfl) ?_ _ _;refine NoPanic.normal ?_;clear hWr13;replace hH:=aB hH
        (try dsimp only at hH)
        have t0:=hH;have HSE:=hid t0;clear t0 hH;obtain ⟨A3,n3,c3,rfl,hsl3,hbs3⟩:=HSE.out.own.sl;have HFR3:Hid ((∀ b off,A3=some ⟨b,off,none⟩→w.heap.size≤b)∧(∀ y ∈ L',∀ bx off,y.A=some ⟨bx,off,none⟩→w.heap.size≤bx)∧(∀ b off,Ac=some ⟨b,off,none⟩→w.heap.size≤b)):=hid ⟨fun b off e=>by have h1:=hbs3 b off e;have h2:=HSE.out.lt.1;omega,fun y hy bx off e=>by have h1:=((HSE.out.co y hy).2.2 bx off e).1;have h2:=HSE.out.lt.1;omega,fun b off e=>(HSE.out.oc.lt (k:=b) (by rw [e];rfl)).1⟩;clear hbs3;have HB3:=hid HSE.out.bel;have HC3:=hid HSE.out.co;have HSL3:=hid hsl3;clear hsl3 HSE HSB;go_wp2;exact bodyPost_ret (v:=.tuple #[.slice A3 n3 c3,.slice Ac 0 cc,.int .i64 0]) (by simp [results,Tryz.results49,go_sem]) rfl ⟨A3,Ac,n3,c3,0,cc,L',by rw [HRE.out],⟨HSL3.out,fun x hx=>(HC3.out x hx).1⟩,by rw [HRQ.out,HSN.out];exact ⟨rfl,Nat.zero_le _,by omega,fun h=>absurd rfl h⟩,by rw [HRQ.out,HSN.out];exact HLM.out,HB3.out,HFR3.out⟩
   exact absurd HC00.out hC0
end
end Go.Proofs.YtokgmcomgflloaaGreat
