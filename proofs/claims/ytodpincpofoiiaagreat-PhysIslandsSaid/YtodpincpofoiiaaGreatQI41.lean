/- Parts of a proof: contracts and laws. -/
import Derived.Test.YtodpincpofoiiaaGreatQI40
import Derived.Test.YtodpincpofoiiaaGreatQI03
import Derived.Test.YtodpincpofoiiaaGreatQI21
set_option maxRecDepth 100000
set_option maxHeartbeats 16000000
namespace Go.Proofs.YtodpincpofoiiaaGreat
section
set_option linter.unusedVariables false
set_option linter.unusedSimpArgs false
open Go.RowKit
def encR (x:Rw):List Value:=[.int .i64 x.t1,.int .i64 x.t2,.int .i64 x.ease,.int .i64 x.slip,.int .i64 x.lift,.int .i64 x.bound]
def layR:Lay Rw:=⟨encR,6,fun _=>rfl,fun x v hv=>by simp only [encR,List.mem_cons,List.mem_nil_iff,or_false] at hv;rcases hv with rfl | rfl | rfl | rfl | rfl | rfl <;> rfl,by omega⟩
theorem Rz.here (w:World) (t:TypeId):Rz (w.alloc (.cells #[.int .i64 0,.int .i64 0,.int .i64 0,.int .i64 0,.int .i64 0,.int .i64 0] t)) w.heap.size:=⟨fun j hj=>match j,hj with | 0,_ | 1,_ | 2,_ | 3,_ | 4,_ | 5,_=>⟨.int .i64 0,by go_simp⟩,fun j=>by go_simp⟩
theorem Rz.drew {w:World} {g:Nat} (h:Rz w g):Rz w.drew g:=⟨h.c,h.free⟩
theorem Rg.next {w w':World} {g k:Nat} {a0 a1 a2 a3 a4 a5:Int} (h:Rg w g a0 a1 a2 a3 a4 a5) (hg:w.grownBy w' (some k)) (hne:g≠k):Rg w' g a0 a1 a2 a3 a4 a5 :=
 have e:=hg.block g (lt_of_cell h.c0) (by simpa using hne)
 ⟨(World.cell?_of_block e).trans h.c0,(World.cell?_of_block e).trans h.c1,(World.cell?_of_block e).trans h.c2,(World.cell?_of_block e).trans h.c3,(World.cell?_of_block e).trans h.c4,(World.cell?_of_block e).trans h.c5,fun j=>(World.frozen?_of_block e).trans (h.f j)⟩

structure Gr2 (w w' : World) (g c : Nat) : Prop where
 os:w'.os=w.os
 tape:w'.tape=w.tape
 output:w'.output=w.output
 size:w.heap.size≤w'.heap.size
 block:∀ k,k<w.heap.size→k≠g→k≠c→w'.heap[k]? = w.heap[k]?
theorem Gr2.refl (w:World) (g c:Nat):Gr2 w w g c:=⟨rfl,rfl,rfl,Nat.le_refl _,fun _ _ _ _=>rfl⟩
theorem Gr2.step {a b d:World} {g c:Nat} (h:Gr2 a b g c) {k:Nat} (hg:b.grownBy d (some k)) (hk:k=g∨k=c):Gr2 a d g c :=
 ⟨hg.os.trans h.os,hg.tape.trans h.tape,hg.output.trans h.output,Nat.le_trans h.size hg.size,fun j hj h1 h2=>(hg.block j (Nat.lt_of_lt_of_le hj h.size) (by simp;omega)).trans (h.block j hj h1 h2)⟩
theorem Gr2.below {a b d:World} {g c:Nat} (h:Gr2 a b g c) (hb:Below b.heap.size b d):Gr2 a d g c :=
 ⟨hb.os.trans h.os,hb.tape.trans h.tape,hb.output.trans h.output,Nat.le_trans h.size hb.size,fun j hj h1 h2=>(hb.block j (Nat.lt_of_lt_of_le hj h.size)).trans (h.block j hj h1 h2)⟩
theorem Gr2.off {a b:World} {g c k:Nat} (h:Gr2 a b g c) (o:Nat) (v:Value) (hk:a.heap.size≤k):Gr2 a (b.setCell ⟨k,o,none⟩ v) g c :=
 have hg:=grown_setCell b k o v
 ⟨hg.os.trans h.os,hg.tape.trans h.tape,hg.output.trans h.output,Nat.le_trans h.size hg.size,fun j hj h1 h2=>(hg.block j (Nat.lt_of_lt_of_le hj h.size) (by simp;omega)).trans (h.block j hj h1 h2)⟩

structure Sr (w0 : World) (gs g gc gq cap cc cq : Nat) (L : List BE) (C : List Ct) (R : List Rw) (w : World) : Prop where
 s0:w.cell? ⟨gs,0,none⟩=some (.slice (some ⟨g,0,none⟩) L.length cap)
 s1:w.cell? ⟨gs,1,none⟩=some (.slice (some ⟨gc,0,none⟩) C.length cc)
 s2:w.cell? ⟨gs,2,none⟩=some (.slice (some ⟨gq,0,none⟩) R.length cq)
 bl:BL w g L
 cl:CellsE layC w gc 0 C
 cf:∀ j,w.frozen? ⟨gc,j,none⟩=false
 rl:CellsE layR w gq 0 R
 nc:∀ y ∈ L,∀ bx off,y.A=some ⟨bx,off,none⟩→bx≠gc
 gr:Gr2 w0 w g gc
 lt:g<w0.heap.size∧gc<w0.heap.size∧gq<w0.heap.size∧gs<w0.heap.size
 ne:g≠gc∧g≠gs∧gc≠gs∧g≠gq∧gc≠gq
section
variable {w0 w w':World} {gs g gc gq cap cc cq:Nat} {L:List BE} {C:List Ct} {R:List Rw}
theorem keepSr (hb:Below w.heap.size w w') (h:Sr w0 gs g gc gq cap cc cq L C R w):Sr w0 gs g gc gq cap cc cq L C R w' :=
 ⟨keepCell hb h.s0,keepCell hb h.s1,keepCell hb h.s2,keepBL hb h.bl,h.cl.below hb,fun j=>((bcell hb).2 _ _ h.cl.lt).trans (h.cf j),h.rl.below hb,h.nc,h.gr.below hb,h.lt,h.ne⟩
theorem Sr.drew (h:Sr w0 gs g gc gq cap cc cq L C R w):Sr w0 gs g gc gq cap cc cq L C R w.drew:=keepSr (Below.refl _ _).drew h
theorem Sr.alloc (h:Sr w0 gs g gc gq cap cc cq L C R w) (o:Obj):Sr w0 gs g gc gq cap cc cq L C R (w.alloc o):=keepSr Ba h
theorem Sr.off {k o:Nat} {v:Value} (h:Sr w0 gs g gc gq cap cc cq L C R w) (hk:w0.heap.size≤k) (hn:∀ y ∈ L,∀ bx off,y.A=some ⟨bx,off,none⟩→bx≠k):Sr w0 gs g gc gq cap cc cq L C R (w.setCell ⟨k,o,none⟩ v):=by
 obtain ⟨l1,l2,l3,l4⟩:=h.lt
 exact ⟨far1 (by omega) h.s0,far1 (by omega) h.s1,far1 (by omega) h.s2,h.bl.off (by omega) hn,⟨by simp;exact h.cl.lt,fun j hj i u hu=>far1 (by omega) (h.cl.at_ j hj i u hu)⟩,fun j=>by rw [World.frozen?_setCell];exact h.cf j,⟨by simp;exact h.rl.lt,fun j hj i u hu=>far1 (by omega) (h.rl.at_ j hj i u hu)⟩,h.nc,h.gr.off _ _ hk,h.lt,h.ne⟩
theorem Sr.push {L2:List BE} (h:Sr w0 gs g gc gq cap cc cq L C R w) (hbl:BL w' g L2) (hl:L2.length=L.length) (hg:w.grownBy w' (some g)) (hn:∀ y ∈ L2,y ∈ L∨∀ bx off,y.A=some ⟨bx,off,none⟩→w.heap.size≤bx):Sr w0 gs g gc gq cap cc cq L2 C R w':=by
 obtain ⟨l1,l2,l3,l4⟩:=h.lt
 obtain ⟨n1,n2,n3,n4,n5⟩:=h.ne
 have hs:=h.gr.size
 have e:∀ k,k<w0.heap.size→k≠g→w'.heap[k]? = w.heap[k]? := fun k hk hne=>hg.block k (by omega) (by simpa using hne)
 have ec:=e gc l2 (by omega)
 have eq:=e gq l3 (by omega)
 have es:=e gs l4 (by omega)
 refine ⟨by rw [hl];exact (World.cell?_of_block es).trans h.s0,(World.cell?_of_block es).trans h.s1,(World.cell?_of_block es).trans h.s2,hbl,⟨Nat.lt_of_lt_of_le h.cl.lt hg.size,fun j hj i u hu=>(World.cell?_of_block ec).trans (h.cl.at_ j hj i u hu)⟩,fun j=>(World.frozen?_of_block ec).trans (h.cf j),⟨Nat.lt_of_lt_of_le h.rl.lt hg.size,fun j hj i u hu=>(World.cell?_of_block eq).trans (h.rl.at_ j hj i u hu)⟩,fun y hy bx off e2=>?_,h.gr.step hg (.inl rfl),h.lt,h.ne⟩
 rcases hn y hy with q | q
 ·exact h.nc y q bx off e2
 ·have:=q bx off e2;omega
end
end
end Go.Proofs.YtodpincpofoiiaaGreat
namespace Go.Proofs.YtodpincpofoiiaaGreat
section
set_option linter.unusedVariables false
set_option linter.unusedSimpArgs false
open Go.RowKit
def srunE (L:List BE) (C:List Ct) (st r:Int):Int:=if contactsE L C≠0 then contactsE L C else if st<1∨65536<st∨r<0∨32<r then 1 else 0
def srunS (L:List BE) (C:List Ct) (st r:Int):List QB × List Ct:=if srunE L C st r=0 then solveQ (L.map valB) C st r.toNat else ([],[])
def RetSolve (E:Int) (S:List QB × List Ct) (w:World) (e:Ending) (w':World):Prop:=∃ (A B:Option Addr) (n c m d:Nat) (L':List BE),e = .returned (.tuple #[.slice A n c,.slice B m d,.int .i64 E])∧SlB w' A n c L'∧SlE layC w' B m d S.2∧L'.map valB=S.1∧Below w.heap.size w w'

structure S1 (w0 : World) (gs : Nat) (sc sb : Value) (C : List Ct) (L' : List BE) (w : World) : Prop where
 c0:w.cell? ⟨gs,0,none⟩=some sb
 c1:w.cell? ⟨gs,1,none⟩=some sc
 c2:w.cell? ⟨gs,2,none⟩=some (.slice none 0 0)
 cf:∀ j,w.frozen? ⟨gs,j,none⟩=false
 oc:OwnE layC 53 w w0.heap.size sc C
 own:OwnE layB 27 w (gs+1) sb L'
 co:∀ x ∈ L',Sl w x.A x.n x.c x.l∧x.l≠[]∧∀ bx off,x.A=some ⟨bx,off,none⟩→gs<bx∧some bx≠sb.ownBlock
 bel:Below w0.heap.size w0 w
 lt:w0.heap.size≤gs∧gs<w.heap.size∧∀ k,sc.ownBlock=some k→k<gs
section
variable {w0 w w':World} {gs:Nat} {sc sb:Value} {C:List Ct} {L':List BE}
theorem keepS1 (hb:Below w.heap.size w w') (h:S1 w0 gs sc sb C L' w):S1 w0 gs sc sb C L' w' :=
 ⟨keepCell hb h.c0,keepCell hb h.c1,keepCell hb h.c2,fun j=>((bcell hb).2 _ _ h.lt.2.1).trans (h.cf j),h.oc.below hb,h.own.below hb,fun x hx=>⟨(h.co x hx).1.below hb,(h.co x hx).2⟩,keepBelow hb h.bel,h.lt.1,Nat.lt_of_lt_of_le h.lt.2.1 hb.size,h.lt.2.2⟩
theorem S1.drew (h:S1 w0 gs sc sb C L' w):S1 w0 gs sc sb C L' w.drew:=keepS1 (Below.refl _ _).drew h
theorem S1.set {wb:World} {k o:Nat} {v:Value} (hb:S1 w0 gs sc sb C L' wb) (h:S1 w0 gs sc sb C L' w) (hk:wb.heap.size≤k):S1 w0 gs sc sb C L' (w.setCell ⟨k,o,none⟩ v):=by
 obtain ⟨l1,l2,l3⟩:=hb.lt
 refine ⟨far1 (by omega) h.c0,far1 (by omega) h.c1,far1 (by omega) h.c2,fun j=>by rw [World.frozen?_setCell];exact h.cf j,h.oc.off (fun j hj=>by have:=l3 j hj;omega) o v,h.own.off (fun j hj=>by have:=(hb.own.lt hj).2;omega) o v,fun x hx=>?_,h.bel.setCell (p:=⟨k,o,none⟩) (by show w0.heap.size≤k;omega) _,l1,by simp;exact h.lt.2.1,l3⟩
 obtain ⟨h1,h2,h3⟩:=h.co x hx
 exact ⟨h1.setAt (fun bx off e=>by have:=sl_lt (hb.co x hx).1 h2 bx off e;omega),h2,h3⟩
theorem S1.push {wb wa w7 : World} {sb' : Value} {y : BE} (hb : S1 w0 gs sc sb C L' wb) (h : S1 w0 gs sc sb C L' w) (hS : Sl w y.A y.n y.c y.l) (hl : y.l ≠ []) (hf : ∀ bx off, y.A = some ⟨bx, off, none⟩ → wb.heap.size ≤ bx) (hba : Below w.heap.size w wa)
  (ho:OwnE layB 27 w7 (gs+1) sb' (L' ++ [y])) (hg:wa.grownBy w7 sb.ownBlock) (hat:sb'.ownBlock=sb.ownBlock∨sb'.ownBlock=some wa.heap.size) :
  S1 w0 gs sc sb' C (L' ++ [y]) (w7.setCell ⟨gs,0,none⟩ sb')∧w7.cell? ⟨gs,0,none⟩=some sb∧∀ k,w7.frozen? ⟨gs,k,none⟩=false:=by
 obtain ⟨l1,l2,l3⟩:=hb.lt
 have hsa:=hba.size
 have hsz:=hg.size
 have hg7:w.grownBy w7 sb.ownBlock:=grown_trans (grown_of_below hba) hg
 have hneg:some gs≠sb.ownBlock:=fun e=>by have:=(hb.own.lt e.symm).1;omega
 have e0:=hg7.block gs h.lt.2.1 hneg
 have nblk:∀ {z:BE},Sl w z.A z.n z.c z.l→z.l≠[]→(∀ bx off,z.A=some ⟨bx,off,none⟩→some bx≠sb.ownBlock)→∀ bx off,z.A=some ⟨bx,off,none⟩→some bx≠sb'.ownBlock:=fun {z} hs hne hno bx off e e2=>by
  have:=sl_lt hs hne bx off e
  rcases hat with q | q
  ·exact hno bx off e (e2.trans q)
  ·rw [q] at e2;cases e2;omega
 have hnw:∀ bx off,y.A=some ⟨bx,off,none⟩→some bx≠sb.ownBlock:=fun bx off e e2=>by have:=hf bx off e;have:=(hb.own.lt e2.symm).2;omega
 have c00:w7.cell? ⟨gs,0,none⟩=some sb:=(World.cell?_of_block e0).trans h.c0
 have c10:w7.cell? ⟨gs,1,none⟩=some sc:=(World.cell?_of_block e0).trans h.c1
 have c20:w7.cell? ⟨gs,2,none⟩=some (.slice none 0 0):=(World.cell?_of_block e0).trans h.c2
 have cf0:∀ k,w7.frozen? ⟨gs,k,none⟩=false:=fun k=>(World.frozen?_of_block e0).trans (h.cf k)
 have hoc:OwnE layC 53 w7 w0.heap.size sc C:=h.oc.kept hg7 (by
  cases hv:sc.ownBlock with
  | none=>exact .inl rfl
  | some k=>exact .inr (fun e=>by have:=l3 k hv;have:=(hb.own.lt e.symm).1;omega))
 refine ⟨⟨by go_simp,by go_simp,by go_simp,fun j=>by rw [World.frozen?_setCell];exact cf0 j,hoc.off (fun j hj=>by have:=l3 j hj;omega) 0 _,ho.off (fun j hj=>by have:=(ho.lt hj).1;omega) 0 _,fun x hx=>?_,?_,l1,by simp;have:=h.lt.2.1;omega,l3⟩,c00,cf0⟩
 ·rcases List.mem_append.1 hx with hx | hx
  ·obtain ⟨h1, h2, h3⟩ := h.co x hx
   exact ⟨(sl_grownR h1 hg7 (fun bx off e=>(h3 bx off e).2)).setAt (fun bx off e=>by have:=(h3 bx off e).1;omega),h2,fun bx off e=>⟨(h3 bx off e).1,nblk h1 h2 (fun bx off e=>(h3 bx off e).2) bx off e⟩⟩
  ·rw [List.mem_singleton.1 hx]
   exact ⟨(sl_grownR hS hg7 hnw).setAt (fun bx off e=>by have:=hf bx off e;omega),hl,fun bx off e=>⟨by have:=hf bx off e;omega,nblk hS hl hnw bx off e⟩⟩
 ·have hB : Below w0.heap.size w0 w7 := h.bel.grown hg7 h.bel.size (fun k hk => by have := (hb.own.lt hk).1; omega)
  exact hB.setCell (p:=⟨gs,0,none⟩) (by show w0.heap.size≤gs;omega) _
end

structure Sw2 (w0 : World) (Bz gs g gc cap cc : Nat) (L : List BE) (C : List Ct) (sr : Value) (R : List Rw) (w : World) : Prop where
 c0:w.cell? ⟨gs,0,none⟩=some (.slice (some ⟨g,0,none⟩) L.length cap)
 c1:w.cell? ⟨gs,1,none⟩=some (.slice (some ⟨gc,0,none⟩) C.length cc)
 c2:w.cell? ⟨gs,2,none⟩=some sr
 cf:∀ j,w.frozen? ⟨gs,j,none⟩=false
 bl:BL w g L
 cl:CellsE layC w gc 0 C
 clf:∀ j,w.frozen? ⟨gc,j,none⟩=false
 own:OwnE layR 190 w Bz sr R
 nc:∀ y ∈ L,∀ bx off,y.A=some ⟨bx,off,none⟩→gs<bx
 lo:∀ y ∈ L,∀ bx off,y.A=some ⟨bx,off,none⟩→bx<Bz
 bel:Below w0.heap.size w0 w
 lt:w0.heap.size≤gc∧gc<gs∧gs<g∧g<Bz∧Bz≤w.heap.size
section
variable {w0 w w':World} {Bz gs g gc cap cc:Nat} {L:List BE} {C:List Ct} {sr:Value} {R:List Rw}
theorem keepSw2 (hb:Below w.heap.size w w') (h:Sw2 w0 Bz gs g gc cap cc L C sr R w):Sw2 w0 Bz gs g gc cap cc L C sr R w':=by
 obtain ⟨l1,l2,l3,l4,l5⟩:=h.lt
 exact ⟨keepCell hb h.c0,keepCell hb h.c1,keepCell hb h.c2,fun j=>((bcell hb).2 _ _ (lt_of_cell h.c0)).trans (h.cf j),keepBL hb h.bl,h.cl.below hb,fun j=>((bcell hb).2 _ _ h.cl.lt).trans (h.clf j),h.own.below hb,h.nc,h.lo,keepBelow hb h.bel,l1,l2,l3,l4,Nat.le_trans l5 hb.size⟩
theorem Sw2.drew (h:Sw2 w0 Bz gs g gc cap cc L C sr R w):Sw2 w0 Bz gs g gc cap cc L C sr R w.drew:=keepSw2 (Below.refl _ _).drew h
theorem Sw2.push {wa w7:World} {sr':Value} {y:Rw} (h:Sw2 w0 Bz gs g gc cap cc L C sr R w) (hba:Below w.heap.size w wa) (ho:OwnE layR 190 w7 Bz sr' (R ++ [y])) (hg:wa.grownBy w7 sr.ownBlock) :
  Sw2 w0 Bz gs g gc cap cc L C sr' (R ++ [y]) (w7.setCell ⟨gs,2,none⟩ sr')∧w7.cell? ⟨gs,2,none⟩=some sr∧∀ k,w7.frozen? ⟨gs,k,none⟩=false:=by
 obtain ⟨l1,l2,l3,l4,l5⟩:=h.lt
 have hg7:w.grownBy w7 sr.ownBlock:=grown_trans (grown_of_below hba) hg
 have hno:∀ k,k<Bz→some k≠sr.ownBlock:=fun k hk e=>by have:=(h.own.lt e.symm).1;omega
 have e0:=hg7.block gs (by omega) (hno gs (by omega))
 have eg:=hg7.block g (by omega) (hno g l4)
 have ec:=hg7.block gc (by omega) (hno gc (by omega))
 have c00:=(World.cell?_of_block e0).trans h.c0
 have c10:=(World.cell?_of_block e0).trans h.c1
 have c20:=(World.cell?_of_block e0).trans h.c2
 have cf0:∀ k,w7.frozen? ⟨gs,k,none⟩=false:=fun k=>(World.frozen?_of_block e0).trans (h.cf k)
 have hbl:BL w7 g L:=⟨⟨Nat.lt_of_lt_of_le h.bl.cl.lt hg7.size,fun j hj i u hu=>(World.cell?_of_block eg).trans (h.bl.cl.at_ j hj i u hu)⟩,fun j=>(World.frozen?_of_block eg).trans (h.bl.free j),fun x hx=>sl_grownR (h.bl.co x hx) hg7 (fun bx off e=>hno bx (h.lo x hx bx off e)),h.bl.ne⟩
 have hcl:CellsE layC w7 gc 0 C:=⟨Nat.lt_of_lt_of_le h.cl.lt hg7.size,fun j hj i u hu=>(World.cell?_of_block ec).trans (h.cl.at_ j hj i u hu)⟩
 refine ⟨⟨by go_simp,by go_simp,by go_simp,fun j=>by rw [World.frozen?_setCell];exact cf0 j,hbl.off (by omega) (fun x hx bx off e=>by have:=h.nc x hx bx off e;omega),⟨by simp;exact hcl.lt,fun j hj i u hu=>far1 (by omega) (hcl.at_ j hj i u hu)⟩,fun j=>by rw [World.frozen?_setCell];exact (World.frozen?_of_block ec).trans (h.clf j),ho.off (fun j hj=>by have:=(ho.lt hj).1;omega) 2 _,h.nc,h.lo,?_,l1,l2,l3,l4,by simp;have:=hg7.size;omega⟩,c20,cf0⟩
 have hB:Below w0.heap.size w0 w7:=h.bel.grown hg7 h.bel.size (fun k hk=>by have:=(h.own.lt hk).1;omega)
 exact hB.setCell (p:=⟨gs,2,none⟩) (by show w0.heap.size≤gs;omega) _

theorem Sw2.done {gq cq:Nat} (h:Sw2 w0 Bz gs g gc cap cc L C (.slice (some ⟨gq,0,none⟩) R.length cq) R w) (hR:R≠[]):Sr w gs g gc gq cap cc cq L C R w:=by
 obtain ⟨l1,l2,l3,l4,l5⟩:=h.lt
 rcases h.own.form with ⟨h1,h2⟩ | ⟨g',cap',hv,h3,h4,-,-,-,h6⟩
 ·exact absurd h2 hR
 ·cases hv
  exact ⟨h.c0,h.c1,h.c2,h.bl,h.cl,h.clf,h6,fun y hy bx off e=>by have:=h.nc y hy bx off e;omega,.refl _ _ _,⟨by omega,by omega,h4,by omega⟩,by omega,by omega,by omega,by omega,by omega⟩
end
section
variable {w0 wm w w':World} {gs g gc gq cap cc cq:Nat} {L L2:List BE} {C C2:List Ct} {R:List Rw}
theorem Gr2.trans {a b d:World} {g c:Nat} (h:Gr2 a b g c) (k:Gr2 b d g c):Gr2 a d g c :=
 ⟨k.os.trans h.os,k.tape.trans h.tape,k.output.trans h.output,Nat.le_trans h.size k.size,fun j hj h1 h2=>(k.block j (Nat.lt_of_lt_of_le hj h.size) h1 h2).trans (h.block j hj h1 h2)⟩
end
theorem solveQ_nil (Q:List QB) (st:Int) (r:Nat):solveQ Q [] st r=(Q,[]):=by
 unfold solveQ
 rw [List.length_nil,Nat.mul_zero]
 rfl
end
end Go.Proofs.YtodpincpofoiiaaGreat
