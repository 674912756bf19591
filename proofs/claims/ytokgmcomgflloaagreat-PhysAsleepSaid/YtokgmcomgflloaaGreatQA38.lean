/- Parts of a proof: contracts and laws. -/
import Derived.Test.YtokgmcomgflloaaGreatQA37
import Derived.Test.YtokgmcomgflloaaGreatQA02
import Derived.Test.YtokgmcomgflloaaGreatQA21
import Derived.Test.YtokgmcomgflloaaGreatQA16
set_option maxRecDepth 100000
set_option maxHeartbeats 16000000
namespace Go.Proofs.YtokgmcomgflloaaGreat
section
set_option linter.unusedVariables false
set_option linter.unusedSimpArgs false
open Go.RowKit
variable {w0 w w':World}
def encR (x:Rw):List Value:=[.int .i64 x.t1,.int .i64 x.t2,.int .i64 x.ease,.int .i64 x.slip,.int .i64 x.lift,.int .i64 x.bound]
def Ip:Lay Rw:=⟨encR,6,fun _=>rfl,fun x v hv=>by simp only [encR,List.mem_cons,List.mem_nil_iff,or_false] at hv;rcases hv with rfl | rfl | rfl | rfl | rfl | rfl <;> rfl,by omega⟩
theorem C8 {g i:Nat} {l:List Rw} {x:Rw} (h:aJ Ip w g 0 l) (hk:i<l.length) (hx:x=l[i]):w.cell? ⟨g,i*6,none⟩=some (.int .i64 x.t1)∧w.cell? ⟨g,i*6+1,none⟩=some (.int .i64 x.t2)∧w.cell? ⟨g,i*6+2,none⟩=some (.int .i64 x.ease)∧w.cell? ⟨g,i*6+3,none⟩=some (.int .i64 x.slip)∧w.cell? ⟨g,i*6+4,none⟩=some (.int .i64 x.lift)∧w.cell? ⟨g,i*6+5,none⟩=some (.int .i64 x.bound):=by
 subst hx;have H:∀ j v,(encR l[i])[j]? = some v→w.cell? ⟨g,i*6+j,none⟩=some v:=fun j v hv=>by have h2:w.cell? ⟨g,0+i*6+j,none⟩=some v:=h.at_ i hk j v hv;rwa [Nat.zero_add] at h2
 exact ⟨H 0 _ rfl,H 1 _ rfl,H 2 _ rfl,H 3 _ rfl,H 4 _ rfl,H 5 _ rfl⟩
theorem uo {g i:Nat} {l:List Ct} {x:Ct} (h:aJ bZ w g 0 l) (hk:i<l.length) (hx:l[i]? = some x):w.cell? ⟨g,i*10,none⟩=some (.int .i64 x.a)∧w.cell? ⟨g,i*10+1,none⟩=some (.int .i64 x.b)∧w.cell? ⟨g,i*10+2,none⟩=some (.int .i64 x.id)∧w.cell? ⟨g,i*10+3,none⟩=some (.int .i64 x.px)∧w.cell? ⟨g,i*10+4,none⟩=some (.int .i64 x.py)∧w.cell? ⟨g,i*10+5,none⟩=some (.int .i64 x.nx)∧w.cell? ⟨g,i*10+6,none⟩=some (.int .i64 x.ny)∧w.cell? ⟨g,i*10+7,none⟩=some (.int .i64 x.dep)∧w.cell? ⟨g,i*10+8,none⟩=some (.int .i64 x.push)∧w.cell? ⟨g,i*10+9,none⟩=some (.int .i64 x.sli):=by
 have hx:l[i]=x:=by rw [List.getElem?_eq_getElem hk] at hx;exact Option.some.inj hx
 subst hx;have H:∀ j v,(nP l[i])[j]? = some v→w.cell? ⟨g,i*10+j,none⟩=some v:=fun j v hv=>by have h2:w.cell? ⟨g,0+i*10+j,none⟩=some v:=h.at_ i hk j v hv;rwa [Nat.zero_add] at h2
 exact ⟨H 0 _ rfl,H 1 _ rfl,H 2 _ rfl,H 3 _ rfl,H 4 _ rfl,H 5 _ rfl,H 6 _ rfl,H 7 _ rfl,H 8 _ rfl,H 9 _ rfl⟩
theorem Rz.here (w:World) (t:TypeId):Rz (w.alloc (.cells #[.int .i64 0,.int .i64 0,.int .i64 0,.int .i64 0,.int .i64 0,.int .i64 0] t)) w.heap.size:=⟨fun j hj=>match j,hj with | 0,_ | 1,_ | 2,_ | 3,_ | 4,_ | 5,_=>⟨.int .i64 0,by go_simp⟩,fun j=>by go_simp⟩
theorem Rz.drew {g:Nat} (h:Rz w g):Rz w.drew g:=⟨h.c,h.free⟩
theorem Rg.next {g k:Nat} {a0 a1 a2 a3 a4 a5:Int} (h:Rg w g a0 a1 a2 a3 a4 a5) (hg:w.grownBy w' (some k)) (hne:g≠k):Rg w' g a0 a1 a2 a3 a4 a5 :=
 have e:=hg.block g (lt_of_cell h.c0) (by simpa using hne)
 ⟨(World.cell?_of_block e).trans h.c0,(World.cell?_of_block e).trans h.c1,(World.cell?_of_block e).trans h.c2,(World.cell?_of_block e).trans h.c3,(World.cell?_of_block e).trans h.c4,(World.cell?_of_block e).trans h.c5,fun j=>(World.frozen?_of_block e).trans (h.f j)⟩

structure D9 (w w' : World) (g c : Nat) : Prop where
 os:w'.os=w.os
 tape:w'.tape=w.tape
 output:w'.output=w.output
 size:w.heap.size≤w'.heap.size
 block:∀ k,k<w.heap.size→k≠g→k≠c→w'.heap[k]? = w.heap[k]?
theorem D9.refl (w:World) (g c:Nat):D9 w w g c:=⟨rfl,rfl,rfl,Nat.le_refl _,fun _ _ _ _=>rfl⟩
theorem D9.step {a b d:World} {g c:Nat} (h:D9 a b g c) {k:Nat} (hg:b.grownBy d (some k)) (hk:k=g∨k=c):D9 a d g c :=
 ⟨hg.os.trans h.os,hg.tape.trans h.tape,hg.output.trans h.output,Nat.le_trans h.size hg.size,fun j hj h1 h2=>(hg.block j (Nat.lt_of_lt_of_le hj h.size) (by simp;omega)).trans (h.block j hj h1 h2)⟩
theorem D9.below {a b d:World} {g c:Nat} (h:D9 a b g c) (hb:Below b.heap.size b d):D9 a d g c :=
 ⟨hb.os.trans h.os,hb.tape.trans h.tape,hb.output.trans h.output,Nat.le_trans h.size hb.size,fun j hj h1 h2=>(hb.block j (Nat.lt_of_lt_of_le hj h.size)).trans (h.block j hj h1 h2)⟩
theorem D9.off {a b:World} {g c k:Nat} (h:D9 a b g c) (o:Nat) (v:Value) (hk:a.heap.size≤k):D9 a (b.setCell ⟨k,o,none⟩ v) g c :=
 have hg:=aN b k o v
 ⟨hg.os.trans h.os,hg.tape.trans h.tape,hg.output.trans h.output,Nat.le_trans h.size hg.size,fun j hj h1 h2=>(hg.block j (Nat.lt_of_lt_of_le hj h.size) (by simp;omega)).trans (h.block j hj h1 h2)⟩

structure Sr (w0 : World) (gs g gc gq cap cc cq : Nat) (L : List BE) (C : List Ct) (R : List Rw) (w : World) : Prop where
 s0:w.cell? ⟨gs,0,none⟩=some (.slice (some ⟨g,0,none⟩) L.length cap)
 s1:w.cell? ⟨gs,1,none⟩=some (.slice (some ⟨gc,0,none⟩) C.length cc)
 s2:w.cell? ⟨gs,2,none⟩=some (.slice (some ⟨gq,0,none⟩) R.length cq)
 bl:BL w g L
 cl:aJ bZ w gc 0 C
 cf:∀ j,w.frozen? ⟨gc,j,none⟩=false
 rl:aJ Ip w gq 0 R
 nc:∀ y ∈ L,∀ bx off,y.A=some ⟨bx,off,none⟩→bx≠gc
 gr:D9 w0 w g gc
 lt:g<w0.heap.size∧gc<w0.heap.size∧gq<w0.heap.size∧gs<w0.heap.size
 ne:g≠gc∧g≠gs∧gc≠gs∧g≠gq∧gc≠gq
section
variable {w0 w w':World}
variable {w0 w w':World} {gs g gc gq cap cc cq:Nat} {L:List BE} {C:List Ct} {R:List Rw}
theorem tL (hb:Below w.heap.size w w') (h:Sr w0 gs g gc gq cap cc cq L C R w):Sr w0 gs g gc gq cap cc cq L C R w' :=
 ⟨keepCell hb h.s0,keepCell hb h.s1,keepCell hb h.s2,fI hb h.bl,h.cl.below hb,fun j=>((dF hb).2 _ _ h.cl.lt).trans (h.cf j),h.rl.below hb,h.nc,h.gr.below hb,h.lt,h.ne⟩
theorem Sr.drew (h:Sr w0 gs g gc gq cap cc cq L C R w):Sr w0 gs g gc gq cap cc cq L C R w.drew:=tL (Below.refl _ _).drew h
theorem Sr.alloc (h:Sr w0 gs g gc gq cap cc cq L C R w) (o:Obj):Sr w0 gs g gc gq cap cc cq L C R (w.alloc o):=tL Ba h
theorem Sr.off {k o:Nat} {v:Value} (h:Sr w0 gs g gc gq cap cc cq L C R w) (hk:w0.heap.size≤k) (hn:∀ y ∈ L,∀ bx off,y.A=some ⟨bx,off,none⟩→bx≠k):Sr w0 gs g gc gq cap cc cq L C R (w.setCell ⟨k,o,none⟩ v):=by
 obtain ⟨l1,l2,l3,l4⟩:=h.lt;exact ⟨aY (by omega) h.s0,aY (by omega) h.s1,aY (by omega) h.s2,h.bl.off (by omega) hn,⟨by simp;exact h.cl.lt,fun j hj i u hu=>aY (by omega) (h.cl.at_ j hj i u hu)⟩,fun j=>by rw [World.frozen?_setCell];exact h.cf j,⟨by simp;exact h.rl.lt,fun j hj i u hu=>aY (by omega) (h.rl.at_ j hj i u hu)⟩,h.nc,h.gr.off _ _ hk,h.lt,h.ne⟩
theorem Sr.push {L2:List BE} (h:Sr w0 gs g gc gq cap cc cq L C R w) (hbl:BL w' g L2) (hl:L2.length=L.length) (hg:w.grownBy w' (some g)) (hn:∀ y ∈ L2,y ∈ L∨∀ bx off,y.A=some ⟨bx,off,none⟩→w.heap.size≤bx):Sr w0 gs g gc gq cap cc cq L2 C R w':=by
 obtain ⟨l1,l2,l3,l4⟩:=h.lt;obtain ⟨n1,n2,n3,n4,n5⟩:=h.ne;have hs:=h.gr.size;have e:∀ k,k<w0.heap.size→k≠g→w'.heap[k]? = w.heap[k]? := fun k hk hne=>hg.block k (by omega) (by simpa using hne)
 have ec:=e gc l2 (by omega);have eq:=e gq l3 (by omega);have es:=e gs l4 (by omega);refine ⟨by rw [hl];exact (World.cell?_of_block es).trans h.s0,(World.cell?_of_block es).trans h.s1,(World.cell?_of_block es).trans h.s2,hbl,⟨Nat.lt_of_lt_of_le h.cl.lt hg.size,fun j hj i u hu=>(World.cell?_of_block ec).trans (h.cl.at_ j hj i u hu)⟩,fun j=>(World.frozen?_of_block ec).trans (h.cf j),⟨Nat.lt_of_lt_of_le h.rl.lt hg.size,fun j hj i u hu=>(World.cell?_of_block eq).trans (h.rl.at_ j hj i u hu)⟩,fun y hy bx off e2=>?_,h.gr.step hg (.inl rfl),h.lt,h.ne⟩
 rcases hn y hy with q | q
 ·exact h.nc y q bx off e2
 ·have:=q bx off e2;omega
end
def oZ (L:List BE) (C:List Ct) (st r:Int):Int:=if bg L C≠0 then bg L C else if st<1∨65536<st∨r<0∨32<r then 1 else 0
def qc (L:List BE) (C:List Ct) (st r:Int):List QB × List Ct:=if oZ L C st r=0 then nU (L.map aF) C st r.toNat else ([],[])
def Pn (E:Int) (S:List QB × List Ct) (w:World) (e:Ending) (w':World):Prop:=∃ (A B:Option Addr) (n c m d:Nat) (L':List BE),e = .returned (.tuple #[.slice A n c,.slice B m d,.int .i64 E])∧iH w' A n c L'∧dW bZ w' B m d S.2∧L'.map aF=S.1∧Below w.heap.size w w'

structure S1 (w0 : World) (gs : Nat) (sc sb : Value) (C : List Ct) (L' : List BE) (w : World) : Prop where
 c0:w.cell? ⟨gs,0,none⟩=some sb
 c1:w.cell? ⟨gs,1,none⟩=some sc
 c2:w.cell? ⟨gs,2,none⟩=some (.slice none 0 0)
 cf:∀ j,w.frozen? ⟨gs,j,none⟩=false
 oc:aU bZ 106 w w0.heap.size sc C
 own:aU jo 27 w (gs+1) sb L'
 co:∀ x ∈ L',Sl w x.A x.n x.c x.l∧x.l≠[]∧∀ bx off,x.A=some ⟨bx,off,none⟩→gs<bx∧some bx≠sb.ownBlock
 bel:Below w0.heap.size w0 w
 lt:w0.heap.size≤gs∧gs<w.heap.size∧∀ k,sc.ownBlock=some k→k<gs
section
variable {w0 w w':World}
variable {w0 w w':World} {gs:Nat} {sc sb:Value} {C:List Ct} {L':List BE}
theorem BM (hb:Below w.heap.size w w') (h:S1 w0 gs sc sb C L' w):S1 w0 gs sc sb C L' w' :=
 ⟨keepCell hb h.c0,keepCell hb h.c1,keepCell hb h.c2,fun j=>((dF hb).2 _ _ h.lt.2.1).trans (h.cf j),h.oc.below hb,h.own.below hb,fun x hx=>⟨(h.co x hx).1.below hb,(h.co x hx).2⟩,aj hb h.bel,h.lt.1,Nat.lt_of_lt_of_le h.lt.2.1 hb.size,h.lt.2.2⟩
theorem S1.drew (h:S1 w0 gs sc sb C L' w):S1 w0 gs sc sb C L' w.drew:=BM (Below.refl _ _).drew h
theorem S1.set {wb:World} {k o:Nat} {v:Value} (hb:S1 w0 gs sc sb C L' wb) (h:S1 w0 gs sc sb C L' w) (hk:wb.heap.size≤k):S1 w0 gs sc sb C L' (w.setCell ⟨k,o,none⟩ v):=by
 obtain ⟨l1,l2,l3⟩:=hb.lt;refine ⟨aY (by omega) h.c0,aY (by omega) h.c1,aY (by omega) h.c2,fun j=>by rw [World.frozen?_setCell];exact h.cf j,h.oc.off (fun j hj=>by have:=l3 j hj;omega) o v,h.own.off (fun j hj=>by have:=(hb.own.lt hj).2;omega) o v,fun x hx=>?_,h.bel.setCell (p:=⟨k,o,none⟩) (by show w0.heap.size≤k;omega) _,l1,by simp;exact h.lt.2.1,l3⟩;obtain ⟨h1,h2,h3⟩:=h.co x hx;exact ⟨h1.setAt (fun bx off e=>by have:=kI (hb.co x hx).1 h2 bx off e;omega),h2,h3⟩
theorem S1.push {wb wa w7 : World} {sb' : Value} {y : BE} (hb : S1 w0 gs sc sb C L' wb) (h : S1 w0 gs sc sb C L' w) (hS : Sl w y.A y.n y.c y.l) (hl : y.l ≠ []) (hf : ∀ bx off, y.A = some ⟨bx, off, none⟩ → wb.heap.size ≤ bx) (hba : Below w.heap.size w wa)
  (ho:aU jo 27 w7 (gs+1) sb' (L' ++ [y])) (hg:wa.grownBy w7 sb.ownBlock) (hat:sb'.ownBlock=sb.ownBlock∨sb'.ownBlock=some wa.heap.size) :
  S1 w0 gs sc sb' C (L' ++ [y]) (w7.setCell ⟨gs,0,none⟩ sb')∧w7.cell? ⟨gs,0,none⟩=some sb∧∀ k,w7.frozen? ⟨gs,k,none⟩=false:=by
 obtain ⟨l1,l2,l3⟩:=hb.lt;have hsa:=hba.size;have hsz:=hg.size;have hg7:w.grownBy w7 sb.ownBlock:=aS (bN hba) hg;have hneg:some gs≠sb.ownBlock:=fun e=>by have:=(hb.own.lt e.symm).1;omega
 have e0:=hg7.block gs h.lt.2.1 hneg
 have nblk:∀ {z:BE},Sl w z.A z.n z.c z.l→z.l≠[]→(∀ bx off,z.A=some ⟨bx,off,none⟩→some bx≠sb.ownBlock)→∀ bx off,z.A=some ⟨bx,off,none⟩→some bx≠sb'.ownBlock:=fun {z} hs hne hno bx off e e2=>by
  have:=kI hs hne bx off e
  rcases hat with q | q
  ·exact hno bx off e (e2.trans q)
  ·rw [q] at e2;cases e2;omega
 have hnw:∀ bx off,y.A=some ⟨bx,off,none⟩→some bx≠sb.ownBlock:=fun bx off e e2=>by have:=hf bx off e;have:=(hb.own.lt e2.symm).2;omega
 have c00:w7.cell? ⟨gs,0,none⟩=some sb:=(World.cell?_of_block e0).trans h.c0;have c10:w7.cell? ⟨gs,1,none⟩=some sc:=(World.cell?_of_block e0).trans h.c1;have c20:w7.cell? ⟨gs,2,none⟩=some (.slice none 0 0):=(World.cell?_of_block e0).trans h.c2;have cf0:∀ k,w7.frozen? ⟨gs,k,none⟩=false:=fun k=>(World.frozen?_of_block e0).trans (h.cf k)
 have hoc:aU bZ 106 w7 w0.heap.size sc C:=h.oc.kept hg7 (by
  cases hv:sc.ownBlock with
  | none=>exact .inl rfl
  | some k=>exact .inr (fun e=>by have:=l3 k hv;have:=(hb.own.lt e.symm).1;omega))
 refine ⟨⟨by go_simp,by go_simp,by go_simp,fun j=>by rw [World.frozen?_setCell];exact cf0 j,hoc.off (fun j hj=>by have:=l3 j hj;omega) 0 _,ho.off (fun j hj=>by have:=(ho.lt hj).1;omega) 0 _,fun x hx=>?_,?_,l1,by simp;have:=h.lt.2.1;omega,l3⟩,c00,cf0⟩
 ·rcases List.mem_append.1 hx with hx | hx
  ·obtain ⟨h1, h2, h3⟩ := h.co x hx;exact ⟨(jh h1 hg7 (fun bx off e=>(h3 bx off e).2)).setAt (fun bx off e=>by have:=(h3 bx off e).1;omega),h2,fun bx off e=>⟨(h3 bx off e).1,nblk h1 h2 (fun bx off e=>(h3 bx off e).2) bx off e⟩⟩
  ·rw [List.mem_singleton.1 hx];exact ⟨(jh hS hg7 hnw).setAt (fun bx off e=>by have:=hf bx off e;omega),hl,fun bx off e=>⟨by have:=hf bx off e;omega,nblk hS hl hnw bx off e⟩⟩
 ·have hB : Below w0.heap.size w0 w7 := h.bel.grown hg7 h.bel.size (fun k hk => by have := (hb.own.lt hk).1; omega);exact hB.setCell (p:=⟨gs,0,none⟩) (by show w0.heap.size≤gs;omega) _
end
theorem JK:(Tryz.prog.info? 173).map (fun i=>(i.zero,i.size,i.bytes))=some (some (.agg #[.int .i64 0,.int .i64 0,.int .i64 0,.int .i64 0,.int .i64 0,.int .i64 0]),6,48):=by kernel_rfl
theorem OZ:IY Ip 169 173 48:=⟨Tryz.underlying169,by obtain ⟨i0,hi,hz0,hz1,hz2⟩:=info_parts JK;exact ⟨i0,_,hi,hz0,hz1,hz2,rfl⟩⟩
theorem BK {g:Nat} {x:Rw} (h0:w.cell? ⟨g,0,none⟩=some (.int .i64 x.t1)) (h1:w.cell? ⟨g,1,none⟩=some (.int .i64 x.t2)) (h2:w.cell? ⟨g,2,none⟩=some (.int .i64 x.ease)) (h3:w.cell? ⟨g,3,none⟩=some (.int .i64 x.slip)) (h4:w.cell? ⟨g,4,none⟩=some (.int .i64 x.lift)) (h5:w.cell? ⟨g,5,none⟩=some (.int .i64 x.bound)):aJ Ip w g 0 [x]:=by
 refine ⟨lt_of_cell h0,fun j hj i v hv=>?_⟩;have hj0:j=0:=by simpa using hj
 subst hj0;rw [Nat.zero_mul,Nat.zero_add]
 try rw [Nat.zero_add]
 have hv:(encR x)[i]? = some v:=hv;unfold encR at hv
 match i,hv with
 | 0,hv=>have e:some _=some v:=hv;cases e;exact h0
 | 1,hv=>have e:some _=some v:=hv;cases e;exact h1
 | 2,hv=>have e:some _=some v:=hv;cases e;exact h2
 | 3,hv=>have e:some _=some v:=hv;cases e;exact h3
 | 4,hv=>have e:some _=some v:=hv;cases e;exact h4
 | 5,hv=>have e:some _=some v:=hv;cases e;exact h5
 | i+6,hv=>simp at hv

structure DV (w0 : World) (Bz gs g gc cap cc : Nat) (L : List BE) (C : List Ct) (sr : Value) (R : List Rw) (w : World) : Prop where
 c0:w.cell? ⟨gs,0,none⟩=some (.slice (some ⟨g,0,none⟩) L.length cap)
 c1:w.cell? ⟨gs,1,none⟩=some (.slice (some ⟨gc,0,none⟩) C.length cc)
 c2:w.cell? ⟨gs,2,none⟩=some sr
 cf:∀ j,w.frozen? ⟨gs,j,none⟩=false
 bl:BL w g L
 cl:aJ bZ w gc 0 C
 clf:∀ j,w.frozen? ⟨gc,j,none⟩=false
 own:aU Ip 173 w Bz sr R
 nc:∀ y ∈ L,∀ bx off,y.A=some ⟨bx,off,none⟩→gs<bx
 lo:∀ y ∈ L,∀ bx off,y.A=some ⟨bx,off,none⟩→bx<Bz
 bel:Below w0.heap.size w0 w
 lt:w0.heap.size≤gc∧gc<gs∧gs<g∧g<Bz∧Bz≤w.heap.size
section
variable {w0 w w':World}
variable {w0 w w':World} {Bz gs g gc cap cc:Nat} {L:List BE} {C:List Ct} {sr:Value} {R:List Rw}
theorem wJ (hb:Below w.heap.size w w') (h:DV w0 Bz gs g gc cap cc L C sr R w):DV w0 Bz gs g gc cap cc L C sr R w':=by
 obtain ⟨l1,l2,l3,l4,l5⟩:=h.lt;exact ⟨keepCell hb h.c0,keepCell hb h.c1,keepCell hb h.c2,fun j=>((dF hb).2 _ _ (lt_of_cell h.c0)).trans (h.cf j),fI hb h.bl,h.cl.below hb,fun j=>((dF hb).2 _ _ h.cl.lt).trans (h.clf j),h.own.below hb,h.nc,h.lo,aj hb h.bel,l1,l2,l3,l4,Nat.le_trans l5 hb.size⟩
theorem DV.drew (h:DV w0 Bz gs g gc cap cc L C sr R w):DV w0 Bz gs g gc cap cc L C sr R w.drew:=wJ (Below.refl _ _).drew h
theorem DV.push {wa w7:World} {sr':Value} {y:Rw} (h:DV w0 Bz gs g gc cap cc L C sr R w) (hba:Below w.heap.size w wa) (ho:aU Ip 173 w7 Bz sr' (R ++ [y])) (hg:wa.grownBy w7 sr.ownBlock) :
  DV w0 Bz gs g gc cap cc L C sr' (R ++ [y]) (w7.setCell ⟨gs,2,none⟩ sr')∧w7.cell? ⟨gs,2,none⟩=some sr∧∀ k,w7.frozen? ⟨gs,k,none⟩=false:=by
 obtain ⟨l1,l2,l3,l4,l5⟩:=h.lt;have hg7:w.grownBy w7 sr.ownBlock:=aS (bN hba) hg;have hno:∀ k,k<Bz→some k≠sr.ownBlock:=fun k hk e=>by have:=(h.own.lt e.symm).1;omega
 have e0:=hg7.block gs (by omega) (hno gs (by omega));have eg:=hg7.block g (by omega) (hno g l4);have ec:=hg7.block gc (by omega) (hno gc (by omega));have c00:=(World.cell?_of_block e0).trans h.c0;have c10:=(World.cell?_of_block e0).trans h.c1;have c20:=(World.cell?_of_block e0).trans h.c2;have cf0:∀ k,w7.frozen? ⟨gs,k,none⟩=false:=fun k=>(World.frozen?_of_block e0).trans (h.cf k)
 have hbl:BL w7 g L:=⟨⟨Nat.lt_of_lt_of_le h.bl.cl.lt hg7.size,fun j hj i u hu=>(World.cell?_of_block eg).trans (h.bl.cl.at_ j hj i u hu)⟩,fun j=>(World.frozen?_of_block eg).trans (h.bl.free j),fun x hx=>jh (h.bl.co x hx) hg7 (fun bx off e=>hno bx (h.lo x hx bx off e)),h.bl.ne⟩;have hcl:aJ bZ w7 gc 0 C:=⟨Nat.lt_of_lt_of_le h.cl.lt hg7.size,fun j hj i u hu=>(World.cell?_of_block ec).trans (h.cl.at_ j hj i u hu)⟩;refine ⟨⟨by go_simp,by go_simp,by go_simp,fun j=>by rw [World.frozen?_setCell];exact cf0 j,hbl.off (by omega) (fun x hx bx off e=>by have:=h.nc x hx bx off e;omega),⟨by simp;exact hcl.lt,fun j hj i u hu=>aY (by omega) (hcl.at_ j hj i u hu)⟩,fun j=>by rw [World.frozen?_setCell];exact (World.frozen?_of_block ec).trans (h.clf j),ho.off (fun j hj=>by have:=(ho.lt hj).1;omega) 2 _,h.nc,h.lo,?_,l1,l2,l3,l4,by simp;have:=hg7.size;omega⟩,c20,cf0⟩;have hB:Below w0.heap.size w0 w7:=h.bel.grown hg7 h.bel.size (fun k hk=>by have:=(h.own.lt hk).1;omega);exact hB.setCell (p:=⟨gs,2,none⟩) (by show w0.heap.size≤gs;omega) _

theorem DV.done {gq cq:Nat} (h:DV w0 Bz gs g gc cap cc L C (.slice (some ⟨gq,0,none⟩) R.length cq) R w) (hR:R≠[]):Sr w gs g gc gq cap cc cq L C R w:=by
 obtain ⟨l1,l2,l3,l4,l5⟩:=h.lt
 rcases h.own.form with ⟨h1,h2⟩ | ⟨g',cap',hv,h3,h4,-,-,-,h6⟩
 ·exact absurd h2 hR
 ·cases hv
  exact ⟨h.c0,h.c1,h.c2,h.bl,h.cl,h.clf,h6,fun y hy bx off e=>by have:=h.nc y hy bx off e;omega,.refl _ _ _,⟨by omega,by omega,h4,by omega⟩,by omega,by omega,by omega,by omega,by omega⟩
end
section
variable {w0 w w':World}
variable {w0 wm w w':World} {gs g gc gq cap cc cq:Nat} {L L2:List BE} {C C2:List Ct} {R:List Rw}
theorem D9.trans {a b d:World} {g c:Nat} (h:D9 a b g c) (k:D9 b d g c):D9 a d g c :=
 ⟨k.os.trans h.os,k.tape.trans h.tape,k.output.trans h.output,Nat.le_trans h.size k.size,fun j hj h1 h2=>(k.block j (Nat.lt_of_lt_of_le hj h.size) h1 h2).trans (h.block j hj h1 h2)⟩
theorem Sr.self (h:Sr w0 gs g gc gq cap cc cq L C R w):Sr w gs g gc gq cap cc cq L C R w:=by
 obtain ⟨l1,l2,l3,l4⟩:=h.lt;have:=h.gr.size;exact ⟨h.s0,h.s1,h.s2,h.bl,h.cl,h.cf,h.rl,h.nc,.refl _ _ _,⟨by omega,by omega,by omega,by omega⟩,h.ne⟩
theorem Sr.rebase (h:Sr w0 gs g gc gq cap cc cq L C R wm) (k:Sr wm gs g gc gq cap cc cq L2 C2 R w):Sr w0 gs g gc gq cap cc cq L2 C2 R w :=
 ⟨k.s0,k.s1,k.s2,k.bl,k.cl,k.cf,k.rl,k.nc,h.gr.trans k.gr,h.lt,h.ne⟩
end
theorem OJ {b:Bd} (h:kT b=0):0≤b.rub:=by
 unfold kT at h
 by_cases k1:(aI 58982400 b.px b.py && aI 268435456 b.vx b.vy && iA b.spin (-16777216) 16777216 && iA b.ang 0 65535)=true
 ·rw [if_pos k1] at h
  by_cases k2:(iA b.mass 0 1099511627776 && iA b.iner 0 1099511627776 && iA b.bounce 0 65536 && iA b.rub 0 65536 && iA b.calm 0 1000)=true
  ·simp only [Bool.and_eq_true] at k2;exact (bX.1 k2.1.2).1
  ·rw [if_neg k2] at h;cases h
 ·rw [if_neg k1] at h;cases h
theorem IE {L:List BE} (hv:∀ y ∈ L,aT y.b y.l=0) {x:Ct} (hok:fT L.length x) (st:Int):0≤(yR (L.map aF) st x).bound:=by
 have hq:∀ i:Int,0≤i→i<(L.length:Int)→0≤(qB (L.map aF) i).rub:=fun i h0 h1=>by
  obtain ⟨k,rfl⟩:∃ k:Nat,i=k:=⟨i.toNat,by omega⟩;have hk:k<L.length:=by omega
  rw [iY (y:=aF L[k]) rfl (by rw [List.getElem?_map,List.getElem?_eq_getElem hk];rfl)];exact OJ (bJ (hv L[k] (List.getElem_mem hk))).2
 have h1:=hq x.a (by have:=hok.1;omega) (by have:=hok.1;omega);have h2:=hq x.b (by have:=hok.1;omega) (by have:=hok.1;omega);show 0≤min _ _;omega
theorem xE (Q:List QB) (st:Int) (r:Nat):nU Q [] st r=(Q,[]):=by
 unfold nU;rw [List.length_nil,Nat.mul_zero];rfl
def nH (E:Int) (S:List QB × List Ct) (w:World) (e:Ending) (w':World):Prop:=∃ (A B:Option Addr) (n c m d:Nat) (L':List BE),e = .returned (.tuple #[.slice A n c,.slice B m d,.int .i64 E])∧iH w' A n c L'∧dW bZ w' B m d S.2∧L'.map aF=S.1∧Below w.heap.size w w'∧(∀ b off,A=some ⟨b,off,none⟩→w.heap.size≤b)∧(∀ y ∈ L',∀ bx off,y.A=some ⟨bx,off,none⟩→w.heap.size≤bx)∧∀ b off,B=some ⟨b,off,none⟩→w.heap.size≤b
end
end Go.Proofs.YtokgmcomgflloaaGreat
