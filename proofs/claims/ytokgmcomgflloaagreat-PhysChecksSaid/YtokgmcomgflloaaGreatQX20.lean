/- Parts of a proof: contracts and laws. -/
import Derived.Test.YtokgmcomgflloaaGreatQX19
import Derived.Test.YtokgmcomgflloaaGreatQX16
import Derived.Test.YtokgmcomgflloaaGreatQX10
import Derived.Test.YtokgmcomgflloaaGreatQX04
import Derived.Test.YtokgmcomgflloaaGreatQX03
import Derived.Test.YtokgmcomgflloaaGreatQX13
import Derived.Test.YtokgmcomgflloaaGreatQX15
set_option maxRecDepth 100000
set_option maxHeartbeats 16000000
namespace Go.Proofs.YtokgmcomgflloaaGreat
section
set_option linter.unusedVariables false
set_option linter.unusedSimpArgs false
open Go.RowKit
variable {w0 w w':World}
theorem jk {g k:Nat} {L:List BE} {x:BE} (h:aH jH w g 0 L) (hk:k<L.length) (hx:x=L[k]):w.cell? ⟨g,k*13,none⟩=some (.int .i64 x.b.px)∧w.cell? ⟨g,k*13+1,none⟩=some (.int .i64 x.b.py)∧w.cell? ⟨g,k*13+2,none⟩=some (.int .i64 x.b.vx)∧w.cell? ⟨g,k*13+3,none⟩=some (.int .i64 x.b.vy)∧w.cell? ⟨g,k*13+4,none⟩=some (.int .i64 x.b.ang)∧w.cell? ⟨g,k*13+5,none⟩=some (.int .i64 x.b.spin)∧w.cell? ⟨g,k*13+6,none⟩=some (.int .i64 x.b.mass)∧w.cell? ⟨g,k*13+7,none⟩=some (.int .i64 x.b.iner)∧w.cell? ⟨g,k*13+8,none⟩=some (.int .i64 x.b.bounce)∧w.cell? ⟨g,k*13+9,none⟩=some (.int .i64 x.b.rub)∧w.cell? ⟨g,k*13+10,none⟩=some (.slice x.A x.n x.c)∧w.cell? ⟨g,k*13+11,none⟩=some (.bool x.b.asleep)∧w.cell? ⟨g,k*13+12,none⟩=some (.int .i64 x.b.calm):=by
 have:=dB h hk hx;simpa only [Nat.zero_add] using this

structure Pj (w0 : World) (g : Nat) (L : List BE) (x : Jt) (p1 p2 q1 q2 v1 v2 : Int) (w : World) : Prop where
 j:w.cell? ⟨w0.heap.size,0,none⟩=some (.int .i64 x.a)∧w.cell? ⟨w0.heap.size,1,none⟩=some (.int .i64 x.b)∧w.cell? ⟨w0.heap.size,2,none⟩=some (.int .i64 x.p1)∧w.cell? ⟨w0.heap.size,3,none⟩=some (.int .i64 x.p2)∧w.cell? ⟨w0.heap.size,4,none⟩=some (.int .i64 x.q1)∧w.cell? ⟨w0.heap.size,5,none⟩=some (.int .i64 x.q2)∧w.cell? ⟨w0.heap.size,6,none⟩=some (.int .i64 x.len)
 p:w.cell? ⟨w0.heap.size+1,0,none⟩=some (.int .i64 p1)∧w.cell? ⟨w0.heap.size+1,1,none⟩=some (.int .i64 p2)
 q:w.cell? ⟨w0.heap.size+2,0,none⟩=some (.int .i64 q1)∧w.cell? ⟨w0.heap.size+2,1,none⟩=some (.int .i64 q2)
 v:w.cell? ⟨w0.heap.size+3,0,none⟩=some (.int .i64 v1)∧w.cell? ⟨w0.heap.size+3,1,none⟩=some (.int .i64 v2)
 bl:BL w g L
 bel:Below w0.heap.size w0 w
 lt:g<w0.heap.size
 lo:∀ y ∈ L,∀ bx off,y.A=some ⟨bx,off,none⟩→bx<w0.heap.size
 sz:w0.heap.size+3<w.heap.size
theorem EA {g:Nat} {L:List BE} {x:Jt} {p1 p2 q1 q2 v1 v2:Int} {w w':World} (hb:Below w.heap.size w w') (h:Pj w0 g L x p1 p2 q1 q2 v1 v2 w):Pj w0 g L x p1 p2 q1 q2 v1 v2 w':=by
 obtain ⟨h0,h1,h2,h3,h4,h5,h6⟩:=h.j;exact ⟨⟨keepCell hb h0,keepCell hb h1,keepCell hb h2,keepCell hb h3,keepCell hb h4,keepCell hb h5,keepCell hb h6⟩,⟨keepCell hb h.p.1,keepCell hb h.p.2⟩,⟨keepCell hb h.q.1,keepCell hb h.q.2⟩,⟨keepCell hb h.v.1,keepCell hb h.v.2⟩,eX hb h.bl,ah hb h.bel,h.lt,h.lo,Nat.lt_of_lt_of_le h.sz hb.size⟩
theorem Pj.alloc {g:Nat} {L:List BE} {x:Jt} {p1 p2 q1 q2 v1 v2:Int} {w:World} (h:Pj w0 g L x p1 p2 q1 q2 v1 v2 w) (o:Obj):Pj w0 g L x p1 p2 q1 q2 v1 v2 (w.alloc o):=EA Ba h
theorem Pj.drew {g:Nat} {L:List BE} {x:Jt} {p1 p2 q1 q2 v1 v2:Int} {w:World} (h:Pj w0 g L x p1 p2 q1 q2 v1 v2 w):Pj w0 g L x p1 p2 q1 q2 v1 v2 w.drew:=EA (Below.refl _ _).drew h

theorem BL.off {g k o:Nat} {v:Value} {L:List BE} (h:BL w g L) (hk:k≠g) (hne:∀ x ∈ L,∀ bx off,x.A=some ⟨bx,off,none⟩→bx≠k):BL (w.setCell ⟨k,o,none⟩ v) g L :=
 ⟨⟨by simp;exact h.cl.lt,fun j hj i u hu=>aW hk (h.cl.at_ j hj i u hu)⟩,fun j=>by rw [World.frozen?_setCell];exact h.free j,fun x hx=>(h.co x hx).setAt (hne x hx),h.ne⟩
theorem Pj.set {g:Nat} {L:List BE} {x:Jt} {p1 p2 q1 q2 v1 v2:Int} {w:World} {k o:Nat} {v:Value} (h:Pj w0 g L x p1 p2 q1 q2 v1 v2 w) (hk:w0.heap.size+3<k):Pj w0 g L x p1 p2 q1 q2 v1 v2 (w.setCell ⟨k,o,none⟩ v):=by
 obtain ⟨h0,h1,h2,h3,h4,h5,h6⟩:=h.j;have hlt:=h.lt;have n0:k≠w0.heap.size:=by omega
 have n1:k≠w0.heap.size+1:=by omega
 have n2:k≠w0.heap.size+2:=by omega
 have n3:k≠w0.heap.size+3:=by omega
 exact ⟨⟨aW n0 h0,aW n0 h1,aW n0 h2,aW n0 h3,aW n0 h4,aW n0 h5,aW n0 h6⟩,⟨aW n1 h.p.1,aW n1 h.p.2⟩,⟨aW n2 h.q.1,aW n2 h.q.2⟩,⟨aW n3 h.v.1,aW n3 h.v.2⟩,h.bl.off (by omega) (fun y hy bx off e=>by have:=h.lo y hy bx off e;omega),h.bel.setCell (p:=⟨k,o,none⟩) (by show w0.heap.size≤k;omega) _,h.lt,h.lo,by simp;exact h.sz⟩
theorem Pj.setBd {g:Nat} {L:List BE} {x:Jt} {p1 p2 q1 q2 v1 v2:Int} {w:World} {k:Nat} (h:Pj w0 g L x p1 p2 q1 q2 v1 v2 w) (hk:w0.heap.size+3<k) (b:Bd) (A:Option Addr) (n c:Nat):Pj w0 g L x p1 p2 q1 q2 v1 v2 (Go.Proofs.YtokgmcomgflloaaGreat.setBd w k b A n c):=by
 unfold Go.Proofs.YtokgmcomgflloaaGreat.setBd
 iterate 13 refine Pj.set ?_ hk
 exact h
theorem pI {l:List V} (h:bF l=0):l.length≤8:=by
 unfold bF at h
 by_cases hc:8<l.length
 ·rw [if_pos hc] at h;cases h
 ·omega
end
section
set_option linter.unusedVariables false
set_option linter.unusedSimpArgs false
open Go.ChangeShapes Go.WideShapes Go.ChangeAt Go.RowKit Go.Deep Go.Joins
variable {w0 w w':World}
theorem wD:Tryz.prog.cellsOf 27=13:=by kernel_rfl
theorem yg:Tryz.prog.cellsOf 4=1:=by kernel_rfl
theorem xO:Tryz.prog.cellsOf 25=1:=by kernel_rfl
theorem FN {P:Nat→BE→Prop} (n:Nat) (h:∀ i,i<n→∃ x,P i x):∃ l:List BE,l.length=n∧∀ i (hi:i<l.length),P i l[i]:=by
 induction n with
 | zero=>exact ⟨[],rfl,fun i hi=>absurd hi (by simp)⟩
 | succ n ih =>
  obtain ⟨l,hl,hp⟩:=ih fun i hi=>h i (by omega)
  obtain ⟨x,hx⟩:=h n (by omega);refine ⟨l ++ [x],by simp [hl],fun i hi=>?_⟩
  by_cases e:i<l.length
  ·rw [List.getElem_append_left e];exact hp i e
  ·have ei : i = n := by simp at hi; omega
   subst ei;rw [List.getElem_append_right (by omega)];simpa [hl] using hx
section
variable {w0 w w':World}
variable {H:Type} {enc:TypeId × Value→H} {W:World} {held:Bool} {base:Nat} {sp:Nat→Bool}
theorem bg {n:Nat} {a:Value} {x:DataW H × List MemPlace} (h:DataW.trod enc Tryz.prog W base sp held n 3 [a]=some x):∃ z:Int,a = .int .i64 z:=by
 obtain ⟨z,ez,_,_⟩:=DataW.trod_int Tryz.underlying3 h;simp at ez;exact ⟨z,ez⟩
theorem uV {n:Nat} {a:Value} {x:DataW H × List MemPlace} (h:DataW.trod enc Tryz.prog W base sp held n 4 [a]=some x):∃ z:Bool,a = .bool z:=by
 obtain ⟨z,ez,_⟩:=DataW.trod_bool Tryz.underlying4 h;simp at ez;exact ⟨z,ez⟩
theorem dW {n:Nat} {a b:Value} {x:DataW H × List MemPlace} (h:DataW.trod enc Tryz.prog W base sp held n 24 [a,b]=some x):∃ y z:Int,a = .int .i64 y∧b = .int .i64 z:=by
 obtain ⟨xs,n',_,_,hlen,hxl,hg⟩:=DataW.trod_struct Tryz.underlying24 h
 match xs,hxl with
 | [z0,z1],_ =>
  have g0:=hg 0 _ rfl;have g1:=hg 1 _ rfl;obtain ⟨y,ey⟩:=bg (by simpa [bR] using g0);obtain ⟨z,ez⟩:=bg (by simpa [bR] using g1);exact ⟨y,z,ey,ez⟩
theorem xR {fuel:Nat} {v:Value} {x:DataW H × List MemPlace} (hf:DataW.trod enc Tryz.prog W base (fun _=>true) held fuel 25 [v]=some x) :
  ∃ A n c l,v = .slice A n c∧Sl W A n c l:=by
 rcases open_slice Tryz.underlying25 hf with ⟨hcs,_⟩ | ⟨a,len,cap,m,k,D,Pl,hcs,_,hl,hm,hmm,hxx,hi⟩
 ·have e : v = .slice none 0 0 := by simpa using hcs
  subst e;exact ⟨none,0,0,[],rfl,⟨rfl,by omega,by omega,fun hh=>absurd rfl hh⟩⟩
 ·have e : v = .slice (some a) len cap := by simpa using hcs
  subst e;rw [if_pos rfl] at hmm;subst hmm
  have hcell:∀ i,i<len→∃ x y:Int,W.cell? (a.add (i*2))=some (.int .i64 x)∧W.cell? (a.add (i*2+1))=some (.int .i64 y):=by
   intro i him;obtain ⟨cs',hc,ht'⟩:=hi i (by omega);rw [fE] at hc;obtain ⟨_,hcl,hat⟩:=World.cells?_some hc
   match cs',hcl with
   | [u0,u1],_ =>
    obtain ⟨x,y,ex,ey⟩:=dW ht';subst ex ey;refine ⟨x,y,?_,?_⟩
    ·have := hat 0 (by omega);rwa [Go.Deep.add_add] at this
    ·have := hat 1 (by omega);rwa [Go.Deep.add_add] at this
  obtain ⟨l,hll,hlc⟩:=FL len hcell;refine ⟨_,_,_,l,rfl,⟨hll.symm,hl,by unfold maxLen at hm;omega,fun hne=>?_⟩⟩
  have hn:0<len:=by
   rcases Nat.eq_zero_or_pos len with h0 | h0
   ·exact absurd (List.length_eq_zero_iff.1 (by omega)) hne
   ·exact h0
  obtain ⟨b,off,spot⟩:=a
  have hspot:spot=none:=by
   have:=World.cell?_spot (hlc 0 hn).1;simpa [Addr.add] using this
  subst hspot;refine ⟨b,off,rfl,?_,fun j hj=>?_,fun j hj=>?_⟩
  ·have := (hlc 0 hn).1;simp [Addr.add] at this
   rcases Nat.lt_or_ge b W.heap.size with h1 | h1
   ·exact h1
   ·have e : W.heap[b]? = none := Array.getElem?_eq_none h1;simp [World.cell?,e] at this
  ·rw [← add_plain];exact (hlc j (by omega)).1
  ·rw [Nat.add_assoc,← add_plain];exact (hlc j (by omega)).2

theorem FW {fuel:Nat} {cl:List Value} {x:DataW H × List MemPlace} (hcs:cl.length=13) (hf:DataW.trod enc Tryz.prog W base (fun _=>true) held fuel 27 cl=some x):∃ e:BE,cl=iK e∧Sl W e.A e.n e.c e.l:=by
 obtain ⟨xs,m,_,hx,hlen,hxl,hg⟩:=DataW.trod_struct Tryz.underlying27 hf
 match cl,hcs with
 | [c0,c1,c2,c3,c4,c5,c6,c7,c8,c9,c10,c11,c12],_ =>
  match xs,hxl with
  | [x0,x1,x2,x3,x4,x5,x6,x7,x8,x9,x10],_ =>
   obtain ⟨a0,a1,e0,e1⟩:=dW (by simpa [Value.cells,fE] using hg 0 _ rfl);obtain ⟨a2,a3,e2,e3⟩:=dW (by simpa [Value.cells,fE] using hg 1 _ rfl);obtain ⟨a4,e4⟩:=bg (by simpa [Value.cells,bR] using hg 2 _ rfl);obtain ⟨a5,e5⟩:=bg (by simpa [Value.cells,bR] using hg 3 _ rfl);obtain ⟨a6,e6⟩:=bg (by simpa [Value.cells,bR] using hg 4 _ rfl);obtain ⟨a7,e7⟩:=bg (by simpa [Value.cells,bR] using hg 5 _ rfl);obtain ⟨a8,e8⟩:=bg (by simpa [Value.cells,bR] using hg 6 _ rfl);obtain ⟨a9,e9⟩:=bg (by simpa [Value.cells,bR] using hg 7 _ rfl);have g8:DataW.trod enc Tryz.prog W base (fun _=>true) held m 25 [c10]=some x8:=by simpa [Value.cells,xO] using hg 8 _ rfl
   obtain ⟨a11,e11⟩:=uV (by simpa [Value.cells,yg] using hg 9 _ rfl);obtain ⟨a12,e12⟩:=bg (by simpa [Value.cells,bR] using hg 10 _ rfl);obtain ⟨A,n,c,l,e10,hS⟩:=xR g8;subst e0 e1 e2 e3 e4 e5 e6 e7 e8 e9 e10 e11 e12;exact ⟨⟨⟨a0,a1,a2,a3,a4,a5,a6,a7,a8,a9,a11,a12⟩,A,n,c,l⟩,rfl,hS⟩

end
end
section
set_option linter.unusedVariables false
set_option linter.unusedSimpArgs false
open Go.RowKit
variable {w0 w w':World}
def sN (L:List BE) (J:List Jt) (st r:Int):Int:=if aQ L J≠0 then aQ L J else if st<1∨65536<st∨r<0∨32<r then 1 else 0
def Ae (L:List BE) (J:List Jt) (st r:Int):List QB:=if sN L J st r=0 then jB (L.map bK) J st r.toNat else []
def zI (E:Int) (Q:List QB) (w:World) (e:Ending) (w':World):Prop:=∃ (A:Option Addr) (n c:Nat) (L':List BE),e = .returned (.tuple #[.slice A n c,.int .i64 E])∧iE w' A n c L'∧L'.map bK=Q∧Below w.heap.size w w'

structure Vg (w : World) (g : Nat) (x y : Int) : Prop where
 a:w.cell? ⟨g,0,none⟩=some (.int .i64 x)
 b:w.cell? ⟨g,1,none⟩=some (.int .i64 y)
theorem G5 {g:Nat} {x y:Int} (hb:Below w.heap.size w w') (h:Vg w g x y):Vg w' g x y:=⟨keepCell hb h.a,keepCell hb h.b⟩
theorem Vg.drew {g:Nat} {x y:Int} (h:Vg w g x y):Vg w.drew g x y:=⟨h.a,h.b⟩
theorem Vg.next {g k:Nat} {x y:Int} (h:Vg w g x y) (hg:w.grownBy w' (some k)) (hne:g≠k):Vg w' g x y :=
 ⟨(World.cell?_of_block (hg.block g (lt_of_cell h.a) (by simpa using hne))).trans h.a,(World.cell?_of_block (hg.block g (lt_of_cell h.a) (by simpa using hne))).trans h.b⟩
structure Jg (w : World) (g : Nat) (x : Jt) : Prop where
 c0:w.cell? ⟨g,0,none⟩=some (.int .i64 x.a)
 c1:w.cell? ⟨g,1,none⟩=some (.int .i64 x.b)
 c2:w.cell? ⟨g,2,none⟩=some (.int .i64 x.p1)
 c3:w.cell? ⟨g,3,none⟩=some (.int .i64 x.p2)
 c4:w.cell? ⟨g,4,none⟩=some (.int .i64 x.q1)
 c5:w.cell? ⟨g,5,none⟩=some (.int .i64 x.q2)
 c6:w.cell? ⟨g,6,none⟩=some (.int .i64 x.len)
theorem EI {g:Nat} {x:Jt} (hb:Below w.heap.size w w') (h:Jg w g x):Jg w' g x :=
 ⟨keepCell hb h.c0,keepCell hb h.c1,keepCell hb h.c2,keepCell hb h.c3,keepCell hb h.c4,keepCell hb h.c5,keepCell hb h.c6⟩
theorem Jg.alloc {g:Nat} {x:Jt} (h:Jg w g x) (o:Obj):Jg (w.alloc o) g x:=EI Ba h
theorem Vg.alloc {g:Nat} {x y:Int} (h:Vg w g x y) (o:Obj):Vg (w.alloc o) g x y:=G5 Ba h
theorem Jg.drew {g:Nat} {x:Jt} (h:Jg w g x):Jg w.drew g x:=EI (Below.refl _ _).drew h
theorem Jg.next {g k:Nat} {x:Jt} (h:Jg w g x) (hg:w.grownBy w' (some k)) (hne:g≠k):Jg w' g x :=
 have e:=hg.block g (lt_of_cell h.c0) (by simpa using hne)
 ⟨(World.cell?_of_block e).trans h.c0,(World.cell?_of_block e).trans h.c1,(World.cell?_of_block e).trans h.c2,(World.cell?_of_block e).trans h.c3,(World.cell?_of_block e).trans h.c4,(World.cell?_of_block e).trans h.c5,(World.cell?_of_block e).trans h.c6⟩

structure RJ (w0 : World) (s : Value) (L' : List BE) (w : World) : Prop where
 own:aN jH 27 w w0.heap.size s L'
 co:∀ x ∈ L',Sl w x.A x.n x.c x.l∧x.l≠[]∧∀ bx off,x.A=some ⟨bx,off,none⟩→w0.heap.size≤bx∧some bx≠s.ownBlock
 bel:Below w0.heap.size w0 w
theorem Et {s:Value} {L':List BE} {w w':World} (hb:Below w.heap.size w w') (h:RJ w0 s L' w):RJ w0 s L' w' :=
 ⟨h.own.below hb,fun x hx=>⟨(h.co x hx).1.below hb,(h.co x hx).2⟩,ah hb h.bel⟩
theorem gD {A:Option Addr} {n c:Nat} {l:List V} {row:Option Nat} (h:Sl w A n c l) (hg:w.grownBy w' row) (hne:∀ b off,A=some ⟨b,off,none⟩→some b≠row):Sl w' A n c l:=by
 cases row with
 | none=>exact h.below ⟨hg.os,hg.tape,hg.output,hg.size,fun k hk=>hg.block k hk (by simp)⟩
 | some g=>exact h.grown hg (fun b off e=>fun e2=>hne b off e (by rw [e2]))
theorem lX {A:Option Addr} {n c:Nat} {l:List V} (h:Sl w A n c l) (hl:l≠[]):∀ bx off,A=some ⟨bx,off,none⟩→bx<w.heap.size:=fun bx off e=>by
 obtain ⟨b',off',e',hc⟩:=h.at_ hl;rw [e] at e';cases e';exact hc.lt
theorem RJ.set {w0 wb:World} {s:Value} {L':List BE} {w:World} (hb:RJ w0 s L' wb) (h:RJ w0 s L' w) {k o:Nat} {v:Value} (hk:wb.heap.size≤k):RJ w0 s L' (w.setCell ⟨k,o,none⟩ v):=by
 have hs:=hb.bel.size;refine ⟨h.own.off (fun j hj=>by have:=(hb.own.lt hj).2;omega) o v,fun x hx=>?_,h.bel.setCell (p:=⟨k,o,none⟩) (by show w0.heap.size≤k;omega) _⟩;obtain ⟨h1,h2,h3⟩:=h.co x hx;exact ⟨h1.setAt (fun bx off e=>by have:=lX (hb.co x hx).1 h2 bx off e;omega),h2,h3⟩
theorem RJ.push {w0 wb : World} {s s' : Value} {L' : List BE} {w w7 : World} {o : Obj} {y : BE} (hb : RJ w0 s L' wb) (h : RJ w0 s L' w) (hS : Sl w y.A y.n y.c y.l) (hl : y.l ≠ []) (hf : ∀ bx off, y.A = some ⟨bx, off, none⟩ → wb.heap.size ≤ bx)
  (ho:aN jH 27 w7 w0.heap.size s' (L' ++ [y])) (hg:(w.alloc o).grownBy w7 s.ownBlock) (hat:s'.ownBlock=s.ownBlock∨s'.ownBlock=some (w.alloc o).heap.size):RJ w0 s' (L' ++ [y]) w7:=by
 have hsb:=hb.bel.size;have hsw:=h.bel.size;have hsa:(w.alloc o).heap.size=w.heap.size+1:=by simp
 have hga:w.grownBy (w.alloc o) s.ownBlock:=World.grownBy_alloc _ _ _;have hg7:w.grownBy w7 s.ownBlock:=fA hga hg
 have nblk:∀ {z:BE},Sl w z.A z.n z.c z.l→z.l≠[]→(∀ bx off,z.A=some ⟨bx,off,none⟩→some bx≠s.ownBlock)→∀ bx off,z.A=some ⟨bx,off,none⟩→some bx≠s'.ownBlock:=fun {z} hs hne hno bx off e e2=>by
  have:=lX hs hne bx off e
  rcases hat with q | q
  ·exact hno bx off e (e2.trans q)
  ·rw [q,hsa] at e2;cases e2;omega
 have hnw:∀ bx off,y.A=some ⟨bx,off,none⟩→some bx≠s.ownBlock:=fun bx off e e2=>by have:=hf bx off e;have:=(hb.own.lt e2.symm).2;omega
 refine ⟨ho,fun x hx=>?_,h.bel.grown hg7 (by omega) (fun k hk=>(hb.own.lt hk).1)⟩
 rcases List.mem_append.1 hx with hx | hx
 ·obtain ⟨h1, h2, h3⟩ := h.co x hx;exact ⟨gD h1 hg7 (fun bx off e=>(h3 bx off e).2),h2,fun bx off e=>⟨(h3 bx off e).1,nblk h1 h2 (fun bx off e=>(h3 bx off e).2) bx off e⟩⟩
 ·rw [List.mem_singleton.1 hx];exact ⟨gD hS hg7 hnw,hl,fun bx off e=>⟨by have:=hf bx off e;omega,nblk hS hl hnw bx off e⟩⟩

def RV (w0:World) (v:Value) (Q:List QB) (w:World):Prop:=∃ L1:List BE,L1.map bK=Q∧Below w0.heap.size w0 w∧((v = .slice none 0 0∧L1=[])∨∃ g cap,v = .slice (some ⟨g,0,none⟩) L1.length cap∧w0.heap.size≤g∧L1.length≤cap∧cap≤maxLen∧BL w g L1)
theorem RJ.rv {s:Value} {L':List BE} {w:World} (h:RJ w0 s L' w):RV w0 s (L'.map bK) w:=by
 refine ⟨L',rfl,h.bel,?_⟩
 rcases h.own.form with ⟨h1,h2⟩ | ⟨g,cap,hv,h1,h2,h3,h4,h5,h6⟩
 ·exact .inl ⟨h1,h2⟩
 ·refine .inr ⟨g, cap, hv, h1, h3, h4, ⟨h6, h5, fun x hx => (h.co x hx).1, fun x hx bx off e => fun e2 => ?_⟩⟩;have:=((h.co x hx).2.2 bx off e).2;rw [hv,e2] at this;exact this rfl
theorem RV.ret {v:Value} {Q:List QB} {w:World} (h:RV w0 v Q w) (hl:Q.length≤64):∃ A n c L',v = .slice A n c∧iE w A n c L'∧L'.map bK=Q∧Below w0.heap.size w0 w:=by
 obtain ⟨L1,hq,hB,⟨rfl,rfl⟩ | ⟨g,cap,rfl,h1,h2,h3,hbl⟩⟩:=h
 ·exact ⟨none,0,0,[],rfl,⟨dD.nil _ _,fun x hx=>by cases hx⟩,hq,hB⟩
 ·exact ⟨_,_,_,L1,rfl,⟨⟨rfl,h2,by unfold maxLen at h3;omega,fun _=>⟨g,0,rfl,hbl.cl⟩⟩,hbl.co⟩,hq,hB⟩

structure Rj (w0 : World) (B g : Nat) (L : List BE) (w : World) : Prop where
 bl:BL w g L
 bel:Below w0.heap.size w0 w
 ge:w0.heap.size≤g
 gB:g<B
 hi:∀ y ∈ L,∀ bx off,y.A=some ⟨bx,off,none⟩→bx<B
 Bw:B≤w.heap.size
theorem EW {B g:Nat} {L:List BE} {w w':World} (hb:Below w.heap.size w w') (h:Rj w0 B g L w):Rj w0 B g L w' :=
 ⟨eX hb h.bl,ah hb h.bel,h.ge,h.gB,h.hi,Nat.le_trans h.Bw hb.size⟩
theorem Rj.drew {B g:Nat} {L:List BE} {w:World} (h:Rj w0 B g L w):Rj w0 B g L w.drew:=EW (Below.refl _ _).drew h
theorem Rj.alloc {B g:Nat} {L:List BE} {w:World} (h:Rj w0 B g L w) (o:Obj):Rj w0 B g L (w.alloc o):=EW Ba h
theorem Rj.set {B g:Nat} {L:List BE} {w:World} (h:Rj w0 B g L w) {k o:Nat} {v:Value} (hk:B≤k):Rj w0 B g L (w.setCell ⟨k,o,none⟩ v) :=
 ⟨h.bl.off (by have:=h.gB;omega) (fun y hy bx off e=>by have:=h.hi y hy bx off e;omega),h.bel.setCell (p:=⟨k,o,none⟩) (by show w0.heap.size≤k;have:=h.gB;have:=h.ge;omega) _,h.ge,h.gB,h.hi,by simp;exact h.Bw⟩
theorem Rj.of {g:Nat} {L:List BE} {w:World} (h:BL w g L) (hB:Below w0.heap.size w0 w) (hg:w0.heap.size≤g) (hv:∀ x ∈ L,aJ x.b x.l=0):Rj w0 w.heap.size g L w :=
 ⟨h,hB,hg,h.cl.lt,fun y hy=>lX (h.co y hy) (fun e=>by have:=hv y hy;rw [e] at this;exact absurd (bU this).1 (by decide)),Nat.le_refl _⟩
theorem Rj.next {B g:Nat} {L:List BE} {w w':World} (h:Rj w0 B g L w) (hg:w.grownBy w' (some g)):Below w0.heap.size w0 w':=h.bel.trans (qN hg h.bel.size h.ge)
theorem mE (A:Option Addr) (n c:Nat) (l:List Ct) (w:World) (hS:dD dH w A n c l) (hl:l.length≤100000):Calls Tryz.prog 114 #[.slice A n c] w fun e w'=>∃ s,e = .returned s∧aN dH 106 w' w.heap.size s l∧Below w.heap.size w w':=by
 have hcmp:∀ w':World,(binOp .eql 31 (.slice A n c) (.slice none 0 0)).run Tryz.prog w' = .ok (.bool A.isNone) w':=fun w'=>Lib.run_eql_slice_nil w' 31 _ A n c 0 0 Tryz.underlying31
 cases A with
 | none =>
  have hl0:l=[]:=by
   rcases l with _ | ⟨a,r⟩
   ·rfl
   ·obtain ⟨b,off,h,_⟩:=hS.at_ (by simp);cases h
  subst hl0;clear hS
  go_enter Tryz.func114,Tryz.ntmps114
  go_wp2;refine bodyPost_ret (v:=.slice none 0 0) (by simp [results,Tryz.results114,go_sem]) rfl ⟨_,rfl,aN.nil _ _ _ _,Below.refl _ _⟩
 | some ad =>
  have hn:=hS.len;have HS:=hid hS;clear hS;subst hn;have HO:Hid (aN dH 106 (w.alloc (.cells #[] 106)) w.heap.size (.slice (some ⟨w.heap.size,0,none⟩) 0 0) []):=⟨by simp [dF],.inr ⟨w.heap.size,0,#[],rfl,Nat.le_refl _,heap_alloc_new w _,Nat.le_refl _,Nat.zero_le _,by simp,by simp [dF]⟩⟩;have hb0:Below w.heap.size w (w.alloc (.cells #[] 106)):=by go_grown
  go_enter Tryz.func114,Tryz.ntmps114
  go_wp2_with (at_builtin;refine iQ BR rfl _ _ rfl w.heap.size _ [] rfl HO.out _ _ _ l rfl (HS.out.below hb0) (by first | omega | (simp;omega)) (by first | omega | (simp;omega)) (by simp) ?_;intro v' w1 ho1 hg1 hat;have HO1:=hid ho1;have hb1:=hid (hb0.grown hg1 (by simp) (fun k hk=>(HO.out.lt hk).1));clear ho1 hg1 hat)
  obtain ⟨A',n',c',rfl,-,-⟩:=HO1.out.sl;refine bodyPost_ret (v:=.slice A' n' c') (by simp [results,Tryz.results114,go_sem]) rfl ⟨_,rfl,by simpa using HO1.out,hb1.out⟩
end
end Go.Proofs.YtokgmcomgflloaaGreat
