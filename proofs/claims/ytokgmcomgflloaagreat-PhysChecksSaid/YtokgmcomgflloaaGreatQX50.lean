/- Parts of a proof: contracts and laws. -/
import Derived.Test.YtokgmcomgflloaaGreatQX20
import Derived.Test.YtokgmcomgflloaaGreatQX13
import Derived.Test.YtokgmcomgflloaaGreatQX15
set_option maxRecDepth 100000
set_option maxHeartbeats 16000000
namespace Go.Proofs.YtokgmcomgflloaaGreat
section
set_option linter.unusedVariables false
set_option linter.unusedSimpArgs false
open Go.ChangeShapes Go.WideShapes Go.ChangeAt Go.RowKit Go.Deep Go.Joins
theorem vC:Tryz.prog.cellsOf 37=7:=by kernel_rfl
theorem FQ {P:Nat→Jt→Prop} (n:Nat) (h:∀ i,i<n→∃ x,P i x):∃ l:List Jt,l.length=n∧∀ i (hi:i<l.length),P i l[i]:=by
 induction n with
 | zero=>exact ⟨[],rfl,fun i hi=>absurd hi (by simp)⟩
 | succ n ih =>
  obtain ⟨l,hl,hp⟩:=ih fun i hi=>h i (by omega)
  obtain ⟨x,hx⟩:=h n (by omega);refine ⟨l ++ [x],by simp [hl],fun i hi=>?_⟩
  by_cases e:i<l.length
  ·rw [List.getElem_append_left e];exact hp i e
  ·have ei : i = n := by simp at hi; omega
   subst ei;rw [List.getElem_append_right (by omega)];simpa [hl] using hx
section
variable {H:Type} {enc:TypeId × Value→H} {W:World} {held:Bool} {base:Nat} {sp:Nat→Bool}

theorem Gg {fuel:Nat} {cl:List Value} {x:DataW H × List MemPlace} (hcs:cl.length=7) (hf:DataW.trod enc Tryz.prog W base (fun _=>true) held fuel 37 cl=some x):∃ e:Jt,cl=Gu e:=by
 obtain ⟨xs,m,_,hx,hlen,hxl,hg⟩:=DataW.trod_struct Tryz.underlying37 hf
 match cl,hcs with
 | [c0,c1,c2,c3,c4,c5,c6],_ =>
  match xs,hxl with
  | [x0,x1,x2,x3,x4],_ =>
   obtain ⟨a0,e0⟩:=bg (by simpa [Value.cells,bR] using hg 0 _ rfl);obtain ⟨a1,e1⟩:=bg (by simpa [Value.cells,bR] using hg 1 _ rfl);obtain ⟨a2,a3,e2,e3⟩:=dW (by simpa [Value.cells,fE] using hg 2 _ rfl);obtain ⟨a4,a5,e4,e5⟩:=dW (by simpa [Value.cells,fE] using hg 3 _ rfl);obtain ⟨a6,e6⟩:=bg (by simpa [Value.cells,bR] using hg 4 _ rfl);subst e0 e1 e2 e3 e4 e5 e6;exact ⟨⟨a0,a1,a2,a3,a4,a5,a6⟩,rfl⟩

end
theorem qU:Tryz.prog.cellsOf 106=10:=by kernel_rfl
theorem Gw {P:Nat→Ct→Prop} (n:Nat) (h:∀ i,i<n→∃ x,P i x):∃ l:List Ct,l.length=n∧∀ i (hi:i<l.length),P i l[i]:=by
 induction n with
 | zero=>exact ⟨[],rfl,fun i hi=>absurd hi (by simp)⟩
 | succ n ih =>
  obtain ⟨l,hl,hp⟩:=ih fun i hi=>h i (by omega)
  obtain ⟨x,hx⟩:=h n (by omega);refine ⟨l ++ [x],by simp [hl],fun i hi=>?_⟩
  by_cases e:i<l.length
  ·rw [List.getElem_append_left e];exact hp i e
  ·have ei : i = n := by simp at hi; omega
   subst ei;rw [List.getElem_append_right (by omega)];simpa [hl] using hx
section
variable {H:Type} {enc:TypeId × Value→H} {W:World} {held:Bool} {base:Nat} {sp:Nat→Bool}

theorem FU {fuel:Nat} {cl:List Value} {x:DataW H × List MemPlace} (hcs:cl.length=10) (hf:DataW.trod enc Tryz.prog W base (fun _=>true) held fuel 106 cl=some x):∃ e:Ct,cl=kN e:=by
 obtain ⟨xs,m,_,hx,hlen,hxl,hg⟩:=DataW.trod_struct Tryz.underlying106 hf
 match cl,hcs with
 | [c0,c1,c2,c3,c4,c5,c6,c7,c8,c9],_ =>
  match xs,hxl with
  | [x0,x1,x2,x3,x4,x5,x6,x7],_ =>
   obtain ⟨a0,e0⟩:=bg (by simpa [Value.cells,bR] using hg 0 _ rfl);obtain ⟨a1,e1⟩:=bg (by simpa [Value.cells,bR] using hg 1 _ rfl);obtain ⟨a2,e2⟩:=bg (by simpa [Value.cells,bR] using hg 2 _ rfl);obtain ⟨a3,a4,e3,e4⟩:=dW (by simpa [Value.cells,fE] using hg 3 _ rfl);obtain ⟨a5,a6,e5,e6⟩:=dW (by simpa [Value.cells,fE] using hg 4 _ rfl);obtain ⟨a7,e7⟩:=bg (by simpa [Value.cells,bR] using hg 5 _ rfl);obtain ⟨a8,e8⟩:=bg (by simpa [Value.cells,bR] using hg 6 _ rfl);obtain ⟨a9,e9⟩:=bg (by simpa [Value.cells,bR] using hg 7 _ rfl);subst e0 e1 e2 e3 e4 e5 e6 e7 e8 e9;exact ⟨⟨a0,a1,a2,a3,a4,a5,a6,a7,a8,a9⟩,rfl⟩

end
theorem yj:Tryz.prog.cellsOf 33=6:=by kernel_rfl
theorem eZ:Tryz.prog.cellsOf 29=1:=by kernel_rfl
theorem iA:Tryz.prog.cellsOf 30=1:=by kernel_rfl
theorem iI:Tryz.prog.cellsOf 31=1:=by kernel_rfl
section
variable {H:Type} {enc:TypeId × Value→H} {W:World} {held:Bool} {base:Nat} {sp:Nat→Bool}
theorem sF {fuel:Nat} {v:Value} {x:DataW H × List MemPlace} (hf:DataW.trod enc Tryz.prog W base (fun _=>true) held fuel 29 [v]=some x) :
  ∃ A n c L,v = .slice A n c∧iE W A n c L:=by
 rcases open_slice Tryz.underlying29 hf with ⟨hcs,_⟩ | ⟨a,n,c,m,k,D,Pl,hcs,_,hl,hm,hmm,_,hi⟩
 ·have e : v = .slice none 0 0 := by simpa using hcs
  subst e;exact ⟨none,0,0,[],rfl,dD.nil _ _,fun x hx=>by cases hx⟩
 ·have e : v = .slice (some a) n c := by simpa using hcs
  subst e;rw [if_pos rfl] at hmm;subst hmm
  have hcell:∀ i,i<n→∃ x:BE,(∀ j v,(iK x)[j]? = some v→W.cell? (a.add (i*13+j))=some v)∧Sl W x.A x.n x.c x.l:=by
   intro i him;obtain ⟨cs',hc,ht'⟩:=hi i (by omega);rw [wD] at hc;obtain ⟨_,hcl,hat⟩:=World.cells?_some hc;obtain ⟨x,hx,hS⟩:=FW hcl ht';refine ⟨x,fun j v hj=>?_,hS⟩
   have hj13:j<cs'.length:=by
    rcases Nat.lt_or_ge j cs'.length with g | g
    ·exact g
    ·rw [hx] at g;rw [List.getElem?_eq_none g] at hj;cases hj
   have:=hat j (by omega);rw [Go.Deep.add_add] at this;rw [this];subst hx
   first | exact hj | (rw [List.getElem?_eq_getElem hj13] at hj;exact hj)
  obtain ⟨L,hll,hlc⟩:=FN n hcell
  have hone:L≠[]→∃ b off,a=⟨b,off,none⟩∧b<W.heap.size:=fun hne=>by
   have hn:0<L.length:=by
    rcases Nat.eq_zero_or_pos L.length with h0 | h0
    ·exact absurd (List.length_eq_zero_iff.1 h0) hne
    ·exact h0
   obtain ⟨b,off,spot⟩:=a;have c0:=(hlc 0 hn).1 0 _ rfl
   have hspot:spot=none:=by
    have:=World.cell?_spot c0;simpa [Addr.add] using this
   subst hspot;refine ⟨b,off,rfl,?_⟩;simp [Addr.add] at c0
   rcases Nat.lt_or_ge b W.heap.size with h1 | h1
   ·exact h1
   ·have e : W.heap[b]? = none := Array.getElem?_eq_none h1;simp [World.cell?,e] at c0
  refine ⟨_,_,_,L,rfl,⟨hll.symm,hl,by unfold maxLen at hm;omega,fun hne=>?_⟩,fun x hx=>?_⟩
  ·obtain ⟨b, off, rfl, hb⟩ := hone hne;refine ⟨b,off,rfl,hb,fun j hj i v hv=>?_⟩;have:=(hlc j hj).1 i v hv;rwa [add_plain,← Nat.add_assoc] at this
  ·obtain ⟨j, hj, rfl⟩ := List.getElem_of_mem hx;exact (hlc j hj).2
theorem rZ {fuel:Nat} {v:Value} {x:DataW H × List MemPlace} (hf:DataW.trod enc Tryz.prog W base (fun _=>true) held fuel 30 [v]=some x) :
  ∃ A n c L,v = .slice A n c∧dD gV W A n c L:=by
 rcases open_slice Tryz.underlying30 hf with ⟨hcs,_⟩ | ⟨a,n,c,m,k,D,Pl,hcs,_,hl,hm,hmm,_,hi⟩
 ·have e : v = .slice none 0 0 := by simpa using hcs
  subst e;exact ⟨none,0,0,[],rfl,dD.nil _ _⟩
 ·have e : v = .slice (some a) n c := by simpa using hcs
  subst e;rw [if_pos rfl] at hmm;subst hmm
  have hcell:∀ i,i<n→∃ x:Jt,∀ j v,(Gu x)[j]? = some v→W.cell? (a.add (i*7+j))=some v:=by
   intro i him;obtain ⟨cs',hc,ht'⟩:=hi i (by omega);rw [vC] at hc;obtain ⟨_,hcl,hat⟩:=World.cells?_some hc;obtain ⟨x,hx⟩:=Gg hcl ht';refine ⟨x,fun j v hj=>?_⟩
   have hj13:j<cs'.length:=by
    rcases Nat.lt_or_ge j cs'.length with g | g
    ·exact g
    ·rw [hx] at g;rw [List.getElem?_eq_none g] at hj;cases hj
   have:=hat j (by omega);rw [Go.Deep.add_add] at this;rw [this];subst hx
   first | exact hj | (rw [List.getElem?_eq_getElem hj13] at hj;exact hj)
  obtain ⟨L,hll,hlc⟩:=FQ n hcell
  have hone:L≠[]→∃ b off,a=⟨b,off,none⟩∧b<W.heap.size:=fun hne=>by
   have hn:0<L.length:=by
    rcases Nat.eq_zero_or_pos L.length with h0 | h0
    ·exact absurd (List.length_eq_zero_iff.1 h0) hne
    ·exact h0
   obtain ⟨b,off,spot⟩:=a;have c0:=hlc 0 hn 0 _ rfl
   have hspot:spot=none:=by
    have:=World.cell?_spot c0;simpa [Addr.add] using this
   subst hspot;refine ⟨b,off,rfl,?_⟩;simp [Addr.add] at c0
   rcases Nat.lt_or_ge b W.heap.size with h1 | h1
   ·exact h1
   ·have e : W.heap[b]? = none := Array.getElem?_eq_none h1;simp [World.cell?,e] at c0
  refine ⟨_,_,_,L,rfl,⟨hll.symm,hl,by unfold maxLen at hm;omega,fun hne=>?_⟩⟩
  ·obtain ⟨b, off, rfl, hb⟩ := hone hne;refine ⟨b,off,rfl,hb,fun j hj i v hv=>?_⟩;have:=hlc j hj i v hv;rwa [add_plain,← Nat.add_assoc] at this
theorem pY {fuel:Nat} {v:Value} {x:DataW H × List MemPlace} (hf:DataW.trod enc Tryz.prog W base (fun _=>true) held fuel 31 [v]=some x) :
  ∃ A n c L,v = .slice A n c∧dD dH W A n c L:=by
 rcases open_slice Tryz.underlying31 hf with ⟨hcs,_⟩ | ⟨a,n,c,m,k,D,Pl,hcs,_,hl,hm,hmm,_,hi⟩
 ·have e : v = .slice none 0 0 := by simpa using hcs
  subst e;exact ⟨none,0,0,[],rfl,dD.nil _ _⟩
 ·have e : v = .slice (some a) n c := by simpa using hcs
  subst e;rw [if_pos rfl] at hmm;subst hmm
  have hcell:∀ i,i<n→∃ x:Ct,∀ j v,(kN x)[j]? = some v→W.cell? (a.add (i*10+j))=some v:=by
   intro i him;obtain ⟨cs',hc,ht'⟩:=hi i (by omega);rw [qU] at hc;obtain ⟨_,hcl,hat⟩:=World.cells?_some hc;obtain ⟨x,hx⟩:=FU hcl ht';refine ⟨x,fun j v hj=>?_⟩
   have hj13:j<cs'.length:=by
    rcases Nat.lt_or_ge j cs'.length with g | g
    ·exact g
    ·rw [hx] at g;rw [List.getElem?_eq_none g] at hj;cases hj
   have:=hat j (by omega);rw [Go.Deep.add_add] at this;rw [this];subst hx
   first | exact hj | (rw [List.getElem?_eq_getElem hj13] at hj;exact hj)
  obtain ⟨L,hll,hlc⟩:=Gw n hcell
  have hone:L≠[]→∃ b off,a=⟨b,off,none⟩∧b<W.heap.size:=fun hne=>by
   have hn:0<L.length:=by
    rcases Nat.eq_zero_or_pos L.length with h0 | h0
    ·exact absurd (List.length_eq_zero_iff.1 h0) hne
    ·exact h0
   obtain ⟨b,off,spot⟩:=a;have c0:=hlc 0 hn 0 _ rfl
   have hspot:spot=none:=by
    have:=World.cell?_spot c0;simpa [Addr.add] using this
   subst hspot;refine ⟨b,off,rfl,?_⟩;simp [Addr.add] at c0
   rcases Nat.lt_or_ge b W.heap.size with h1 | h1
   ·exact h1
   ·have e : W.heap[b]? = none := Array.getElem?_eq_none h1;simp [World.cell?,e] at c0
  refine ⟨_,_,_,L,rfl,⟨hll.symm,hl,by unfold maxLen at hm;omega,fun hne=>?_⟩⟩
  ·obtain ⟨b, off, rfl, hb⟩ := hone hne;refine ⟨b,off,rfl,hb,fun j hj i v hv=>?_⟩;have:=hlc j hj i v hv;rwa [add_plain,← Nat.add_assoc] at this

theorem AA {r:Reach} {b0:Nat} {v:Value} {d:DataW H} {p:List MemPlace} (hv:Value.okWide Tryz.prog W r b0 33 v) (h:DataW.Trod enc Tryz.prog W base (fun _=>true) held 33 v d p) :
  ∃ (A Aj Ac:Option Addr) (n c nj cj nc cc:Nat) (L:List BE) (Jl:List Jt) (Cl:List Ct) (gx gy st:Int),v = .agg #[.slice A n c,.slice Aj nj cj,.slice Ac nc cc,.int .i64 gx,.int .i64 gy,.int .i64 st]∧iE W A n c L∧dD gV W Aj nj cj Jl∧dD dH W Ac nc cc Cl:=by
 obtain ⟨cs,rfl,hcs⟩:=okWide_struct Tryz.underlying33 hv;obtain ⟨fuel,hf⟩:=h;obtain ⟨xs,m,_,hx,hlen,hxl,hg⟩:=DataW.trod_struct Tryz.underlying33 hf;rw [yj] at hcs;obtain ⟨cl⟩:=cs
 match cl,hcs with
 | [c0,c1,c2,c3,c4,c5],_ =>
  match xs,hxl with
  | [x0,x1,x2,x3,x4],_ =>
   have g0:DataW.trod enc Tryz.prog W base (fun _=>true) held m 29 [c0]=some x0:=by simpa [Value.cells,eZ] using hg 0 _ rfl
   have g1:DataW.trod enc Tryz.prog W base (fun _=>true) held m 30 [c1]=some x1:=by simpa [Value.cells,eZ,iA] using hg 1 _ rfl
   have g2:DataW.trod enc Tryz.prog W base (fun _=>true) held m 31 [c2]=some x2:=by simpa [Value.cells,eZ,iA,iI] using hg 2 _ rfl
   obtain ⟨gx,gy,e3,e4⟩:=dW (by simpa [Value.cells,fE,eZ,iA,iI] using hg 3 _ rfl);obtain ⟨st,e5⟩:=bg (by simpa [Value.cells,bR,fE,eZ,iA,iI] using hg 4 _ rfl);obtain ⟨A,n,c,L,e0,hS⟩:=sF g0;obtain ⟨Aj,nj,cj,Jl,e1,hJ⟩:=rZ g1;obtain ⟨Ac,nc,cc,Cl,e2,hC⟩:=pY g2;subst e0 e1 e2 e3 e4 e5;exact ⟨A,Aj,Ac,n,c,nj,cj,nc,cc,L,Jl,Cl,gx,gy,st,rfl,hS,hJ,hC⟩
end
end
end Go.Proofs.YtokgmcomgflloaaGreat
