/- Parts of a proof: contracts and laws. -/
import Derived.Test.YtokgmcomgflloaaGreatQX06
import Derived.Laws.AppendOwn
import Derived.Laws.AppendOwnNone
import Derived.OwnWalk
import Derived.Test.YtokgmcomgflloaaGreatQX03
import Derived.Test.YtokgmcomgflloaaGreatQX04
import Derived.BigQuiet
import Derived.Deep.DeepCutAuto
import Derived.WalkSpells
import Derived.Laws.Bits64b
import Derived.Laws.MathBits
import Derived.Deep.WholeRow
import Derived.Maps.AppendAt
import Derived.Test.YtokgmcomgflloaaGreatQX07
set_option maxRecDepth 100000
set_option maxHeartbeats 16000000
namespace Go.Proofs.YtokgmcomgflloaaGreat
section
set_option linter.unusedVariables false
set_option linter.unusedSimpArgs false
open Go.RowKit
open Go.ChangeShapes Go.WideShapes Go.ChangeAt Go.RowKit Go.Deep Go.Joins
variable {w0 w w':World}




theorem fA {a b c:World} {row:Option Nat} (h:a.grownBy b row) (k:b.grownBy c row):a.grownBy c row :=
 ⟨k.os.trans h.os,k.tape.trans h.tape,k.output.trans h.output,Nat.le_trans h.size k.size,fun i hi hn=>(k.block i (Nat.lt_of_lt_of_le hi h.size) hn).trans (h.block i hi hn)⟩
theorem dz {a b:World} {row:Option Nat} (h:Below a.heap.size a b):a.grownBy b row:=⟨h.os,h.tape,h.output,h.size,fun i hi _=>h.block i hi⟩
theorem aX (w:World) (g o:Nat) (v:Value):w.grownBy (w.setCell ⟨g,o,none⟩ v) (some g) :=
 ⟨rfl,rfl,rfl,by simp [World.setCell],fun k _ hn=>Below.heap_setCell _ _ _ _ (by intro e;exact hn (by rw [e]))⟩
theorem qN {B:Nat} {a b:World} {g:Nat} (h:a.grownBy b (some g)) (hB:B≤a.heap.size) (hg:B≤g):Below B a b :=
 (Below.refl B a).grown h hB (fun k hk=>by cases hk;exact hg)
theorem bM {a b:World} {g k o:Nat} (h:a.grownBy b (some g)) (hk:k≠g) (hl:k<a.heap.size):b.cell? ⟨k,o,none⟩=a.cell? ⟨k,o,none⟩ :=
 World.cell?_of_block (h.block k hl (by intro e;cases e;exact hk rfl))
theorem Cells.grown {b off g:Nat} {l:List V} (h:Cells w b off l) (hg:w.grownBy w' (some g)) (hne:b≠g):Cells w' b off l :=
 ⟨Nat.lt_of_lt_of_le h.lt hg.size,fun j hj=>(bM hg hne h.lt).trans (h.x j hj),fun j hj=>(bM hg hne h.lt).trans (h.y j hj)⟩
theorem Sl.grown {A:Option Addr} {n c g:Nat} {l:List V} (h:Sl w A n c l) (hg:w.grownBy w' (some g)) (hne:∀ b off,A=some ⟨b,off,none⟩→b≠g):Sl w' A n c l :=
 ⟨h.len,h.cap,h.big,fun hl=>by obtain ⟨b,off,rfl,hc⟩:=h.at_ hl;exact ⟨b,off,rfl,hc.grown hg (hne b off rfl)⟩⟩

def flat (l:List V):List Value:=l.flatMap fun p=>[.int .i64 p.1,.int .i64 p.2]
theorem jV (l:List V):(flat l).length=l.length*2:=by
 unfold flat
 induction l with
 | nil=>rfl
 | cons a l ih=>simp [List.flatMap_cons,ih];omega
theorem oU (l m:List V):flat (l ++ m)=flat l ++ flat m:=by simp [flat,List.flatMap_append]
theorem nC (l:List V) (j:Nat) (h:j<l.length):(flat l)[j*2]? = some (.int .i64 (px l j))∧(flat l)[j*2+1]? = some (.int .i64 (py l j)):=by
 induction l generalizing j with
 | nil=>simp at h
 | cons a l ih =>
  match j with
  | 0=>exact ⟨by simp [flat,px,List.flatMap_cons],by simp [flat,py,List.flatMap_cons]⟩
  | j+1 =>
   have:=ih j (by simpa using h);have e:flat (a :: l) = .int .i64 a.1 :: .int .i64 a.2 :: flat l:=by simp [flat,List.flatMap_cons]
   rw [e,show (j+1)*2=j*2+1+1 by omega,List.getElem?_cons_succ,List.getElem?_cons_succ,List.getElem?_cons_succ,List.getElem?_cons_succ];simpa [px,py] using this
theorem xK (l:List V):∀ u ∈ flat l,u.oneCell'=true:=by
 intro u hu;simp only [flat,List.mem_flatMap] at hu;obtain ⟨p,_,hp⟩:=hu;simp at hp
 rcases hp with rfl | rfl <;> rfl
theorem rA {b off:Nat} {l:List V} (h:Cells w b off l):∀ j u,(flat l)[j]? = some u→w.cell? ((⟨b,off,none⟩:Addr).add j)=some u:=by
 intro j u hj
 have hlt:j<l.length*2:=by
  have:=(List.getElem?_eq_some_iff.1 hj).1;rwa [jV] at this
 have hk:j / 2<l.length:=by omega
 have ha:=nC l (j / 2) hk;have hadd:(⟨b,off,none⟩:Addr).add j=⟨b,off+j,none⟩:=by unfold Addr.add;split <;> simp_all
 rw [hadd]
 rcases Nat.mod_two_eq_zero_or_one j with e | e
 ·have ej : j = j / 2 * 2 := by omega
  rw [ej] at hj;rw [ha.1] at hj
  cases hj
  have:=h.x (j / 2) hk;rwa [← ej] at this
 ·have ej : j = j / 2 * 2 + 1 := by omega
  rw [ej] at hj;rw [ha.2] at hj
  cases hj
  have:=h.y (j / 2) hk;rw [Nat.add_assoc,← ej] at this;exact this

def Own (w:World) (B:Nat) (v:Value) (l:List V):Prop:=w.ownsRow B 24 2 v l.length (flat l)
theorem Own.nil (w:World) (B:Nat):Own w B (.slice none 0 0) []:=World.ownsRow_nil _ _ _ _
theorem Own.kept {B:Nat} {v:Value} {l:List V} {row:Option Nat} (h:Own w B v l) (hg:w.grownBy w' row) (hr:∀ k,row=some k→k<B):Own w' B v l:=by
 refine World.ownsRow.kept h hg ?_
 cases hv:v.ownBlock with
 | none=>exact .inl rfl
 | some k =>
  refine .inr fun e=>?_
  have:=(World.ownsRow.lt h k hv).1;have:=hr k e.symm;omega
theorem Own.below {B:Nat} {v:Value} {l:List V} (h:Own w B v l) (hb:Below w.heap.size w w'):Own w' B v l :=
 h.kept (dz (row:=none) hb) (by simp)
theorem Own.alloc {B:Nat} {v:Value} {l:List V} (h:Own w B v l) (o:Obj):Own (w.alloc o) B v l:=World.ownsRow.alloc h o
theorem Own.drew {B:Nat} {v:Value} {l:List V} (h:Own w B v l):Own w.drew B v l:=h
theorem Own.sl {B:Nat} {v:Value} {l:List V} (h:Own w B v l):∃ A n c,v = .slice A n c∧Sl w A n c l∧∀ b off,A=some ⟨b,off,none⟩→B≤b:=by
 have hc:=fun g hg=>World.ownsRow.cells h (g:=g) hg
 obtain ⟨h1,h2 | ⟨g,cap,cur,rfl,hb,hg,hn,hm,hs,ht⟩⟩:=h
 ·obtain ⟨rfl, h0⟩ := h2;refine ⟨none,0,0,rfl,⟨h0.symm,by omega,by omega,fun hl=>?_⟩,by simp⟩;exact absurd (List.length_eq_zero_iff.1 h0) hl
 ·refine ⟨_, _, _, rfl, ⟨rfl, hn, by unfold maxLen at hm; omega, fun _ => ⟨g, 0, rfl, ?_, fun j hj => ?_, fun j hj => ?_⟩⟩, fun b off e => by cases e; exact hb⟩
  ·exact (Array.getElem?_eq_some_iff.1 hg).1
  ·have := hc g rfl (j * 2) _ (nC l j hj).1;have hadd:(⟨g,0,none⟩:Addr).add (j*2)=⟨g,0+j*2,none⟩:=by unfold Addr.add;split <;> simp_all
   rwa [hadd] at this
  ·have := hc g rfl (j * 2 + 1) _ (nC l j hj).2;have hadd:(⟨g,0,none⟩:Addr).add (j*2+1)=⟨g,0+j*2+1,none⟩:=by unfold Addr.add;split <;> simp_all <;> omega
   rwa [hadd] at this
theorem Own.grown {B:Nat} {v:Value} {l:List V} (h:Own w B v l) (hg:w.grownBy w' v.ownBlock) (hB:B≤w.heap.size):Below B w w' :=
 (Below.refl B w).grown hg hB (fun k hk=>(World.ownsRow.lt h k hk).1)
theorem qP:(Tryz.prog.info? 24).map (fun i=>(i.zero,i.size,i.bytes))=some (some (.agg #[.int .i64 0,.int .i64 0]),2,16):=by kernel_rfl

theorem mM {w : World} {ops : Array Oper} {rest : List Oper} {o : Oper} {a : Act} {Q : Exit → Act → World → Prop} (hgd : o.guard = none) (s x : Operand)
  (ho:o.op = .call { callee:=.builtin .append,args:=#[s,x],argTypes:=#[25,25] })
  (B:Nat) (v:Value) (l:List V) (hs:a.eval s=v) (hown:Own w B v l) (b off n c:Nat) (m:List V) (hx:a.eval x = .slice (some ⟨b,off,none⟩) n c) (hn:n=m.length) (hc:Cells w b off m)
  (hl:l.length+m.length≤8796093022208) (hB:B≤w.heap.size)
  (h:∀ v' w',Own w' B v' (l ++ m)→w.grownBy w' v.ownBlock→wpList Tryz.prog ops Q rest (a.put o.dst v') w'):wpList Tryz.prog ops Q (o :: rest) a w:=by
 obtain ⟨i0,hi,hz0,hz1,hz2⟩:=info_parts qP;refine wpList_append_own w hgd s x 25 ho B 24 i0 (.agg #[.int .i64 0,.int .i64 0]) 2 16 Tryz.underlying25 hi hz0 hz1 hz2 rfl (by decide) v l.length (flat l) hs hown ⟨b,off,none⟩ n c (flat m) hx (by rw [jV,hn]) (rA hc) (xK m) (by unfold maxLen;omega) (by omega) hB ?_;intro v' w' h1 h2 _;refine h v' w' ?_ h2;unfold Own;rw [oU,List.length_append,← hn];exact h1

theorem og {w : World} {ops : Array Oper} {o : Oper} {a : Act} {K : Act → World → Prop} {Q : Exit → Act → World → Prop} {E : Prop} (hgd : o.guard = none) (s x : Operand)
  (ho:o.op = .call { callee:=.builtin .append,args:=#[s,x],argTypes:=#[25,25] })
  (B:Nat) (v:Value) (l:List V) (hs:a.eval s=v) (hown:Own w B v l) (b off n c:Nat) (m:List V) (hx:a.eval x = .slice (some ⟨b,off,none⟩) n c) (hn:n=m.length) (hc:Cells w b off m)
  (hl:l.length+m.length≤8796093022208) (hB:B≤w.heap.size)
  (h:∀ v' w',Own w' B v' (l ++ m)→w.grownBy w' v.ownBlock→K (a.put o.dst v') w'):if Region.wanted o (yielded ops a.tmps)=true then Oper.wp Tryz.prog o a w K Q else E:=by
 have hw:Region.wanted o (yielded ops a.tmps)=true:=by simp [Region.wanted,hgd]
 rw [if_pos hw];obtain ⟨i0,hi,hz0,hz1,hz2⟩:=info_parts qP;refine wp_append_own w s x 25 ho B 24 i0 (.agg #[.int .i64 0,.int .i64 0]) 2 16 Tryz.underlying25 hi hz0 hz1 hz2 rfl (by decide) v l.length (flat l) hs hown ⟨b,off,none⟩ n c (flat m) hx (by rw [jV,hn]) (rA hc) (xK m) (by unfold maxLen;omega) (by omega) hB ?_;intro v' w' h1 h2 _;refine h v' w' ?_ h2;unfold Own;rw [oU,List.length_append,← hn];exact h1

theorem Own.lit (w:World) (B:Nat) (l:List V) (hB:B≤w.heap.size) (hl:l.length≤8796093022208):Own (w.alloc (.cells (flat l).toArray 24)) B (.slice (some ⟨w.heap.size,0,none⟩) l.length l.length) l :=
 ⟨jV l,.inr ⟨w.heap.size,l.length,(flat l).toArray,rfl,hB,heap_alloc_new w _,Nat.le_refl _,by unfold maxLen;omega,by simp [jV],by simp [jV,List.take_of_length_le]⟩⟩
theorem Cells.drop {b off:Nat} {l:List V} (h:Cells w b off l) (k:Nat):Cells w b (off+k*2) (l.drop k):=by
 refine ⟨h.lt,fun j hj=>?_,fun j hj=>?_⟩
 ·rw [List.length_drop] at hj;have:=h.x (k+j) (by omega);rw [show off+k*2+j*2=off+(k+j)*2 by omega,this];simp [px]
 ·rw [List.length_drop] at hj;have:=h.y (k+j) (by omega);rw [show off+k*2+j*2+1=off+(k+j)*2+1 by omega,this];simp [py]
theorem Sl.take {A:Option Addr} {n c:Nat} {l:List V} (h:Sl w A n c l) {k:Nat} (hk:k≤n):Sl w A k c (l.take k):=by
 have hn:=h.len;refine ⟨by rw [List.length_take];omega,by have:=h.cap;omega,h.big,fun hl=>?_⟩;obtain ⟨b,off,rfl,hc⟩:=h.at_ (by intro e;subst e;simp at hl);refine ⟨b,off,rfl,hc.lt,fun j hj=>?_,fun j hj=>?_⟩
 ·rw [List.length_take] at hj;rw [hc.x j (by omega)];simp [px,List.getElem?_take,show j<k by omega]
 ·rw [List.length_take] at hj;rw [hc.y j (by omega)];simp [py,List.getElem?_take,show j<k by omega]
theorem cells_one {b off:Nat} {p q:Int} (h0:w.cell? ⟨b,off,none⟩=some (.int .i64 p)) (h1:w.cell? ⟨b,off+1,none⟩=some (.int .i64 q)):Cells w b off [(p,q)] :=
 ⟨lt_of_cell h0,fun j hj=>match j,hj with | 0,_=>by simpa [px] using h0,fun j hj=>match j,hj with | 0,_=>by simpa [py] using h1⟩

structure Ee (w : World) (A : Option Addr) (n c : Nat) (r : List Int) : Prop where
 len:n=r.length
 cap:n≤c
 big:c≤9223372036854775807
 at_:r≠[]→∃ b off,A=some ⟨b,off,none⟩∧b<w.heap.size∧∀ j,j<r.length→w.cell? ⟨b,off+j,none⟩=some (.int .i64 (r.getD j 0))
theorem Ee.below {A:Option Addr} {n c:Nat} {r:List Int} (h:Ee w A n c r) (hb:Below w.heap.size w w'):Ee w' A n c r :=
 ⟨h.len,h.cap,h.big,fun hl=>by
  obtain ⟨b,off,rfl,hlt,hc⟩:=h.at_ hl
  exact ⟨b,off,rfl,Nat.lt_of_lt_of_le hlt hb.size,fun j hj=>((bX hb).1 _ _ hlt).trans (hc j hj)⟩⟩

structure Ht (w : World) (g : Nat) (r : List Int) : Prop where
 lt:g<w.heap.size
 free:w.frozen? ⟨g,0,none⟩=false
 at_:∃ A n c,w.cell? ⟨g,0,none⟩=some (.slice A n c)∧Ee w A n c r∧(r≠[]→∀ b off,A=some ⟨b,off,none⟩→b<g)
theorem Ht.below {g:Nat} {r:List Int} (h:Ht w g r) (hb:Below w.heap.size w w'):Ht w' g r:=by
 obtain ⟨h1,h2,A,n,c,h3,h4,h5⟩:=h;exact ⟨Nat.lt_of_lt_of_le h1 hb.size,((bX hb).2 _ _ h1).trans h2,A,n,c,((bX hb).1 _ _ h1).trans h3,h4.below hb,h5⟩
theorem Ee.setCell {A:Option Addr} {n c g:Nat} {r:List Int} (h:Ee w A n c r) (hA:∀ b off,A=some ⟨b,off,none⟩→b<g) (v:Value):Ee (w.setCell ⟨g,0,none⟩ v) A n c r :=
 ⟨h.len,h.cap,h.big,fun hl=>by
  obtain ⟨b,off,rfl,hlt,hc⟩:=h.at_ hl
  have hb:=hA b off rfl
  exact ⟨b,off,rfl,by simpa [World.setCell] using hlt,fun j hj=>(bM (aX w g 0 v) (by omega) hlt).trans (hc j hj)⟩⟩


theorem Sl.made (w:World) (l:List V) (T:TypeId) (hl:l.length≤9223372036854775807):Sl (w.alloc (.cells (flat l).toArray T)) (some ⟨w.heap.size,0,none⟩) l.length l.length l:=by
 refine ⟨rfl,Nat.le_refl _,hl,fun _=>⟨w.heap.size,0,rfl,by simp,fun j hj=>?_,fun j hj=>?_⟩⟩
 ·rw [cell_of_row _ w.heap.size _ (flat l).toArray T (0, 0) (heap_alloc_new w _)];simpa using (nC l j hj).1
 ·rw [cell_of_row _ w.heap.size _ (flat l).toArray T (0, 0) (heap_alloc_new w _)];simpa using (nC l j hj).2

def AV (l:List V) (w:World) (e:Ending) (w':World):Prop :=
 ∃ A n c,e = .returned (.slice A n c)∧Sl w' A n c l∧(∀ b off,A=some ⟨b,off,none⟩→w.heap.size≤b)∧Below w.heap.size w w'

def Iw (x y h:Int):List V:=[(x*65536-h*65536,y*65536-h*65536),(x*65536+h*65536,y*65536-h*65536),(x*65536+h*65536,y*65536+h*65536),(x*65536-h*65536,y*65536+h*65536)]
section
variable {w0 w w':World}
variable {H:Type} {enc:TypeId × Value→H} {W:World} {held:Bool} {base:Nat} {sp:Nat→Bool}

end
end
section
set_option linter.unusedVariables false
set_option linter.unusedSimpArgs false
open Go.RowKit
variable {w0 w w':World}

structure VZ (w : World) (g : Nat) : Prop where
 c:∃ x y:Value,w.cell? ⟨g,0,none⟩=some x∧w.cell? ⟨g,1,none⟩=some y
 free:∀ j,w.frozen? ⟨g,j,none⟩=false
theorem dP {g:Nat} (hb:Below w.heap.size w w') (h:VZ w g):VZ w' g:=by
 obtain ⟨⟨x,y,h0,h1⟩,hf⟩:=h;exact ⟨⟨x,y,keepCell hb h0,keepCell hb h1⟩,fun j=>((bX hb).2 _ _ (lt_of_cell h0)).trans (hf j)⟩
theorem VZ.lt {g:Nat} (h:VZ w g):g<w.heap.size:=by obtain ⟨⟨_,_,h0,_⟩,_⟩:=h;exact lt_of_cell h0
theorem VZ.alloc {g:Nat} (h:VZ w g) (o:Obj):VZ (w.alloc o) g:=dP Ba h
theorem VZ.drew {g:Nat} (h:VZ w g):VZ w.drew g:=⟨h.c,h.free⟩
theorem VZ.here (w:World) (a b:Int) (t:TypeId):VZ (w.alloc (.cells #[.int .i64 a,.int .i64 b] t)) w.heap.size :=
 ⟨⟨.int .i64 a,.int .i64 b,by go_simp,by go_simp⟩,fun j=>by go_simp⟩
theorem VZ.set {g:Nat} (h:VZ w g) (a:Addr) (u:Value):VZ (w.setCell a u) g:=by
 obtain ⟨⟨x,y,h0,h1⟩,hf⟩:=h;refine ⟨?_,fun j=>by rw [World.frozen?_setCell];exact hf j⟩
 have e:∀ j z,w.cell? ⟨g,j,none⟩=some z→∃ z',(w.setCell a u).cell? ⟨g,j,none⟩=some z':=fun j z hz=>by
  by_cases ha:a=⟨g,j,none⟩
  ·subst ha;exact ⟨u,by go_simp⟩
  ·exact ⟨z,by go_simp⟩
 obtain ⟨z0,e0⟩:=e 0 x h0;obtain ⟨z1,e1⟩:=e 1 y h1;exact ⟨z0,z1,e0,e1⟩
theorem Sl.empty' (w:World):Sl w none 0 0 []:=⟨rfl,by omega,by omega,fun h=>absurd rfl h⟩
theorem mZ {w : World} {ops : Array Oper} {rest : List Oper} {o : Oper} {a : Act} {Q : Exit → Act → World → Prop} (hgd : o.guard = none) (s x : Operand)
  (ho:o.op = .call { callee:=.builtin .append,args:=#[s,x],argTypes:=#[25,25] })
  (B:Nat) (v:Value) (l:List V) (hs:a.eval s=v) (hown:Own w B v l) (ad:Addr) (c:Nat) (hx:a.eval x = .slice (some ad) 0 c)
  (hl:l.length≤8796093022208) (hB:B≤w.heap.size)
  (h:∀ v' w',Own w' B v' l→w.grownBy w' v.ownBlock→wpList Tryz.prog ops Q rest (a.put o.dst v') w'):wpList Tryz.prog ops Q (o :: rest) a w:=by
 obtain ⟨i0,hi,hz0,hz1,hz2⟩:=info_parts qP;refine wpList_append_own w hgd s x 25 ho B 24 i0 (.agg #[.int .i64 0,.int .i64 0]) 2 16 Tryz.underlying25 hi hz0 hz1 hz2 rfl (by decide) v l.length (flat l) hs hown ad 0 c [] hx (by simp) (fun j u hj=>by simp at hj) (by simp) (by unfold maxLen;omega) (by omega) hB ?_;intro v' w' h1 h2 _;refine h v' w' ?_ h2;unfold Own;simpa using h1
theorem lF (A:Option Addr) (n c:Nat) (l:List V) (w:World) (hS:Sl w A n c l) (hl:l.length≤8796093022208):Calls Tryz.prog 111 #[.slice A n c] w (AV l w):=by
 have hcmp:∀ w':World,(binOp .eql 25 (.slice A n c) (.slice none 0 0)).run Tryz.prog w' = .ok (.bool A.isNone) w':=fun w'=>Lib.run_eql_slice_nil w' 25 _ A n c 0 0 Tryz.underlying25
 cases A with
 | none =>
  have hl0:l=[]:=by
   rcases l with _ | ⟨a,r⟩
   ·rfl
   ·obtain ⟨b,off,h,_⟩:=hS.at_ (by simp);cases h
  subst hl0;have hn:=hS.len;simp at hn;subst hn;clear hS
  go_enter Tryz.func111,Tryz.ntmps111
  go_wp2
  go_returns
  exact ⟨_,_,_,rfl,Sl.empty' _,fun b off h=>absurd h (by simp),Below.refl _ _⟩
 | some ad =>
  have hn:=hS.len;have HS:=hid hS;clear hS;have HO:Hid (Own (w.alloc (.cells #[] 24)) w.heap.size (.slice (some ⟨w.heap.size,0,none⟩) 0 0) []):=Own.lit w w.heap.size [] (Nat.le_refl _) (by simp)
  by_cases hl0:l=[]
  ·subst hl0;simp at hn;subst hn
   go_enter Tryz.func111,Tryz.ntmps111
   go_wp2_with (at_builtin;refine mZ rfl _ _ rfl w.heap.size _ [] rfl HO.out ad _ rfl (by simp) (by simp) ?_;intro v' w1 ho1 hg1;have HO1:=hid ho1;have hb1:=Own.grown HO.out hg1 (by simp);clear ho1 hg1)
   obtain ⟨A',n',c',rfl,hs,hfr⟩:=HO1.out.sl
   go_returns
   exact ⟨_,_,_,rfl,hs,hfr,(Below.trans (by go_grown) hb1)⟩
  ·obtain ⟨b, off, hab, hC⟩ := HS.out.at_ hl0
   cases hab
   subst hn;have HC:=hid (hC.below ((Below.refl w.heap.size w).alloc (Nat.le_refl _) (.cells #[] 24)));clear hC
   go_enter Tryz.func111,Tryz.ntmps111
   go_wp2_with (at_builtin;refine mM rfl _ _ rfl w.heap.size _ [] rfl HO.out b off _ _ l rfl rfl HC.out (by simp;omega) (by simp) ?_;intro v' w1 ho1 hg1;have HO1:=hid ho1;have hb1:=Own.grown HO.out hg1 (by simp);clear ho1 hg1)
   obtain ⟨A',n',c',rfl,hs,hfr⟩:=HO1.out.sl
   go_returns
   exact ⟨_,_,_,rfl,by simpa using hs,hfr,(Below.trans (by go_grown) hb1)⟩

def qo (b:Bd) (l:List V) (w:World) (e:Ending) (w':World):Prop:=∃ A n c,e = .returned (fP b A n c)∧Sl w' A n c l∧(∀ bx off,A=some ⟨bx,off,none⟩→w.heap.size≤bx)∧Below w.heap.size w w'

structure jX (w : World) (g : Nat) : Prop where
 c:∀ j,j<13→∃ v,w.cell? ⟨g,j,none⟩=some v
 free:∀ j,w.frozen? ⟨g,j,none⟩=false
theorem jX.lt {g:Nat} (h:jX w g):g<w.heap.size:=by
 obtain ⟨v,hv⟩:=h.c 0 (by omega);exact lt_of_cell hv
theorem iJ {g:Nat} (hb:Below w.heap.size w w') (h:jX w g):jX w' g :=
 ⟨fun j hj=>by obtain ⟨v,hv⟩:=h.c j hj;exact ⟨v,keepCell hb hv⟩,fun j=>((bX hb).2 _ _ h.lt).trans (h.free j)⟩
theorem jX.alloc {g:Nat} (h:jX w g) (o:Obj):jX (w.alloc o) g:=iJ Ba h
theorem jX.drew {g:Nat} (h:jX w g):jX w.drew g:=⟨h.c,h.free⟩
theorem jX.of {g:Nat} {b:Bd} {A:Option Addr} {n c:Nat} (h:bC w g b A n c):jX w g :=
 ⟨fun j hj=>match j,hj with
  | 0,_=>⟨_,h.c0⟩ | 1,_=>⟨_,h.c1⟩ | 2,_=>⟨_,h.c2⟩ | 3,_=>⟨_,h.c3⟩ | 4,_=>⟨_,h.c4⟩ | 5,_=>⟨_,h.c5⟩ | 6,_=>⟨_,h.c6⟩ | 7,_=>⟨_,h.c7⟩ | 8,_=>⟨_,h.c8⟩ | 9,_=>⟨_,h.c9⟩ | 10,_=>⟨_,h.c10⟩ | 11,_=>⟨_,h.c11⟩ | 12,_=>⟨_,h.c12⟩,h.free⟩
theorem jX.all {g:Nat} (h:jX w g):∃ z0 z1 z2 z3 z4 z5 z6 z7 z8 z9 z10 z11 z12:Value,w.cell? ⟨g,0,none⟩=some z0∧w.cell? ⟨g,1,none⟩=some z1∧w.cell? ⟨g,2,none⟩=some z2∧w.cell? ⟨g,3,none⟩=some z3∧w.cell? ⟨g,4,none⟩=some z4∧w.cell? ⟨g,5,none⟩=some z5∧w.cell? ⟨g,6,none⟩=some z6∧w.cell? ⟨g,7,none⟩=some z7∧w.cell? ⟨g,8,none⟩=some z8∧w.cell? ⟨g,9,none⟩=some z9∧w.cell? ⟨g,10,none⟩=some z10∧w.cell? ⟨g,11,none⟩=some z11∧w.cell? ⟨g,12,none⟩=some z12:=by
 obtain ⟨z0,h0⟩:=h.c 0 (by omega);obtain ⟨z1,h1⟩:=h.c 1 (by omega);obtain ⟨z2,h2⟩:=h.c 2 (by omega);obtain ⟨z3,h3⟩:=h.c 3 (by omega);obtain ⟨z4,h4⟩:=h.c 4 (by omega);obtain ⟨z5,h5⟩:=h.c 5 (by omega);obtain ⟨z6,h6⟩:=h.c 6 (by omega);obtain ⟨z7,h7⟩:=h.c 7 (by omega);obtain ⟨z8,h8⟩:=h.c 8 (by omega);obtain ⟨z9,h9⟩:=h.c 9 (by omega);obtain ⟨z10,h10⟩:=h.c 10 (by omega);obtain ⟨z11,h11⟩:=h.c 11 (by omega);obtain ⟨z12,h12⟩:=h.c 12 (by omega);exact ⟨z0,z1,z2,z3,z4,z5,z6,z7,z8,z9,z10,z11,z12,h0,h1,h2,h3,h4,h5,h6,h7,h8,h9,h10,h11,h12⟩
theorem bC.set_px {g:Nat} {b:Bd} {A:Option Addr} {n c:Nat} (h:bC w g b A n c) (v:Int):bC (w.setCell ⟨g,0,none⟩ (.int .i64 v)) g { b with px:=v } A n c:=by
 obtain ⟨k0,k1,k2,k3,k4,k5,k6,k7,k8,k9,k10,k11,k12,kf⟩:=h;exact ⟨by go_simp,by go_simp,by go_simp,by go_simp,by go_simp,by go_simp,by go_simp,by go_simp,by go_simp,by go_simp,by go_simp,by go_simp,by go_simp,fun j=>by rw [World.frozen?_setCell];exact kf j⟩
theorem bC.set_py {g:Nat} {b:Bd} {A:Option Addr} {n c:Nat} (h:bC w g b A n c) (v:Int):bC (w.setCell ⟨g,1,none⟩ (.int .i64 v)) g { b with py:=v } A n c:=by
 obtain ⟨k0,k1,k2,k3,k4,k5,k6,k7,k8,k9,k10,k11,k12,kf⟩:=h;exact ⟨by go_simp,by go_simp,by go_simp,by go_simp,by go_simp,by go_simp,by go_simp,by go_simp,by go_simp,by go_simp,by go_simp,by go_simp,by go_simp,fun j=>by rw [World.frozen?_setCell];exact kf j⟩
theorem bC.set_ang {g:Nat} {b:Bd} {A:Option Addr} {n c:Nat} (h:bC w g b A n c) (v:Int):bC (w.setCell ⟨g,4,none⟩ (.int .i64 v)) g { b with ang:=v } A n c:=by
 obtain ⟨k0,k1,k2,k3,k4,k5,k6,k7,k8,k9,k10,k11,k12,kf⟩:=h;exact ⟨by go_simp,by go_simp,by go_simp,by go_simp,by go_simp,by go_simp,by go_simp,by go_simp,by go_simp,by go_simp,by go_simp,by go_simp,by go_simp,fun j=>by rw [World.frozen?_setCell];exact kf j⟩
theorem bC.set_slice {g:Nat} {b:Bd} {A A':Option Addr} {n c n' c':Nat} (h:bC w g b A n c):bC (w.setCell ⟨g,10,none⟩ (.slice A' n' c')) g b A' n' c':=by
 obtain ⟨k0,k1,k2,k3,k4,k5,k6,k7,k8,k9,k10,k11,k12,kf⟩:=h;exact ⟨by go_simp,by go_simp,by go_simp,by go_simp,by go_simp,by go_simp,by go_simp,by go_simp,by go_simp,by go_simp,by go_simp,by go_simp,by go_simp,fun j=>by rw [World.frozen?_setCell];exact kf j⟩
theorem Sl.setAt {A:Option Addr} {n c g o:Nat} {l:List V} {v:Value} (h:Sl w A n c l) (hne:∀ b off,A=some ⟨b,off,none⟩→b≠g):Sl (w.setCell ⟨g,o,none⟩ v) A n c l:=h.grown (aX _ _ _ _) hne
theorem jX.set {g:Nat} (h:jX w g) (a:Addr) (u:Value):jX (w.setCell a u) g:=⟨fun j hj=>by
  obtain ⟨v,hv⟩:=h.c j hj
  by_cases e:a=⟨g,j,none⟩
  ·subst e;exact ⟨u,by go_simp⟩
  ·exact ⟨v,by go_simp⟩,fun j=>by rw [World.frozen?_setCell];exact h.free j⟩

def setBd (w:World) (g:Nat) (b:Bd) (A:Option Addr) (n c:Nat):World:=(((((((((((((w.setCell ⟨g,0,none⟩ (.int .i64 b.px)).setCell ⟨g,1,none⟩ (.int .i64 b.py)).setCell ⟨g,2,none⟩ (.int .i64 b.vx)).setCell ⟨g,3,none⟩ (.int .i64 b.vy)).setCell ⟨g,4,none⟩ (.int .i64 b.ang)).setCell ⟨g,5,none⟩ (.int .i64 b.spin)).setCell ⟨g,6,none⟩ (.int .i64 b.mass)).setCell ⟨g,7,none⟩ (.int .i64 b.iner)).setCell ⟨g,8,none⟩ (.int .i64 b.bounce)).setCell ⟨g,9,none⟩ (.int .i64 b.rub)).setCell ⟨g,10,none⟩ (.slice A n c)).setCell ⟨g,11,none⟩ (.bool b.asleep)).setCell ⟨g,12,none⟩ (.int .i64 b.calm))
theorem EZ {g:Nat} (h:jX w g) (b:Bd) (A:Option Addr) (n c:Nat):bC (setBd w g b A n c) g b A n c:=by
 obtain ⟨z0,z1,z2,z3,z4,z5,z6,z7,z8,z9,z10,z11,z12,y0,y1,y2,y3,y4,y5,y6,y7,y8,y9,y10,y11,y12⟩:=h.all;have yf:=h.free;unfold setBd;refine ⟨by go_simp,by go_simp,by go_simp,by go_simp,by go_simp,by go_simp,by go_simp,by go_simp,by go_simp,by go_simp,by go_simp,by go_simp,by go_simp,fun j=>?_⟩
 iterate 13 rw [World.frozen?_setCell]
 exact yf j
theorem jX.setBd {g k:Nat} (h:jX w k) (b:Bd) (A:Option Addr) (n c:Nat):jX (Go.Proofs.YtokgmcomgflloaaGreat.setBd w g b A n c) k:=(((((((((((((h.set _ _).set _ _).set _ _).set _ _).set _ _).set _ _).set _ _).set _ _).set _ _).set _ _).set _ _).set _ _).set _ _)
theorem Sl.setBd {A A':Option Addr} {n c n' c' g:Nat} {l:List V} (h:Sl w A n c l) (b:Bd) (hne:∀ bx off,A=some ⟨bx,off,none⟩→bx≠g):Sl (Go.Proofs.YtokgmcomgflloaaGreat.setBd w g b A' n' c') A n c l:=(Sl.setAt (Sl.setAt (Sl.setAt (Sl.setAt (Sl.setAt (Sl.setAt (Sl.setAt (Sl.setAt (Sl.setAt (Sl.setAt (Sl.setAt (Sl.setAt (Sl.setAt h hne) hne) hne) hne) hne) hne) hne) hne) hne) hne) hne) hne) hne)
theorem xu {B:Nat} {a w:World} {g:Nat} (h:Below B a w) (hg:B≤g) (b:Bd) (A:Option Addr) (n c:Nat):Below B a (setBd w g b A n c):=by
 unfold setBd
 iterate 13 refine Below.setCell ?_ (by exact hg) _
 exact h

def IB:Bd:=⟨0,0,0,0,0,0,0,0,0,0,false,0⟩
theorem DN (b:Bd) (A:Option Addr) (n c:Nat) (l:List V) (w:World) (hS:Sl w A n c l) (hl:l.length≤8796093022208):Calls Tryz.prog 123 #[fP b A n c] w (qo b l w):=by
 obtain ⟨W,hW⟩:∃ W,W=(w.alloc (.cells #[.int .i64 b.px,.int .i64 b.py,.int .i64 b.vx,.int .i64 b.vy,.int .i64 b.ang,.int .i64 b.spin,.int .i64 b.mass,.int .i64 b.iner,.int .i64 b.bounce,.int .i64 b.rub,.slice A n c,.bool b.asleep,.int .i64 b.calm] 27)).alloc (.cells #[.int .i64 0,.int .i64 0,.int .i64 0,.int .i64 0,.int .i64 0,.int .i64 0,.int .i64 0,.int .i64 0,.int .i64 0,.int .i64 0,.slice none 0 0,.bool false,.int .i64 0] 27):=⟨_,rfl⟩;have HK0:=hid (show bC W w.heap.size b A n c by rw [hW];exact (bC.here w b A n c _).alloc _);have HZ0:=hid (show jX W (w.heap.size+1) by rw [hW];have:=bC.here (w.alloc (.cells #[.int .i64 b.px,.int .i64 b.py,.int .i64 b.vx,.int .i64 b.vy,.int .i64 b.ang,.int .i64 b.spin,.int .i64 b.mass,.int .i64 b.iner,.int .i64 b.bounce,.int .i64 b.rub,.slice A n c,.bool b.asleep,.int .i64 b.calm] 27)) IB none 0 0 27;simp only [IB] at this;exact jX.of (by simpa using this));have hB0:Below w.heap.size w W:=by rw [hW];go_grown
 have HS0:=hid (hS.below hB0);have HW0:Hid (W.heap.size=w.heap.size+2):=by show _=_;rw [hW];simp
 clear hS
 go_enter Tryz.func123,Tryz.ntmps123
 go_wp2_with fail
 rw [← hW];clear hW;refine (lF _ _ _ l _ HS0.out hl).mono ?_;rintro e w1 ⟨A',n',c',rfl,hs1,hfr,hb1⟩;have HK1:=hid (bJ hb1 HK0.out);have HZ1:=hid (iJ hb1 HZ0.out);have hB1:=ah hb1 hB0;have HS1:=hid hs1;obtain ⟨_,_,_,_,_,_,_,_,_,_,k10,_,_,kf⟩:=HK1.out;clear hb1 HK0 HZ0 hB0 HS0 hs1;have hz0:=HK1.out.lt;have hz1:=HZ1.out.lt
 go_upto_region 2 with fail
 obtain ⟨wd,hwd⟩:∃ wd,wd=w1.setCell ⟨w.heap.size,10,none⟩ (.slice A' n' c'):=⟨_,rfl⟩;have hk:bC wd w.heap.size b A' n' c':=by rw [hwd];exact HK1.out.set_slice
 have hzz:jX wd (w.heap.size+1):=by rw [hwd];exact HZ1.out.set _ _
 have hB2:Below w.heap.size w wd:=by rw [hwd];go_grown
 have HS2:Hid (Sl wd A' n' c' l):=by
  rw [hwd];exact HS1.out.grown (aX _ _ _ _) (fun b off e=>by have:=hfr b off e;have:=HW0.out;omega)
 have HNF:Hid (∀ bx off,A'=some ⟨bx,off,none⟩→w.heap.size≤bx):=fun b off e=>by have:=hfr b off e;have:=HW0.out;omega
 have HNE:Hid (∀ b off,A'=some ⟨b,off,none⟩→b≠w.heap.size+1):=fun b off e=>by have:=hfr b off e;have:=HW0.out;omega
 rw [← hwd];clear hwd HK1 HZ1 HS1 hB1 k10 kf hz0 hz1 hfr HW0;obtain ⟨k0,k1,k2,k3,k4,k5,k6,k7,k8,k9,k10,k11,k12,_⟩:=hk;obtain ⟨z0,z1,z2,z3,z4,z5,z6,z7,z8,z9,z10,z11,z12,y0,y1,y2,y3,y4,y5,y6,y7,y8,y9,y10,y11,y12⟩:=hzz.all;have yf:=hzz.free;have hl1:=hzz.lt;clear hzz;go_wp2;refine bodyPost_ret (v:=fP b A' n' c') (by simp [results,Tryz.results123,go_sem,y0,y1,y2,y3,y4,y5,y6,y7,y8,y9,y10,y11,y12,hl1]) rfl ⟨_,_,_,rfl,?_,fun bx off e=>by have:=HNF.out bx off e;omega,?_⟩
 ·iterate 13 refine Sl.setAt ?_ HNE.out
  exact HS2.out
 ·go_grown
end
end Go.Proofs.YtokgmcomgflloaaGreat
