/- Parts of a proof: contracts and laws. -/
import Derived.Test.YtodpincpofoiiaaGreatQC10
import Derived.Test.YtodpincpofoiiaaGreatQC09
import Derived.Test.YtodpincpofoiiaaGreatQC06
import Derived.Maps.AppendAt
import Derived.Test.YtodpincpofoiiaaGreatQC04
import Derived.Test.YtodpincpofoiiaaGreatQC03
import Derived.BigQuiet
import Derived.Test.YtodpincpofoiiaaGreatQC07
set_option maxRecDepth 100000
set_option maxHeartbeats 16000000
namespace Go.Proofs.YtodpincpofoiiaaGreat
section
set_option linter.unusedVariables false
set_option linter.unusedSimpArgs false
open Go.RowKit

theorem BdAt.away {w:World} {g:Nat} {b:Bd} {A:Option Addr} {n c:Nat} (h:BdAt w g b A n c) (k o:Nat) (v:Value) (hne:k≠g):BdAt (w.setCell ⟨k,o,none⟩ v) g b A n c :=
 ⟨far1 hne h.c0,far1 hne h.c1,far1 hne h.c2,far1 hne h.c3,far1 hne h.c4,far1 hne h.c5,far1 hne h.c6,far1 hne h.c7,far1 hne h.c8,far1 hne h.c9,far1 hne h.c10,far1 hne h.c11,far1 hne h.c12,fun j=>by rw [World.frozen?_setCell];exact h.free j⟩
end
end Go.Proofs.YtodpincpofoiiaaGreat
namespace Go.Proofs.YtodpincpofoiiaaGreat
section
set_option linter.unusedVariables false
set_option linter.unusedSimpArgs false
open Go.RowKit

theorem edge_pos {l:List V} (h:rowsOk l l.length) {i k:Nat} (hi:i<l.length) (hk:k<l.length) (h1:k≠i) (h2:k≠(i+1) % l.length):0<sideL l i ((i+1) % l.length) k:=by
 have:=h i hi k hk
 simp only [edgeBad,decide_eq_false_iff_not] at this
 omega

end
end Go.Proofs.YtodpincpofoiiaaGreat
namespace Go.Proofs.YtodpincpofoiiaaGreat
section
set_option linter.unusedVariables false
set_option linter.unusedSimpArgs false
open Go.RowKit

structure Lay (α : Type) where
 enc:α→List Value
 k:Nat
 hk:∀ x,(enc x).length=k
 one:∀ x,∀ v ∈ enc x,v.oneCell'=true
 pos:0<k
section
variable {α:Type} {L:Lay α}
structure CellsE (L : Lay α) (w : World) (b off : Nat) (l : List α) : Prop where
 lt:b<w.heap.size
 at_:∀ j (hj:j<l.length) i v,(L.enc l[j])[i]? = some v→w.cell? ⟨b,off+j*L.k+i,none⟩=some v
structure SlE (L : Lay α) (w : World) (A : Option Addr) (n c : Nat) (l : List α) : Prop where
 len:n=l.length
 cap:n≤c
 big:c≤9223372036854775807
 at_:l≠[]→∃ b off,A=some ⟨b,off,none⟩∧CellsE L w b off l
theorem CellsE.below {w w':World} {b off:Nat} {l:List α} (hb:Below w.heap.size w w') (h:CellsE L w b off l):CellsE L w' b off l :=
 ⟨Nat.lt_of_lt_of_le h.lt hb.size,fun j hj i v hv=>keepCell hb (h.at_ j hj i v hv)⟩
theorem SlE.below {w w':World} {A:Option Addr} {n c:Nat} {l:List α} (h:SlE L w A n c l) (hb:Below w.heap.size w w'):SlE L w' A n c l :=
 ⟨h.len,h.cap,h.big,fun hl=>by obtain ⟨b,off,e,hc⟩:=h.at_ hl;exact ⟨b,off,e,hc.below hb⟩⟩
theorem SlE.alloc {w:World} {A:Option Addr} {n c:Nat} {l:List α} (h:SlE L w A n c l) (o:Obj):SlE L (w.alloc o) A n c l:=h.below Ba
theorem SlE.drew {w:World} {A:Option Addr} {n c:Nat} {l:List α} (h:SlE L w A n c l):SlE L w.drew A n c l:=h.below (Below.refl _ _).drew
theorem SlE.nil (L:Lay α) (w:World):SlE L w none 0 0 []:=⟨rfl,Nat.le_refl _,by omega,fun h=>absurd rfl h⟩
def flatE (L:Lay α) (l:List α):List Value:=l.flatMap L.enc
theorem flatE_len (l:List α):(flatE L l).length=l.length*L.k:=by
 induction l with
 | nil=>simp [flatE]
 | cons x l ih=>unfold flatE at *;rw [List.flatMap_cons,List.length_append,L.hk,ih,List.length_cons,Nat.add_mul];omega
theorem flatE_append (l m:List α):flatE L (l ++ m)=flatE L l ++ flatE L m:=List.flatMap_append
theorem flatE_at (l:List α) (j:Nat) (hj:j<l.length) (i:Nat) (v:Value) (h:(L.enc l[j])[i]? = some v):(flatE L l)[j*L.k+i]? = some v:=by
 induction l generalizing j with
 | nil=>simp at hj
 | cons x l ih =>
  unfold flatE at *
  rw [List.flatMap_cons]
  cases j with
  | zero =>
   have hi:i<(L.enc x).length:=by
    rcases Nat.lt_or_ge i (L.enc x).length with g | g
    ·exact g
    ·rw [List.getElem_cons_zero,List.getElem?_eq_none g] at h;cases h
   rw [Nat.zero_mul,Nat.zero_add,List.getElem?_append_left hi]
   exact h
  | succ j =>
   rw [List.getElem?_append_right (by rw [L.hk,Nat.add_mul];omega),L.hk,show (j+1)*L.k+i-L.k=j*L.k+i by rw [Nat.add_mul];omega]
   exact ih j (by simpa using hj) (by simpa using h)
theorem flatE_one (l:List α):∀ u ∈ flatE L l,u.oneCell'=true:=fun u hu=>by
 obtain ⟨x,hx,h⟩:=List.mem_flatMap.1 hu
 exact L.one x u h
theorem flatE_get (l:List α) (t:Nat) (ht:t<l.length*L.k):∃ (j i:Nat) (hj:j<l.length),i<L.k∧t=j*L.k+i∧(flatE L l)[t]? = (L.enc l[j])[i]? := by
 have hp:=L.pos
 have hj:t / L.k<l.length:=(Nat.div_lt_iff_lt_mul hp).2 ht
 have hi:t % L.k<L.k:=Nat.mod_lt _ hp
 have e:t=t / L.k*L.k+t % L.k:=(Nat.div_add_mod' t L.k).symm
 refine ⟨t / L.k,t % L.k,hj,hi,e,?_⟩
 have hv:(L.enc l[t / L.k])[t % L.k]? = some ((L.enc l[t / L.k])[t % L.k]'(by rw [L.hk];exact hi)):=List.getElem?_eq_getElem _
 have:=flatE_at l (t / L.k) hj (t % L.k) _ hv
 rw [← e] at this
 rw [this,hv]

def OwnE (L:Lay α) (e:TypeId) (w:World) (B:Nat) (v:Value) (l:List α):Prop:=w.ownsRow B e L.k v l.length (flatE L l)
variable {e:TypeId}
theorem OwnE.nil (L:Lay α) (e:TypeId) (w:World) (B:Nat):OwnE L e w B (.slice none 0 0) []:=World.ownsRow_nil _ _ _ _
theorem OwnE.kept {w w':World} {B:Nat} {v:Value} {l:List α} {row:Option Nat} (h:OwnE L e w B v l) (hg:w.grownBy w' row) (hr:v.ownBlock=none∨v.ownBlock≠row):OwnE L e w' B v l:=World.ownsRow.kept h hg hr
theorem OwnE.below {w w':World} {B:Nat} {v:Value} {l:List α} (h:OwnE L e w B v l) (hb:Below w.heap.size w w'):OwnE L e w' B v l :=
 h.kept (grown_of_below (row:=none) hb) (by cases hv:v.ownBlock with | none=>exact .inl rfl | some k=>exact .inr (by simp))
theorem OwnE.alloc {w:World} {B:Nat} {v:Value} {l:List α} (h:OwnE L e w B v l) (o:Obj):OwnE L e (w.alloc o) B v l:=World.ownsRow.alloc h o
theorem OwnE.drew {w:World} {B:Nat} {v:Value} {l:List α} (h:OwnE L e w B v l):OwnE L e w.drew B v l:=h
theorem OwnE.lt {w:World} {B:Nat} {v:Value} {l:List α} (h:OwnE L e w B v l) {k:Nat} (hk:v.ownBlock=some k):B≤k∧k<w.heap.size:=World.ownsRow.lt h k hk
theorem OwnE.off {w:World} {B g:Nat} {s:Value} {l:List α} (h:OwnE L e w B s l) (hne:∀ k,s.ownBlock=some k→k≠g) (o:Nat) (u:Value):OwnE L e (w.setCell ⟨g,o,none⟩ u) B s l:=by
 refine h.kept (grown_setCell _ g o _) ?_
 cases hv:s.ownBlock with
 | none=>exact .inl rfl
 | some k=>exact .inr fun e=>by cases e;exact hne _ hv rfl
theorem OwnE.grown {w w':World} {B:Nat} {v:Value} {l:List α} (h:OwnE L e w B v l) (hg:w.grownBy w' v.ownBlock) (hB:B≤w.heap.size):Below B w w' :=
 (Below.refl B w).grown hg hB (fun k hk=>(World.ownsRow.lt h k hk).1)
theorem OwnE.mono {w:World} {B B':Nat} {v:Value} {l:List α} (h:OwnE L e w B v l) (hB:B'≤B):OwnE L e w B' v l:=by
 obtain ⟨h1,h2 | ⟨g,cap,cur,hv,hb,rest⟩⟩:=h
 ·exact ⟨h1,.inl h2⟩
 ·exact ⟨h1,.inr ⟨g,cap,cur,hv,Nat.le_trans hB hb,rest⟩⟩

theorem OwnE.form {w:World} {B:Nat} {v:Value} {l:List α} (h:OwnE L e w B v l):(v = .slice none 0 0∧l=[])∨∃ g cap,v = .slice (some ⟨g,0,none⟩) l.length cap∧B≤g∧g<w.heap.size∧l.length≤cap∧cap≤maxLen∧(∀ j,w.frozen? ⟨g,j,none⟩=false)∧CellsE L w g 0 l:=by
 have hc:=fun g hg=>World.ownsRow.cells h (g:=g) hg
 obtain ⟨h1,h2 | ⟨g,cap,cur,rfl,hb,hg,hn,hm,hs,ht⟩⟩:=h
 ·exact .inl ⟨h2.1,List.length_eq_zero_iff.1 h2.2⟩
 ·have hlt := (Array.getElem?_eq_some_iff.1 hg).1
  refine .inr ⟨g,cap,rfl,hb,hlt,hn,hm,fun j=>by simp [World.frozen?,hg],hlt,fun j hj i v hv=>?_⟩
  have:=hc g rfl (j*L.k+i) v (flatE_at l j hj i v hv)
  have hadd:(⟨g,0,none⟩:Addr).add (j*L.k+i)=⟨g,0+j*L.k+i,none⟩:=by unfold Addr.add;split <;> simp_all <;> omega
  rwa [hadd] at this
theorem OwnE.sl {w:World} {B:Nat} {v:Value} {l:List α} (h:OwnE L e w B v l):∃ A n c,v = .slice A n c∧SlE L w A n c l∧∀ b off,A=some ⟨b,off,none⟩→B≤b:=by
 rcases h.form with ⟨rfl,rfl⟩ | ⟨g,cap,rfl,hB,hg,hn,hm,-,hc⟩
 ·exact ⟨none,0,0,rfl,SlE.nil L w,by simp⟩
 ·exact ⟨_,_,_,rfl,⟨rfl,hn,by unfold maxLen at hm;omega,fun _=>⟨g,0,rfl,hc⟩⟩,fun b off e=>by cases e;exact hB⟩

structure TyE (L : Lay α) (t e : TypeId) (bytes : Nat) : Prop where
 ht:Tryz.prog.underlying t=some (.slice e)
 hi:∃ (i0:TypeInfo) (z:Value),Tryz.prog.info? e=some i0∧i0.zero=some z∧i0.size=L.k∧i0.bytes=bytes∧z.cells.size=L.k

theorem run_append_E {t : TypeId} {bytes : Nat} (hT : TyE L t e bytes) (ty : TypeId) (w : World) (B : Nat) (v : Value) (l : List α) (hown : OwnE L e w B v l) (b off n c : Nat) (m : List α) (hn : n = m.length) (hc : CellsE L w b off m)
  (hl:l.length+m.length≤8796093022208) (hby:(l.length+m.length)*bytes≤140737488355328) (hB:B≤w.heap.size) :
  ∃ v' w',(Builtin.append_ #[t,t] ty #[v,.slice (some ⟨b,off,none⟩) n c]).run Tryz.prog w = .ok v' w'∧OwnE L e w' B v' (l ++ m)∧w.grownBy w' v.ownBlock∧(v'.ownBlock=v.ownBlock∨v'.ownBlock=some w.heap.size):=by
 obtain ⟨i0,z,hi,hz0,hz1,hz2,hz3⟩:=hT.hi
 subst hn
 obtain ⟨v',w',hr,h2,h3,h4,h5⟩:=run_append_own_at (P:=Tryz.prog) w B t ty e i0 z L.k bytes hT.ht hi hz0 hz1 hz2 hz3 L.pos v l.length (flatE L l) hown ⟨b,off,none⟩ m.length c (flatE L m) (flatE_len m) (fun j u hj=>by
  rcases Nat.lt_or_ge j (m.length*L.k) with g | g
  ·obtain ⟨j', i, hj', hi', e', h⟩ := flatE_get m j g
   rw [h] at hj
   have:=hc.at_ j' hj' i u hj
   have hadd:(⟨b,off,none⟩:Addr).add j=⟨b,off+j'*L.k+i,none⟩:=by unfold Addr.add;split <;> simp_all <;> omega
   rw [hadd]
   exact this
  ·rw [List.getElem?_eq_none (by rw [flatE_len];exact g)] at hj;cases hj) (flatE_one m) (by unfold maxLen;omega) hby hB
 refine ⟨v',w',hr,?_,h3,h5⟩
 unfold OwnE
 rw [flatE_append,List.length_append]
 exact h2
theorem wpList_append_E {t : TypeId} {bytes : Nat} (hT : TyE L t e bytes) {w : World} {ops : Array Oper} {rest : List Oper} {o : Oper} {a : Act} {Q : Exit → Act → World → Prop} (hgd : o.guard = none) (s x : Operand)
  (ho:o.op = .call { callee:=.builtin .append,args:=#[s,x],argTypes:=#[t,t] })
  (B:Nat) (v:Value) (l:List α) (hs:a.eval s=v) (hown:OwnE L e w B v l) (b off n c:Nat) (m:List α) (hx:a.eval x = .slice (some ⟨b,off,none⟩) n c) (hn:n=m.length) (hc:CellsE L w b off m)
  (hl:l.length+m.length≤8796093022208) (hby:(l.length+m.length)*bytes≤140737488355328) (hB:B≤w.heap.size)
  (h:∀ v' w',OwnE L e w' B v' (l ++ m)→w.grownBy w' v.ownBlock→(v'.ownBlock=v.ownBlock∨v'.ownBlock=some w.heap.size)→wpList Tryz.prog ops Q rest (a.put o.dst v') w'):wpList Tryz.prog ops Q (o :: rest) a w:=by
 obtain ⟨v',w',hr,h2,h3,h5⟩:=run_append_E hT o.type w B v l hown b off n c m hn hc hl hby hB
 refine wpList_plain hgd fun K hK=>?_
 unfold Oper.wp execOp
 simp only [ho,resolve,invoke,builtin,Sem.run_bind,Sem.run_pure,Result.andThen_ok,List.map_toArray,List.map_cons,List.map_nil,hs,hx,hr]
 exact hK _ _ (h v' w' h2 h3 h5)
theorem step_append_E {t : TypeId} {bytes : Nat} (hT : TyE L t e bytes) {w : World} {ops : Array Oper} {o : Oper} {a : Act} {K : Act → World → Prop} {Q : Exit → Act → World → Prop} {E : Prop} (hgd : o.guard = none) (s x : Operand)
  (ho:o.op = .call { callee:=.builtin .append,args:=#[s,x],argTypes:=#[t,t] })
  (B:Nat) (v:Value) (l:List α) (hs:a.eval s=v) (hown:OwnE L e w B v l) (b off n c:Nat) (m:List α) (hx:a.eval x = .slice (some ⟨b,off,none⟩) n c) (hn:n=m.length) (hc:CellsE L w b off m)
  (hl:l.length+m.length≤8796093022208) (hby:(l.length+m.length)*bytes≤140737488355328) (hB:B≤w.heap.size)
  (h:∀ v' w',OwnE L e w' B v' (l ++ m)→w.grownBy w' v.ownBlock→(v'.ownBlock=v.ownBlock∨v'.ownBlock=some w.heap.size)→K (a.put o.dst v') w'):if Region.wanted o (yielded ops a.tmps)=true then Oper.wp Tryz.prog o a w K Q else E:=by
 have hw:Region.wanted o (yielded ops a.tmps)=true:=by simp [Region.wanted,hgd]
 rw [if_pos hw]
 obtain ⟨v',w',hr,h2,h3,h5⟩:=run_append_E hT o.type w B v l hown b off n c m hn hc hl hby hB
 unfold Oper.wp execOp
 simp only [ho,resolve,invoke,builtin,Sem.run_bind,Sem.run_pure,Result.andThen_ok,List.map_toArray,List.map_cons,List.map_nil,hs,hx,hr]
 exact h v' w' h2 h3 h5
end
end
end Go.Proofs.YtodpincpofoiiaaGreat
namespace Go.Proofs.YtodpincpofoiiaaGreat
section
set_option linter.unusedVariables false
set_option linter.unusedSimpArgs false
open Go.RowKit

structure BE where
 b:Bd
 A:Option Addr
 n:Nat
 c:Nat
 l:List V
def encB (x:BE):List Value:=[.int .i64 x.b.px,.int .i64 x.b.py,.int .i64 x.b.vx,.int .i64 x.b.vy,.int .i64 x.b.ang,.int .i64 x.b.spin,.int .i64 x.b.mass,.int .i64 x.b.iner,.int .i64 x.b.bounce,.int .i64 x.b.rub,.slice x.A x.n x.c,.bool x.b.asleep,.int .i64 x.b.calm]
def layB:Lay BE:=⟨encB,13,fun _=>rfl,fun x v hv=>by simp only [encB,List.mem_cons,List.mem_nil_iff,or_false] at hv;rcases hv with rfl | rfl | rfl | rfl | rfl | rfl | rfl | rfl | rfl | rfl | rfl | rfl | rfl <;> rfl,by omega⟩
structure SlB (w : World) (A : Option Addr) (n c : Nat) (L : List BE) : Prop where
 sl:SlE layB w A n c L
 co:∀ x ∈ L,Sl w x.A x.n x.c x.l
theorem SlB.below {w w':World} {A:Option Addr} {n c:Nat} {L:List BE} (h:SlB w A n c L) (hb:Below w.heap.size w w'):SlB w' A n c L:=⟨h.sl.below hb,fun x hx=>(h.co x hx).below hb⟩
theorem SlB.alloc {w:World} {A:Option Addr} {n c:Nat} {L:List BE} (h:SlB w A n c L) (o:Obj):SlB (w.alloc o) A n c L:=h.below Ba
theorem SlB.drew {w:World} {A:Option Addr} {n c:Nat} {L:List BE} (h:SlB w A n c L):SlB w.drew A n c L:=h.below (Below.refl _ _).drew

theorem cells_bd {w:World} {ba off k:Nat} {L:List BE} {x:BE} (h:CellsE layB w ba off L) (hk:k<L.length) (hx:x=L[k]) :
  w.cell? ⟨ba,off+k*13,none⟩=some (.int .i64 x.b.px)∧w.cell? ⟨ba,off+k*13+1,none⟩=some (.int .i64 x.b.py)∧w.cell? ⟨ba,off+k*13+2,none⟩=some (.int .i64 x.b.vx)∧w.cell? ⟨ba,off+k*13+3,none⟩=some (.int .i64 x.b.vy)∧w.cell? ⟨ba,off+k*13+4,none⟩=some (.int .i64 x.b.ang)∧w.cell? ⟨ba,off+k*13+5,none⟩=some (.int .i64 x.b.spin)∧w.cell? ⟨ba,off+k*13+6,none⟩=some (.int .i64 x.b.mass)∧w.cell? ⟨ba,off+k*13+7,none⟩=some (.int .i64 x.b.iner)∧w.cell? ⟨ba,off+k*13+8,none⟩=some (.int .i64 x.b.bounce)∧w.cell? ⟨ba,off+k*13+9,none⟩=some (.int .i64 x.b.rub)∧w.cell? ⟨ba,off+k*13+10,none⟩=some (.slice x.A x.n x.c)∧w.cell? ⟨ba,off+k*13+11,none⟩=some (.bool x.b.asleep)∧w.cell? ⟨ba,off+k*13+12,none⟩=some (.int .i64 x.b.calm):=by
 subst hx
 exact ⟨h.at_ k hk 0 _ rfl,h.at_ k hk 1 _ rfl,h.at_ k hk 2 _ rfl,h.at_ k hk 3 _ rfl,h.at_ k hk 4 _ rfl,h.at_ k hk 5 _ rfl,h.at_ k hk 6 _ rfl,h.at_ k hk 7 _ rfl,h.at_ k hk 8 _ rfl,h.at_ k hk 9 _ rfl,h.at_ k hk 10 _ rfl,h.at_ k hk 11 _ rfl,h.at_ k hk 12 _ rfl⟩

def bodiesTo (L : List BE) : Nat → Int
 | 0=>0
 | k+1=>if bodiesTo L k≠0 then bodiesTo L k else match L[k]? with | some x=>bodyE x.b x.l | none=>0
def bodiesE (L:List BE):Int:=if 64<L.length then 2 else bodiesTo L L.length
theorem bodiesTo_succ {L:List BE} {k:Nat} (hk:k<L.length):bodiesTo L (k+1)=if bodiesTo L k≠0 then bodiesTo L k else bodyE L[k].b L[k].l:=by
 rw [bodiesTo,List.getElem?_eq_getElem hk]
theorem bodiesTo_stop (L : List BE) {k : Nat} : ∀ {m : Nat}, m ≤ L.length → k < m → bodiesTo L (k + 1) ≠ 0 → bodiesTo L m = bodiesTo L (k + 1)
 | 0,_,h,_=>by omega
 | m+1,hm,h,hz=>by
  rcases Nat.lt_or_ge k m with g | g
  ·have := bodiesTo_stop L (m := m) (by omega) g hz
   rw [bodiesTo_succ (by omega),if_pos (by rw [this];exact hz),this]
  ·rw [show m=k by omega]
theorem bodiesTo_zero {L : List BE} : ∀ {m : Nat}, m ≤ L.length → bodiesTo L m = 0 → ∀ k (hk : k < L.length), k < m → bodyE L[k].b L[k].l = 0
 | 0,_,_,k,_,h=>by omega
 | m+1,hm,hz,k,hk,h=>by
  rw [bodiesTo_succ (by omega)] at hz
  by_cases h0:bodiesTo L m=0
  ·rw [if_neg (by simp [h0])] at hz
   rcases Nat.lt_or_ge k m with g | g
   ·exact bodiesTo_zero (by omega) h0 k hk g
   ·have : k = m := by omega
    subst this
    exact hz
  ·rw [if_pos h0] at hz
   exact absurd hz h0
theorem bodiesE_zero {L:List BE} (h:bodiesE L=0):L.length≤64∧∀ x ∈ L,bodyE x.b x.l=0:=by
 unfold bodiesE at h
 by_cases h64:64<L.length
 ·rw [if_pos h64] at h;cases h
 ·rw [if_neg h64] at h
  refine ⟨by omega,fun x hx=>?_⟩
  obtain ⟨k,hk,rfl⟩:=List.getElem_of_mem hx
  exact bodiesTo_zero (Nat.le_refl _) h k hk hk
theorem kcheck_calls (A:Option Addr) (n c:Nat) (L:List BE) (w:World) (hS:SlB w A n c L):Calls Tryz.prog 79 #[.slice A n c] w (Ret (.int .i64 (bodiesE L)) w):=by
 have hn:=hS.sl.len
 have hcap:=hS.sl.cap
 have hbig:=hS.sl.big
 subst hn
 by_cases h64:64<L.length
 ·have HE : Hid (bodiesE L = 2) := by show _ = _; unfold bodiesE; rw [if_pos h64]
  clear hS
  go_enter Tryz.func79,Tryz.ntmps79
  go_wp2
  go_returns
  exact ret_int HE.out.symm (Below.refl _ _)
 have HE:Hid (bodiesE L=bodiesTo L L.length):=by show _=_;unfold bodiesE;rw [if_neg h64]
 have HS:=hid hS
 clear hS
 go_enter Tryz.func79,Tryz.ntmps79
 go_wp2
 go_loopw [11] (fun i wr=>∃ k:Nat,k≤L.length∧i = .int .i64 k∧bodiesTo L k=0∧Below w.heap.size w wr) (fun i _=>L.length-(intOf i).toNat)
 case atStart=>exact ⟨0,Nat.zero_le _,rfl,rfl,Below.refl _ _⟩
 case round =>
  obtain ⟨k,hk,rfl,hz,hB⟩:=hrel
  obtain ⟨wo,rfl⟩:∃ wo:World,wo=wr:=⟨_,rfl⟩
  have HSw:=hid (HS.out.below hB)
  by_cases hlt:k<L.length
  ·obtain ⟨ba, off, hA, hC⟩ := HSw.out.sl.at_ (by intro h; subst h; simp at hlt)
   subst hA
   obtain ⟨x,hx⟩:∃ x,x=L[k]:=⟨_,rfl⟩
   have HX:=hid (show Sl wo x.A x.n x.c x.l from HSw.out.co x (by rw [hx];exact List.getElem_mem hlt))
   have HZ:Hid (bodiesTo L (k+1)=bodyE x.b x.l):=by show _=_;rw [bodiesTo_succ hlt,if_neg (by simp [hz]),hx]
   have HZ0:=hid hz
   obtain ⟨d0,d1,d2,d3,d4,d5,d6,d7,d8,d9,d10,d11,d12⟩:=cells_bd hC hlt hx
   have hbo:=hC.lt
   have hlt':(k:Int)<(L.length:Int):=by omega
   have hkw:IntKind.i64.wrap ((k:Int)+1)=(k:Int)+1:=IntWalk.i64_in _ (by omega)
   clear hC hx hz HSw
   go_wp2_with fail
   have HX2:=hid (HX.out.alloc (.cells #[.int .i64 x.b.px,.int .i64 x.b.py,.int .i64 x.b.vx,.int .i64 x.b.vy,.int .i64 x.b.ang,.int .i64 x.b.spin,.int .i64 x.b.mass,.int .i64 x.b.iner,.int .i64 x.b.bounce,.int .i64 x.b.rub,.slice x.A x.n x.c,.bool x.b.asleep,.int .i64 x.b.calm] 27))
   refine (bcheck_calls x.b x.A x.n x.c x.l _ HX2.out).mono ?_
   rintro e w1 ⟨rfl,hb1⟩
   have hB1:Below w.heap.size w w1:=keepBelow hb1 (hB.alloc hB.size _)
   clear hb1 HX HX2 hB
   by_cases hE:bodyE x.b x.l=0
   ·rw [hE]
    go_wp2
    go_roundw
    case rel=>exact ⟨k+1,by omega,by go_num,by rw [HZ.out,hE],hB1⟩
    case measure=>simp [intOf];omega
   ·have hne : (bodyE x.b x.l != 0) = true := by simp [hE]
    have HR:Hid (bodyE x.b x.l=bodiesE L):=by show _=_;rw [HE.out,bodiesTo_stop L (by omega) hlt (by rw [HZ.out];exact hE),HZ.out]
    clear HZ
    go_wp2
    go_returns
    exact ret_int HR.out hB1
  ·have hkn : k = L.length := by omega
   subst hkn
   clear HSw
   have HR:Hid (bodiesE L=0):=by show _=_;rw [HE.out];exact hz
   clear hz
   go_wp2
   go_returns
   exact ret_int HR.out.symm hB
end
end Go.Proofs.YtodpincpofoiiaaGreat
namespace Go.Proofs.YtodpincpofoiiaaGreat
section
set_option linter.unusedVariables false
set_option linter.unusedSimpArgs false
open Go.RowKit
def mnI (x y:Int):Int:=if y<x then y else x
def minTo (r : List Int) : Nat → Int
 | 0=>r.getD 0 0
 | k+1=>mnI (minTo r k) (r.getD (k+1) 0)
def minL (r:List Int):Int:=minTo r (r.length-1)
def mxI (x y:Int):Int:=if y > x then y else x
def maxTo (r : List Int) : Nat → Int
 | 0=>r.getD 0 0
 | k+1=>mxI (maxTo r k) (r.getD (k+1) 0)
def maxL (r:List Int):Int:=maxTo r (r.length-1)

def OwnI (w:World) (B:Nat) (v:Value) (r:List Int):Prop:=w.ownsRow B 3 1 v r.length (r.map fun x=>.int .i64 x)
theorem OwnI.nil (w:World) (B:Nat):OwnI w B (.slice none 0 0) []:=World.ownsRow_nil _ _ _ _
theorem OwnI.kept {w w':World} {B:Nat} {v:Value} {r:List Int} {row:Option Nat} (h:OwnI w B v r) (hg:w.grownBy w' row) (hr:v.ownBlock=none∨v.ownBlock≠row):OwnI w' B v r:=World.ownsRow.kept h hg hr
theorem OwnI.below {w w':World} {B:Nat} {v:Value} {r:List Int} (h:OwnI w B v r) (hb:Below w.heap.size w w'):OwnI w' B v r :=
 h.kept (grown_of_below (row:=none) hb) (by cases hv:v.ownBlock with | none=>exact .inl rfl | some k=>exact .inr (by simp))
theorem OwnI.alloc {w:World} {B:Nat} {v:Value} {r:List Int} (h:OwnI w B v r) (o:Obj):OwnI (w.alloc o) B v r:=World.ownsRow.alloc h o
theorem OwnI.drew {w:World} {B:Nat} {v:Value} {r:List Int} (h:OwnI w B v r):OwnI w.drew B v r:=h
theorem OwnI.grown {w w':World} {B:Nat} {v:Value} {r:List Int} (h:OwnI w B v r) (hg:w.grownBy w' v.ownBlock) (hB:B≤w.heap.size):Below B w w' :=
 (Below.refl B w).grown hg hB (fun k hk=>(World.ownsRow.lt h k hk).1)
theorem OwnI.sl {w:World} {B:Nat} {v:Value} {r:List Int} (h:OwnI w B v r):∃ A n c,v = .slice A n c∧SlI w A n c r:=by
 have hc:=fun g hg=>World.ownsRow.cells h (g:=g) hg
 obtain ⟨h1,h2 | ⟨g,cap,cur,rfl,hb,hg,hn,hm,hs,ht⟩⟩:=h
 ·obtain ⟨rfl, h0⟩ := h2
  refine ⟨none,0,0,rfl,⟨h0.symm,by omega,by omega,fun hl=>?_⟩⟩
  exact absurd (List.length_eq_zero_iff.1 h0) hl
 ·refine ⟨_, _, _, rfl, ⟨rfl, hn, by unfold maxLen at hm; omega, fun _ => ⟨g, 0, rfl, (Array.getElem?_eq_some_iff.1 hg).1, fun j hj => ?_⟩⟩⟩
  have:=hc g rfl j (.int .i64 (r.getD j 0)) (by simp [hj])
  have hadd:(⟨g,0,none⟩:Addr).add j=⟨g,0+j,none⟩:=by unfold Addr.add;split <;> simp_all
  rwa [hadd] at this


structure Hold1 (w : World) (g : Nat) (z : Int) : Prop where
 c:w.cell? ⟨g,0,none⟩=some (.int .i64 z)
 lt:g<w.heap.size
theorem Hold1.here (w:World) (z:Int) (t:TypeId):Hold1 (w.alloc (.cells #[.int .i64 z] t)) w.heap.size z:=⟨by go_simp,by simp⟩
theorem Hold1.drew {w:World} {g:Nat} {z:Int} (h:Hold1 w g z):Hold1 w.drew g z:=⟨h.c,h.lt⟩

structure B4 (w : World) (g : Nat) : Prop where
 c:∃ x y z u:Value,w.cell? ⟨g,0,none⟩=some x∧w.cell? ⟨g,1,none⟩=some y∧w.cell? ⟨g,2,none⟩=some z∧w.cell? ⟨g,3,none⟩=some u
 free:∀ j,w.frozen? ⟨g,j,none⟩=false
theorem B4.lt {w:World} {g:Nat} (h:B4 w g):g<w.heap.size:=by obtain ⟨⟨_,_,_,_,h0,_⟩,_⟩:=h;exact lt_of_cell h0
theorem keepB4B {w w':World} {B g:Nat} (hb:Below B w w') (hg:g<B) (h:B4 w g):B4 w' g:=by
 obtain ⟨⟨x,y,z,u,h0,h1,h2,h3⟩,hf⟩:=h
 exact ⟨⟨x,y,z,u,((bcell hb).1 _ _ hg).trans h0,((bcell hb).1 _ _ hg).trans h1,((bcell hb).1 _ _ hg).trans h2,((bcell hb).1 _ _ hg).trans h3⟩,fun j=>((bcell hb).2 _ _ hg).trans (hf j)⟩
theorem keepB4 {w w':World} {g:Nat} (hb:Below w.heap.size w w') (h:B4 w g):B4 w' g:=keepB4B hb h.lt h
theorem B4.alloc {w:World} {g:Nat} (h:B4 w g) (o:Obj):B4 (w.alloc o) g:=keepB4 Ba h
theorem B4.drew {w:World} {g:Nat} (h:B4 w g):B4 w.drew g:=⟨h.c,h.free⟩
theorem B4.here (w:World) (a b c d:Int) (t:TypeId):B4 (w.alloc (.cells #[.int .i64 a,.int .i64 b,.int .i64 c,.int .i64 d] t)) w.heap.size :=
 ⟨⟨.int .i64 a,.int .i64 b,.int .i64 c,.int .i64 d,by go_simp,by go_simp,by go_simp,by go_simp⟩,fun j=>by go_simp⟩
def xsL (l:List V):List Int:=l.map fun p=>p.1
def ysL (l:List V):List Int:=l.map fun p=>p.2
theorem xsL_len (l:List V):(xsL l).length=l.length:=by simp [xsL]
theorem ysL_len (l:List V):(ysL l).length=l.length:=by simp [ysL]
abbrev boxV (x y u v:Int):Value:=.agg #[.int .i64 x,.int .i64 y,.int .i64 u,.int .i64 v]
end
end Go.Proofs.YtodpincpofoiiaaGreat
namespace Go.Proofs.YtodpincpofoiiaaGreat
section
set_option linter.unusedVariables false
set_option linter.unusedSimpArgs false
open Go.RowKit
theorem info_body:(Tryz.prog.info? 27).map (fun i=>(i.zero,i.size,i.bytes))=some (some (.agg #[.int .i64 0,.int .i64 0,.int .i64 0,.int .i64 0,.int .i64 0,.int .i64 0,.int .i64 0,.int .i64 0,.int .i64 0,.int .i64 0,.slice none 0 0,.bool false,.int .i64 0]),13,120):=by kernel_rfl
theorem tyBody:TyE layB 29 27 120:=⟨Tryz.underlying29,by obtain ⟨i0,hi,hz0,hz1,hz2⟩:=info_parts info_body;exact ⟨i0,_,hi,hz0,hz1,hz2,rfl⟩⟩
theorem cells_bd_one {w:World} {g:Nat} {x:BE} (hb:BdAt w g x.b x.A x.n x.c):CellsE layB w g 0 [x]:=by
 refine ⟨hb.lt,fun j hj i v hv=>?_⟩
 have hj0:j=0:=by simpa using hj
 subst hj0
 rw [Nat.zero_mul,Nat.zero_add]
 try rw [Nat.zero_add]
 have hv:(encB x)[i]? = some v:=hv
 unfold encB at hv
 match i,hv with
 | 0,hv=>have e:some _=some v:=hv;cases e;exact hb.c0
 | 1,hv=>have e:some _=some v:=hv;cases e;exact hb.c1
 | 2,hv=>have e:some _=some v:=hv;cases e;exact hb.c2
 | 3,hv=>have e:some _=some v:=hv;cases e;exact hb.c3
 | 4,hv=>have e:some _=some v:=hv;cases e;exact hb.c4
 | 5,hv=>have e:some _=some v:=hv;cases e;exact hb.c5
 | 6,hv=>have e:some _=some v:=hv;cases e;exact hb.c6
 | 7,hv=>have e:some _=some v:=hv;cases e;exact hb.c7
 | 8,hv=>have e:some _=some v:=hv;cases e;exact hb.c8
 | 9,hv=>have e:some _=some v:=hv;cases e;exact hb.c9
 | 10,hv=>have e:some _=some v:=hv;cases e;exact hb.c10
 | 11,hv=>have e:some _=some v:=hv;cases e;exact hb.c11
 | 12,hv=>have e:some _=some v:=hv;cases e;exact hb.c12
 | i+13,hv=>simp at hv

structure Jt where
 a:Int
 b:Int
 p1:Int
 p2:Int
 q1:Int
 q2:Int
 len:Int
def encJ (x:Jt):List Value:=[.int .i64 x.a,.int .i64 x.b,.int .i64 x.p1,.int .i64 x.p2,.int .i64 x.q1,.int .i64 x.q2,.int .i64 x.len]
def layJ:Lay Jt:=⟨encJ,7,fun _=>rfl,fun x v hv=>by simp only [encJ,List.mem_cons,List.mem_nil_iff,or_false] at hv;rcases hv with rfl | rfl | rfl | rfl | rfl | rfl | rfl <;> rfl,by omega⟩
theorem info_joint:(Tryz.prog.info? 37).map (fun i=>(i.zero,i.size,i.bytes))=some (some (.agg #[.int .i64 0,.int .i64 0,.int .i64 0,.int .i64 0,.int .i64 0,.int .i64 0,.int .i64 0]),7,56):=by kernel_rfl
theorem tyJoint:TyE layJ 30 37 56:=⟨Tryz.underlying30,by obtain ⟨i0,hi,hz0,hz1,hz2⟩:=info_parts info_joint;exact ⟨i0,_,hi,hz0,hz1,hz2,rfl⟩⟩
theorem cells_jt {w:World} {b off k:Nat} {l:List Jt} {x:Jt} (h:CellsE layJ w b off l) (hk:k<l.length) (hx:x=l[k]) :
  w.cell? ⟨b,off+k*7,none⟩=some (.int .i64 x.a)∧w.cell? ⟨b,off+k*7+1,none⟩=some (.int .i64 x.b)∧w.cell? ⟨b,off+k*7+2,none⟩=some (.int .i64 x.p1)∧w.cell? ⟨b,off+k*7+3,none⟩=some (.int .i64 x.p2)∧w.cell? ⟨b,off+k*7+4,none⟩=some (.int .i64 x.q1)∧w.cell? ⟨b,off+k*7+5,none⟩=some (.int .i64 x.q2)∧w.cell? ⟨b,off+k*7+6,none⟩=some (.int .i64 x.len):=by
 subst hx
 exact ⟨h.at_ k hk 0 _ rfl,h.at_ k hk 1 _ rfl,h.at_ k hk 2 _ rfl,h.at_ k hk 3 _ rfl,h.at_ k hk 4 _ rfl,h.at_ k hk 5 _ rfl,h.at_ k hk 6 _ rfl⟩
theorem cells_jt_one {w:World} {g:Nat} {x:Jt} (h0:w.cell? ⟨g,0,none⟩=some (.int .i64 x.a)) (h1:w.cell? ⟨g,1,none⟩=some (.int .i64 x.b)) (h2:w.cell? ⟨g,2,none⟩=some (.int .i64 x.p1)) (h3:w.cell? ⟨g,3,none⟩=some (.int .i64 x.p2)) (h4:w.cell? ⟨g,4,none⟩=some (.int .i64 x.q1)) (h5:w.cell? ⟨g,5,none⟩=some (.int .i64 x.q2)) (h6:w.cell? ⟨g,6,none⟩=some (.int .i64 x.len)):CellsE layJ w g 0 [x]:=by
 refine ⟨lt_of_cell h0,fun j hj i v hv=>?_⟩
 have hj0:j=0:=by simpa using hj
 subst hj0
 rw [Nat.zero_mul,Nat.zero_add]
 try rw [Nat.zero_add]
 have hv:(encJ x)[i]? = some v:=hv
 unfold encJ at hv
 match i,hv with
 | 0,hv=>have e:some _=some v:=hv;cases e;exact h0
 | 1,hv=>have e:some _=some v:=hv;cases e;exact h1
 | 2,hv=>have e:some _=some v:=hv;cases e;exact h2
 | 3,hv=>have e:some _=some v:=hv;cases e;exact h3
 | 4,hv=>have e:some _=some v:=hv;cases e;exact h4
 | 5,hv=>have e:some _=some v:=hv;cases e;exact h5
 | 6,hv=>have e:some _=some v:=hv;cases e;exact h6
 | i+7,hv=>simp at hv
end
end Go.Proofs.YtodpincpofoiiaaGreat
