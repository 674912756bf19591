/- Parts of a proof: contracts and laws. -/
import Derived.Test.YtodpincpofoiiaaGreatQI12
import Derived.Test.YtodpincpofoiiaaGreatQI10
import Derived.Test.YtodpincpofoiiaaGreatQI03
import Derived.Test.YtodpincpofoiiaaGreatQI09
import Derived.Test.YtodpincpofoiiaaGreatQI02
import Derived.BigQuiet
set_option maxRecDepth 100000
set_option maxHeartbeats 16000000
namespace Go.Proofs.YtodpincpofoiiaaGreat
section
set_option linter.unusedVariables false
set_option linter.unusedSimpArgs false
open Go.RowKit

def sgK (a b:Int):Int:=if a<b then -1 else if b<a then 1 else 0
theorem sgK_zero {a b:Int}:sgK a b=0↔a=b:=by
 unfold sgK
 split
 ·constructor <;> intro h <;> omega
 ·split
  ·constructor <;> intro h <;> omega
  ·constructor <;> intro h <;> omega

def ordC (x y:Ct):Int:=if sgK x.a y.a≠0 then sgK x.a y.a else if sgK x.b y.b≠0 then sgK x.b y.b else sgK x.id y.id
def sameK (x o:Ct):Bool:=decide (o.a=x.a∧o.b=x.b∧o.id=x.id)
theorem ordC_zero {x y:Ct}:ordC x y=0↔sameK y x=true:=by
 unfold ordC sameK
 rw [decide_eq_true_iff]
 by_cases h1:sgK x.a y.a=0
 ·rw [if_neg (by simp [h1])]
  by_cases h2:sgK x.b y.b=0
  ·rw [if_neg (by simp [h2]), sgK_zero]
   exact ⟨fun h=>⟨sgK_zero.1 h1,sgK_zero.1 h2,h⟩,fun h=>h.2.2⟩
  ·rw [if_pos h2]
   exact ⟨fun h=>absurd h h2,fun h=>absurd (sgK_zero.2 h.2.1) h2⟩
 ·rw [if_pos h1]
  exact ⟨fun h=>absurd h h1,fun h=>absurd (sgK_zero.2 h.1) h1⟩

def carC (old:List Ct) (x:Ct):Ct:=match old.find? (sameK x) with
 | some o=>{ x with push:=o.push,sli:=o.sli }
 | none=>{ x with push:=0,sli:=0 }
def carL (old fresh:List Ct):List Ct:=fresh.map (carC old)


theorem carC_at {old:List Ct} {x:Ct} {k:Nat} (hk:k<old.length) (h:sameK x old[k]=true) (hb:∀ i (hi:i<old.length),i<k→sameK x old[i]=false):carC old x={ x with push:=old[k].push,sli:=old[k].sli }:=by
 have hf:old.find? (sameK x)=some old[k]:=by
  rw [List.find?_eq_some_iff_getElem]
  exact ⟨h,k,hk,rfl,fun i hi=>by rw [hb i (by omega) hi];rfl⟩
 unfold carC
 rw [hf]
theorem carC_none {old:List Ct} {x:Ct} (hb:∀ i (hi:i<old.length),sameK x old[i]=false):carC old x={ x with push:=0,sli:=0 }:=by
 have hf:old.find? (sameK x)=none:=by
  rw [List.find?_eq_none]
  intro o ho
  obtain ⟨i,hi,rfl⟩:=List.mem_iff_getElem.1 ho
  rw [hb i hi]
  simp
 unfold carC
 rw [hf]
end
end Go.Proofs.YtodpincpofoiiaaGreat
namespace Go.Proofs.YtodpincpofoiiaaGreat
section
set_option linter.unusedVariables false
set_option linter.unusedSimpArgs false
open Go.RowKit
section
variable {α:Type} {L:Lay α} {e:TypeId}

theorem run_append_S {t : TypeId} {bytes : Nat} (hT : TyE L t e bytes) (ty : TypeId) (w : World) (B : Nat) (v : Value) (l : List α) (hown : OwnE L e w B v l) (A : Option Addr) (n c : Nat) (m : List α) (hS : SlE L w A n c m)
  (hl:l.length+m.length≤8796093022208) (hby:(l.length+m.length)*bytes≤140737488355328) (hB:B≤w.heap.size) :
  ∃ v' w',(Builtin.append_ #[t,t] ty #[v,.slice A n c]).run Tryz.prog w = .ok v' w'∧OwnE L e w' B v' (l ++ m)∧w.grownBy w' v.ownBlock∧(v'.ownBlock=v.ownBlock∨v'.ownBlock=some w.heap.size):=by
 by_cases h0:m=[]
 ·subst h0
  have hn:=hS.len
  simp at hn
  subst hn
  obtain ⟨i0,z,hi,hz0,hz1,hz2,hz3⟩:=hT.hi
  cases A with
  | none =>
   refine ⟨v,w,?_,by simpa using hown,⟨rfl,rfl,rfl,Nat.le_refl _,fun _ _ _=>rfl⟩,.inl rfl⟩
   rcases hown.2 with ⟨rfl,hx⟩ | ⟨g,cap,cur,rfl,_,_,hnc,_⟩
   ·simp [Builtin.append_,run_underlying hT.ht,sizeOf,typeInfo,hi,Builtin.lenOf,Builtin.firstCells]
   ·simp [Builtin.append_,run_underlying hT.ht,sizeOf,typeInfo,hi,Builtin.lenOf,Builtin.firstCells,hnc,storeCells]
  | some ad =>
   obtain ⟨v',w',hr,h2,h3,h4,h5⟩:=run_append_own_at (P:=Tryz.prog) w B t ty e i0 z L.k bytes hT.ht hi hz0 hz1 hz2 hz3 L.pos v l.length (flatE L l) hown ad 0 c [] (by simp) (fun j u hj=>by simp at hj) (by simp) (by unfold maxLen;simp at hl;omega) (by simpa using hby) hB
   refine ⟨v',w',hr,?_,h3,h5⟩
   unfold OwnE
   simpa using h2
 ·obtain ⟨b, off, rfl, hC⟩ := hS.at_ h0
  exact run_append_E hT ty w B v l hown b off n c m hS.len hC hl hby hB
theorem wpList_append_S {t : TypeId} {bytes : Nat} (hT : TyE L t e bytes) {w : World} {ops : Array Oper} {rest : List Oper} {o : Oper} {a : Act} {Q : Exit → Act → World → Prop} (hgd : o.guard = none) (s x : Operand)
  (ho:o.op = .call { callee:=.builtin .append,args:=#[s,x],argTypes:=#[t,t] })
  (B:Nat) (v:Value) (l:List α) (hs:a.eval s=v) (hown:OwnE L e w B v l) (A:Option Addr) (n c:Nat) (m:List α) (hx:a.eval x = .slice A n c) (hS:SlE L w A n c m)
  (hl:l.length+m.length≤8796093022208) (hby:(l.length+m.length)*bytes≤140737488355328) (hB:B≤w.heap.size)
  (h:∀ v' w',OwnE L e w' B v' (l ++ m)→w.grownBy w' v.ownBlock→(v'.ownBlock=v.ownBlock∨v'.ownBlock=some w.heap.size)→wpList Tryz.prog ops Q rest (a.put o.dst v') w'):wpList Tryz.prog ops Q (o :: rest) a w:=by
 obtain ⟨v',w',hr,h2,h3,h5⟩:=run_append_S hT o.type w B v l hown A n c m hS hl hby hB
 refine wpList_plain hgd fun K hK=>?_
 unfold Oper.wp execOp
 simp only [ho,resolve,invoke,builtin,Sem.run_bind,Sem.run_pure,Result.andThen_ok,List.map_toArray,List.map_cons,List.map_nil,hs,hx,hr]
 exact hK _ _ (h v' w' h2 h3 h5)
end
end
end Go.Proofs.YtodpincpofoiiaaGreat
namespace Go.Proofs.YtodpincpofoiiaaGreat
section
set_option linter.unusedVariables false
set_option linter.unusedSimpArgs false
open Go.RowKit
theorem cell_set_ne {w:World} {g o o':Nat} {v u:Value} (h:w.cell? ⟨g,o',none⟩=some u) (hne:o≠o'):(w.setCell ⟨g,o,none⟩ v).cell? ⟨g,o',none⟩=some u:=by
 have n1:¬ o=o':=hne
 have n2:¬ o'=o:=fun e=>hne e.symm
 go_simp
theorem cell_set_eq {w:World} {g o:Nat} {v u:Value} (h:w.cell? ⟨g,o,none⟩=some u):(w.setCell ⟨g,o,none⟩ v).cell? ⟨g,o,none⟩=some v:=by go_simp

def setBo (w:World) (g o:Nat) (b:Bd) (A:Option Addr) (n c:Nat):World:=(((((((((((((w.setCell ⟨g,o,none⟩ (.int .i64 b.px)).setCell ⟨g,o+1,none⟩ (.int .i64 b.py)).setCell ⟨g,o+2,none⟩ (.int .i64 b.vx)).setCell ⟨g,o+3,none⟩ (.int .i64 b.vy)).setCell ⟨g,o+4,none⟩ (.int .i64 b.ang)).setCell ⟨g,o+5,none⟩ (.int .i64 b.spin)).setCell ⟨g,o+6,none⟩ (.int .i64 b.mass)).setCell ⟨g,o+7,none⟩ (.int .i64 b.iner)).setCell ⟨g,o+8,none⟩ (.int .i64 b.bounce)).setCell ⟨g,o+9,none⟩ (.int .i64 b.rub)).setCell ⟨g,o+10,none⟩ (.slice A n c)).setCell ⟨g,o+11,none⟩ (.bool b.asleep)).setCell ⟨g,o+12,none⟩ (.int .i64 b.calm))
theorem setBo_ne {w:World} {g o o':Nat} {u:Value} {b:Bd} {A:Option Addr} {n c:Nat} (h:w.cell? ⟨g,o',none⟩=some u) (hne:o'<o∨o+13≤o'):(setBo w g o b A n c).cell? ⟨g,o',none⟩=some u:=by
 unfold setBo
 iterate 13 refine cell_set_ne ?_ (by omega)
 exact h
theorem setBo_at {w:World} {g o:Nat} (x:BE) (hz:∀ i,i<13→∃ u,w.cell? ⟨g,o+i,none⟩=some u):∀ (i:Nat) (v:Value),(encB x)[i]? = some v→(setBo w g o x.b x.A x.n x.c).cell? ⟨g,o+i,none⟩=some v:=fun i v hv0=>by
 have hv:(encB x)[i]? = some v:=hv0
 unfold encB at hv
 revert hv
 exact match i with
 | 0=>fun hv=>by
  have e:some _=some v:=hv
  cases e
  obtain ⟨u,hu⟩:=hz 0 (by omega)
  unfold setBo
  simp only [Nat.add_zero] at hu ⊢
  iterate 12 refine cell_set_ne ?_ (by omega)
  refine cell_set_eq (u:=u) ?_
  exact hu
 | 1=>fun hv=>by
  have e:some _=some v:=hv
  cases e
  obtain ⟨u,hu⟩:=hz 1 (by omega)
  unfold setBo
  iterate 11 refine cell_set_ne ?_ (by omega)
  refine cell_set_eq (u:=u) ?_
  iterate 1 refine cell_set_ne ?_ (by omega)
  exact hu
 | 2=>fun hv=>by
  have e:some _=some v:=hv
  cases e
  obtain ⟨u,hu⟩:=hz 2 (by omega)
  unfold setBo
  iterate 10 refine cell_set_ne ?_ (by omega)
  refine cell_set_eq (u:=u) ?_
  iterate 2 refine cell_set_ne ?_ (by omega)
  exact hu
 | 3=>fun hv=>by
  have e:some _=some v:=hv
  cases e
  obtain ⟨u,hu⟩:=hz 3 (by omega)
  unfold setBo
  iterate 9 refine cell_set_ne ?_ (by omega)
  refine cell_set_eq (u:=u) ?_
  iterate 3 refine cell_set_ne ?_ (by omega)
  exact hu
 | 4=>fun hv=>by
  have e:some _=some v:=hv
  cases e
  obtain ⟨u,hu⟩:=hz 4 (by omega)
  unfold setBo
  iterate 8 refine cell_set_ne ?_ (by omega)
  refine cell_set_eq (u:=u) ?_
  iterate 4 refine cell_set_ne ?_ (by omega)
  exact hu
 | 5=>fun hv=>by
  have e:some _=some v:=hv
  cases e
  obtain ⟨u,hu⟩:=hz 5 (by omega)
  unfold setBo
  iterate 7 refine cell_set_ne ?_ (by omega)
  refine cell_set_eq (u:=u) ?_
  iterate 5 refine cell_set_ne ?_ (by omega)
  exact hu
 | 6=>fun hv=>by
  have e:some _=some v:=hv
  cases e
  obtain ⟨u,hu⟩:=hz 6 (by omega)
  unfold setBo
  iterate 6 refine cell_set_ne ?_ (by omega)
  refine cell_set_eq (u:=u) ?_
  iterate 6 refine cell_set_ne ?_ (by omega)
  exact hu
 | 7=>fun hv=>by
  have e:some _=some v:=hv
  cases e
  obtain ⟨u,hu⟩:=hz 7 (by omega)
  unfold setBo
  iterate 5 refine cell_set_ne ?_ (by omega)
  refine cell_set_eq (u:=u) ?_
  iterate 7 refine cell_set_ne ?_ (by omega)
  exact hu
 | 8=>fun hv=>by
  have e:some _=some v:=hv
  cases e
  obtain ⟨u,hu⟩:=hz 8 (by omega)
  unfold setBo
  iterate 4 refine cell_set_ne ?_ (by omega)
  refine cell_set_eq (u:=u) ?_
  iterate 8 refine cell_set_ne ?_ (by omega)
  exact hu
 | 9=>fun hv=>by
  have e:some _=some v:=hv
  cases e
  obtain ⟨u,hu⟩:=hz 9 (by omega)
  unfold setBo
  iterate 3 refine cell_set_ne ?_ (by omega)
  refine cell_set_eq (u:=u) ?_
  iterate 9 refine cell_set_ne ?_ (by omega)
  exact hu
 | 10=>fun hv=>by
  have e:some _=some v:=hv
  cases e
  obtain ⟨u,hu⟩:=hz 10 (by omega)
  unfold setBo
  iterate 2 refine cell_set_ne ?_ (by omega)
  refine cell_set_eq (u:=u) ?_
  iterate 10 refine cell_set_ne ?_ (by omega)
  exact hu
 | 11=>fun hv=>by
  have e:some _=some v:=hv
  cases e
  obtain ⟨u,hu⟩:=hz 11 (by omega)
  unfold setBo
  iterate 1 refine cell_set_ne ?_ (by omega)
  refine cell_set_eq (u:=u) ?_
  iterate 11 refine cell_set_ne ?_ (by omega)
  exact hu
 | 12=>fun hv=>by
  have e:some _=some v:=hv
  cases e
  obtain ⟨u,hu⟩:=hz 12 (by omega)
  unfold setBo
  refine cell_set_eq (u:=u) ?_
  iterate 12 refine cell_set_ne ?_ (by omega)
  exact hu
 | i+13=>fun hv=>by simp at hv
theorem setBo_grown (w:World) (g o:Nat) (b:Bd) (A:Option Addr) (n c:Nat):w.grownBy (setBo w g o b A n c) (some g):=by
 unfold setBo
 iterate 12 refine grown_trans ?_ (grown_setCell _ g _ _)
 exact grown_setCell _ g _ _
theorem setBo_free {w:World} {g o g' j:Nat} {b:Bd} {A:Option Addr} {n c:Nat}:(setBo w g o b A n c).frozen? ⟨g',j,none⟩=w.frozen? ⟨g',j,none⟩:=by
 unfold setBo
 iterate 13 rw [World.frozen?_setCell]

structure BL (w : World) (g : Nat) (L : List BE) : Prop where
 cl:CellsE layB w g 0 L
 free:∀ j,w.frozen? ⟨g,j,none⟩=false
 co:∀ x ∈ L,Sl w x.A x.n x.c x.l
 ne:∀ x ∈ L,∀ bx off,x.A=some ⟨bx,off,none⟩→bx≠g
theorem keepBL {w w':World} {g:Nat} {L:List BE} (hb:Below w.heap.size w w') (h:BL w g L):BL w' g L :=
 ⟨h.cl.below hb,fun j=>((bcell hb).2 _ _ h.cl.lt).trans (h.free j),fun x hx=>(h.co x hx).below hb,h.ne⟩
theorem BL.drew {w:World} {g:Nat} {L:List BE} (h:BL w g L):BL w.drew g L:=keepBL (Below.refl _ _).drew h
theorem BL.alloc {w:World} {g:Nat} {L:List BE} (h:BL w g L) (o:Obj):BL (w.alloc o) g L:=keepBL Ba h

theorem BL.set {w:World} {g:Nat} {L:List BE} (h:BL w g L) {k:Nat} (hk:k<L.length) (x:BE) (hs:Sl w x.A x.n x.c x.l) (hn:∀ bx off,x.A=some ⟨bx,off,none⟩→bx≠g):BL (setBo w g (k*13) x.b x.A x.n x.c) g (L.set k x):=by
 have hgr:=setBo_grown w g (k*13) x.b x.A x.n x.c
 refine ⟨⟨Nat.lt_of_lt_of_le h.cl.lt hgr.size,fun j hj i v hv=>?_⟩,fun j=>by rw [setBo_free];exact h.free j,fun y hy=>?_,fun y hy=>?_⟩
 ·have hj' : j < L.length := by simpa using hj
  by_cases e:j=k
  ·subst e
   have hv:(encB x)[i]? = some v:=by have hv2:(encB (L.set j x)[j])[i]? = some v:=hv;rwa [List.getElem_set_self] at hv2
   have:=setBo_at (w:=w) (g:=g) (o:=j*13) x (fun i hi=>by
    have hlen:(encB L[j]).length=13:=rfl
    exact ⟨_,by have:=h.cl.at_ j hj' i ((encB L[j])[i]'(by omega)) (List.getElem?_eq_getElem _);rw [Nat.zero_add] at this;exact this⟩) i v hv
   show (setBo w g (j*13) x.b x.A x.n x.c).cell? ⟨g,0+j*13+i,none⟩=some v
   rw [Nat.zero_add]
   exact this
  ·have hv : (encB L[j])[i]? = some v := by have hv2 : (encB (L.set k x)[j])[i]? = some v := hv; rwa [List.getElem_set_ne (by omega)] at hv2
   have hi:i<13:=by
    have hlen:(encB L[j]).length=13:=rfl
    rcases Nat.lt_or_ge i 13 with q | q
    ·exact q
    ·rw [List.getElem?_eq_none (by omega)] at hv;cases hv
   have:=h.cl.at_ j hj' i v hv
   have this:w.cell? ⟨g,0+j*13+i,none⟩=some v:=this
   show (setBo w g (k*13) x.b x.A x.n x.c).cell? ⟨g,0+j*13+i,none⟩=some v
   exact setBo_ne this (by omega)
 ·rcases List.mem_or_eq_of_mem_set hy with q | rfl
  ·exact (h.co y q).grown hgr (h.ne y q)
  ·exact hs.grown hgr hn
 ·rcases List.mem_or_eq_of_mem_set hy with q | rfl
  ·exact h.ne y q
  ·exact hn
end
end Go.Proofs.YtodpincpofoiiaaGreat
namespace Go.Proofs.YtodpincpofoiiaaGreat
section
set_option linter.unusedVariables false
set_option linter.unusedSimpArgs false
open Go.RowKit
def turnF (b:Bd) (jx jy u v:Int):Int:=divF (divF (crossF (subF u b.px) (subF v b.py) jx jy) b.iner) 411775
end
end Go.Proofs.YtodpincpofoiiaaGreat
namespace Go.Proofs.YtodpincpofoiiaaGreat
section
set_option linter.unusedVariables false
set_option linter.unusedSimpArgs false
open Go.RowKit

def speedX (b:Bd) (p q:Int):Int:=subF b.vx (mulF (mulF b.spin 411775) (subF q b.py))
def speedY (b:Bd) (p q:Int):Int:=addF b.vy (mulF (mulF b.spin 411775) (subF p b.px))
def easeN (b:Bd) (p q nx ny:Int):Int:=addF (divF 65536 b.mass) (divF (mulF (crossF (subF p b.px) (subF q b.py) nx ny) (crossF (subF p b.px) (subF q b.py) nx ny)) b.iner)
def easeR (b:Bd) (p q nx ny:Int):Int:=if b.mass=0∨b.asleep=true then 0 else easeN b p q nx ny
def pushR (b:Bd) (jx jy u v:Int):Bd :=
 if b.mass=0∨b.asleep=true then b
 else { b with vx:=clampN (addF b.vx (divF jx b.mass)) 268435456,vy:=clampN (addF b.vy (divF jy b.mass)) 268435456,spin:=clampN (addF b.spin (turnF b jx jy u v)) 16777216 }
end
end Go.Proofs.YtodpincpofoiiaaGreat
namespace Go.Proofs.YtodpincpofoiiaaGreat
section
set_option linter.unusedVariables false
set_option linter.unusedSimpArgs false
open Go.RowKit
theorem clampN_in' {n m:Int} (h:0≤m) : -m≤clampN n m∧clampN n m≤m:=by unfold clampN;omega
theorem pushR_ok {b:Bd} {l:List V} (h:bodyE b l=0) (jx jy u v:Int):bodyE (pushR b jx jy u v) l=0:=by
 unfold pushR
 by_cases c:b.mass=0∨b.asleep=true
 ·rw [if_pos c];exact h
 ·rw [if_neg c]
  obtain ⟨h1,h2⟩:=bodyE_zero h
  unfold bodyE
  rw [if_neg (by simp [h1])]
  have c1:(b.mass == 0)=false:=by simp;intro e;exact c (.inl e)
  have c2:b.asleep=false:=by cases q:b.asleep with | false=>rfl | true=>exact absurd (.inr q) c
  unfold numE at h2 ⊢
  by_cases k1:(withinB 58982400 b.px b.py && withinB 268435456 b.vx b.vy && inB b.spin (-16777216) 16777216 && inB b.ang 0 65535)=true
  ·rw [if_pos k1] at h2
   simp only [Bool.and_eq_true] at k1
   dsimp only
   rw [if_pos (by
    have w1:=withinB_iff.2 (show -268435456≤clampN (addF b.vx (divF jx b.mass)) 268435456∧clampN (addF b.vx (divF jx b.mass)) 268435456≤268435456 ∧ -268435456≤clampN (addF b.vy (divF jy b.mass)) 268435456∧clampN (addF b.vy (divF jy b.mass)) 268435456≤268435456 by
     have:=clampN_in' (n:=addF b.vx (divF jx b.mass)) (m:=268435456) (by omega)
     have:=clampN_in' (n:=addF b.vy (divF jy b.mass)) (m:=268435456) (by omega)
     omega)
    have i1:∀ n,inB (clampN n 16777216) (-16777216) 16777216=true:=fun n=>inB_iff.2 (clampN_in' (by omega))
    simp only [w1,i1,k1.1.1.1,k1.2,Bool.and_self])]
   by_cases k2:(inB b.mass 0 1099511627776 && inB b.iner 0 1099511627776 && inB b.bounce 0 65536 && inB b.rub 0 65536 && inB b.calm 0 1000)=true
   ·rw [if_pos k2] at h2 ⊢
    simp only [c1,c2,Bool.false_and,Bool.or_false] at h2 ⊢
    exact h2
   ·rw [if_neg k2] at h2;cases h2
  ·rw [if_neg k1] at h2;cases h2

def valB (x:BE):Bd × List V:=(x.b,x.l)
end
end Go.Proofs.YtodpincpofoiiaaGreat
