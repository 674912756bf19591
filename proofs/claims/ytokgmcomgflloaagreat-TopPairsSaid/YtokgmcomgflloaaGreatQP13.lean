/- Parts of a proof: contracts and laws. -/
import Derived.Test.YtokgmcomgflloaaGreatQP03
import Derived.Test.YtokgmcomgflloaaGreatQP10
import Derived.Test.YtokgmcomgflloaaGreatQP12
import Derived.Test.YtokgmcomgflloaaGreatQP09
import Derived.Test.YtokgmcomgflloaaGreatQP02
import Derived.BigQuiet
import Derived.Laws.Bits64b
import Derived.Laws.MathBits
import Derived.Deep.WholeRow
set_option maxRecDepth 100000
set_option maxHeartbeats 16000000
namespace Go.Proofs.YtokgmcomgflloaaGreat
section
set_option linter.unusedVariables false
set_option linter.unusedSimpArgs false
open Go.RowKit
variable {w0 w w':World}
theorem zi {D:Nat→Prop} {B:Nat} {w a b:World} (h:Below B w a) (hB:B≤w.heap.size) (o:Out D a b) (hd:∀ k,D k→B≤k):Below B w b :=
 h.trans ⟨o.os,o.tape,o.output,o.size,fun k hk=>o.block k (by have:=h.size;omega) (fun q=>by have:=hd k q;omega)⟩
def Bh (l:List Jt):List (Nat × Nat):=l.map fun x=>(x.a.toNat,x.b.toNat)
def Gt (l:List Ct):List (Nat × Nat):=l.map fun x=>(x.a.toNat,x.b.toNat)
def N8 (L:List BE) (j:Nat):Bool:=match L[j]? with | some x=>decide (x.b.mass≠0) | none=>false
theorem Gg (n:Nat) (hn:n≤1000000) (w:World):(Instr.makeSlice 45 (.int .i64 (n:Int)) (.int .i64 (n:Int))).run Tryz.prog w = .ok (.slice (some ⟨w.heap.size,0,none⟩) n n) (w.alloc (.cells (List.replicate n (.int .i64 0)).toArray 3)):=by
 obtain ⟨i0,hi,hz0,hz1,hz2⟩:=info_parts zF;have:=run_makeSlice (P:=Tryz.prog) w 45 3 i0 (.int .i64 0) Tryz.underlying45 hi hz0 .i64 .i64 n n (by omega) (Int.le_refl _) (by rw [hz1];omega) (by rw [hz2];omega) (by omega);rw [this,hz1,Int.toNat_natCast,Nat.mul_one]
 have e:madeCells (Value.cells (.int .i64 0)) n=(List.replicate n (Value.int .i64 0)).toArray:=by
  have:=toList_madeCells_one (.int .i64 0) n;rw [show Value.cells (.int .i64 0)=#[.int .i64 0] from rfl,← this]
 rw [e]
theorem Qm (n:Nat):∀ i,i<n→gU (List.replicate n 0) i=0:=fun i hi=>by
 unfold gU;rw [List.getD_eq_getElem?_getD,List.getElem?_replicate,if_pos hi];rfl
theorem LV {up:List Nat} {n:Nat} (hl:up.length=n) (h:∀ j,j<n→gU up j=j):up=List.range n:=by
 apply List.ext_getElem (by simpa using hl);intro j h1 h2;have:=h j (by omega);unfold gU at this;rw [List.getD_eq_getElem?_getD,List.getElem?_eq_getElem h1] at this;simpa using this

structure QL (w : World) (gu gs n k : Nat) (wr : World) : Prop where
 ex:∃ up,up.length=n∧O5 wr gu gs up∧∀ j,j<k→gU up j=j
 out:Out (fun k=>k=gs) w wr
def RQ (a b:Int):Int:=if a<b then -1 else if b<a then 1 else 0

def SK (x y:Ct):Int:=if RQ x.a y.a≠0 then RQ x.a y.a else if RQ x.b y.b≠0 then RQ x.b y.b else RQ x.id y.id
def RH (x o:Ct):Bool:=decide (o.a=x.a∧o.b=x.b∧o.id=x.id)

def SY (old:List Ct) (x:Ct):Ct:=match old.find? (RH x) with
 | some o=>{ x with push:=o.push,sli:=o.sli }
 | none=>{ x with push:=0,sli:=0 }
def AV (old fresh:List Ct):List Ct:=fresh.map (SY old)


section
variable {w0 w w':World}
variable {α:Type} {L:Lay α} {e:TypeId}

theorem Bl {t : TypeId} {bytes : Nat} (hT : MX L t e bytes) (ty : TypeId) (w : World) (B : Nat) (v : Value) (l : List α) (hown : aN L e w B v l) (A : Option Addr) (n c : Nat) (m : List α) (hS : dN L w A n c m)
  (hl:l.length+m.length≤8796093022208) (hby:(l.length+m.length)*bytes≤140737488355328) (hB:B≤w.heap.size) :
  ∃ v' w',(Builtin.append_ #[t,t] ty #[v,.slice A n c]).run Tryz.prog w = .ok v' w'∧aN L e w' B v' (l ++ m)∧w.grownBy w' v.ownBlock∧(v'.ownBlock=v.ownBlock∨v'.ownBlock=some w.heap.size):=by
 by_cases h0:m=[]
 ·subst h0;have hn:=hS.len;simp at hn;subst hn;obtain ⟨i0,z,hi,hz0,hz1,hz2,hz3⟩:=hT.hi
  cases A with
  | none =>
   refine ⟨v,w,?_,by simpa using hown,⟨rfl,rfl,rfl,Nat.le_refl _,fun _ _ _=>rfl⟩,.inl rfl⟩
   rcases hown.2 with ⟨rfl,hx⟩ | ⟨g,cap,cur,rfl,_,_,hnc,_⟩
   ·simp [Builtin.append_,run_underlying hT.ht,sizeOf,typeInfo,hi,Builtin.lenOf,Builtin.firstCells]
   ·simp [Builtin.append_,run_underlying hT.ht,sizeOf,typeInfo,hi,Builtin.lenOf,Builtin.firstCells,hnc,storeCells]
  | some ad =>
   obtain ⟨v',w',hr,h2,h3,h4,h5⟩:=run_append_own_at (P:=Tryz.prog) w B t ty e i0 z L.k bytes hT.ht hi hz0 hz1 hz2 hz3 L.pos v l.length (eY L l) hown ad 0 c [] (by simp) (fun j u hj=>by simp at hj) (by simp) (by unfold maxLen;simp at hl;omega) (by simpa using hby) hB;refine ⟨v',w',hr,?_,h3,h5⟩;unfold aN;simpa using h2
 ·obtain ⟨b, off, rfl, hC⟩ := hS.at_ h0;exact mZ hT ty w B v l hown b off n c m hS.len hC hl hby hB
theorem jY {t : TypeId} {bytes : Nat} (hT : MX L t e bytes) {w : World} {ops : Array Oper} {rest : List Oper} {o : Oper} {a : Act} {Q : Exit → Act → World → Prop} (hgd : o.guard = none) (s x : Operand)
  (ho:o.op = .call { callee:=.builtin .append,args:=#[s,x],argTypes:=#[t,t] })
  (B:Nat) (v:Value) (l:List α) (hs:a.eval s=v) (hown:aN L e w B v l) (A:Option Addr) (n c:Nat) (m:List α) (hx:a.eval x = .slice A n c) (hS:dN L w A n c m)
  (hl:l.length+m.length≤8796093022208) (hby:(l.length+m.length)*bytes≤140737488355328) (hB:B≤w.heap.size)
  (h:∀ v' w',aN L e w' B v' (l ++ m)→w.grownBy w' v.ownBlock→(v'.ownBlock=v.ownBlock∨v'.ownBlock=some w.heap.size)→wpList Tryz.prog ops Q rest (a.put o.dst v') w'):wpList Tryz.prog ops Q (o :: rest) a w:=by
 obtain ⟨v',w',hr,h2,h3,h5⟩:=Bl hT o.type w B v l hown A n c m hS hl hby hB;refine wpList_plain hgd fun K hK=>?_
 unfold Oper.wp execOp;simp only [ho,resolve,invoke,builtin,Sem.run_bind,Sem.run_pure,Result.andThen_ok,List.map_toArray,List.map_cons,List.map_nil,hs,hx,hr];exact hK _ _ (h v' w' h2 h3 h5)
end
theorem aR {g o o':Nat} {v u:Value} (h:w.cell? ⟨g,o',none⟩=some u) (hne:o≠o'):(w.setCell ⟨g,o,none⟩ v).cell? ⟨g,o',none⟩=some u:=by
 have n1:¬ o=o':=hne;have n2:¬ o'=o:=fun e=>hne e.symm
 go_simp
theorem dA {g o:Nat} {v u:Value} (h:w.cell? ⟨g,o,none⟩=some u):(w.setCell ⟨g,o,none⟩ v).cell? ⟨g,o,none⟩=some v:=by go_simp

def iK (w:World) (g o:Nat) (b:Bd) (A:Option Addr) (n c:Nat):World:=(((((((((((((w.setCell ⟨g,o,none⟩ (.int .i64 b.px)).setCell ⟨g,o+1,none⟩ (.int .i64 b.py)).setCell ⟨g,o+2,none⟩ (.int .i64 b.vx)).setCell ⟨g,o+3,none⟩ (.int .i64 b.vy)).setCell ⟨g,o+4,none⟩ (.int .i64 b.ang)).setCell ⟨g,o+5,none⟩ (.int .i64 b.spin)).setCell ⟨g,o+6,none⟩ (.int .i64 b.mass)).setCell ⟨g,o+7,none⟩ (.int .i64 b.iner)).setCell ⟨g,o+8,none⟩ (.int .i64 b.bounce)).setCell ⟨g,o+9,none⟩ (.int .i64 b.rub)).setCell ⟨g,o+10,none⟩ (.slice A n c)).setCell ⟨g,o+11,none⟩ (.bool b.asleep)).setCell ⟨g,o+12,none⟩ (.int .i64 b.calm))
theorem NS {g o o':Nat} {u:Value} {b:Bd} {A:Option Addr} {n c:Nat} (h:w.cell? ⟨g,o',none⟩=some u) (hne:o'<o∨o+13≤o'):(iK w g o b A n c).cell? ⟨g,o',none⟩=some u:=by
 unfold iK
 iterate 13 refine aR ?_ (by omega)
 exact h
theorem KO {g o:Nat} (x:BE) (hz:∀ i,i<13→∃ u,w.cell? ⟨g,o+i,none⟩=some u):∀ (i:Nat) (v:Value),(kD x)[i]? = some v→(iK w g o x.b x.A x.n x.c).cell? ⟨g,o+i,none⟩=some v:=fun i v hv0=>by
 have hv:(kD x)[i]? = some v:=hv0;unfold kD at hv
 revert hv
 exact match i with
 | 0=>fun hv=>by
  have e:some _=some v:=hv
  cases e
  obtain ⟨u,hu⟩:=hz 0 (by omega);unfold iK;simp only [Nat.add_zero] at hu ⊢
  iterate 12 refine aR ?_ (by omega)
  refine dA (u:=u) ?_;exact hu
 | 1=>fun hv=>by
  have e:some _=some v:=hv
  cases e
  obtain ⟨u,hu⟩:=hz 1 (by omega);unfold iK
  iterate 11 refine aR ?_ (by omega)
  refine dA (u:=u) ?_
  iterate 1 refine aR ?_ (by omega)
  exact hu
 | 2=>fun hv=>by
  have e:some _=some v:=hv
  cases e
  obtain ⟨u,hu⟩:=hz 2 (by omega);unfold iK
  iterate 10 refine aR ?_ (by omega)
  refine dA (u:=u) ?_
  iterate 2 refine aR ?_ (by omega)
  exact hu
 | 3=>fun hv=>by
  have e:some _=some v:=hv
  cases e
  obtain ⟨u,hu⟩:=hz 3 (by omega);unfold iK
  iterate 9 refine aR ?_ (by omega)
  refine dA (u:=u) ?_
  iterate 3 refine aR ?_ (by omega)
  exact hu
 | 4=>fun hv=>by
  have e:some _=some v:=hv
  cases e
  obtain ⟨u,hu⟩:=hz 4 (by omega);unfold iK
  iterate 8 refine aR ?_ (by omega)
  refine dA (u:=u) ?_
  iterate 4 refine aR ?_ (by omega)
  exact hu
 | 5=>fun hv=>by
  have e:some _=some v:=hv
  cases e
  obtain ⟨u,hu⟩:=hz 5 (by omega);unfold iK
  iterate 7 refine aR ?_ (by omega)
  refine dA (u:=u) ?_
  iterate 5 refine aR ?_ (by omega)
  exact hu
 | 6=>fun hv=>by
  have e:some _=some v:=hv
  cases e
  obtain ⟨u,hu⟩:=hz 6 (by omega);unfold iK
  iterate 6 refine aR ?_ (by omega)
  refine dA (u:=u) ?_
  iterate 6 refine aR ?_ (by omega)
  exact hu
 | 7=>fun hv=>by
  have e:some _=some v:=hv
  cases e
  obtain ⟨u,hu⟩:=hz 7 (by omega);unfold iK
  iterate 5 refine aR ?_ (by omega)
  refine dA (u:=u) ?_
  iterate 7 refine aR ?_ (by omega)
  exact hu
 | 8=>fun hv=>by
  have e:some _=some v:=hv
  cases e
  obtain ⟨u,hu⟩:=hz 8 (by omega);unfold iK
  iterate 4 refine aR ?_ (by omega)
  refine dA (u:=u) ?_
  iterate 8 refine aR ?_ (by omega)
  exact hu
 | 9=>fun hv=>by
  have e:some _=some v:=hv
  cases e
  obtain ⟨u,hu⟩:=hz 9 (by omega);unfold iK
  iterate 3 refine aR ?_ (by omega)
  refine dA (u:=u) ?_
  iterate 9 refine aR ?_ (by omega)
  exact hu
 | 10=>fun hv=>by
  have e:some _=some v:=hv
  cases e
  obtain ⟨u,hu⟩:=hz 10 (by omega);unfold iK
  iterate 2 refine aR ?_ (by omega)
  refine dA (u:=u) ?_
  iterate 10 refine aR ?_ (by omega)
  exact hu
 | 11=>fun hv=>by
  have e:some _=some v:=hv
  cases e
  obtain ⟨u,hu⟩:=hz 11 (by omega);unfold iK
  iterate 1 refine aR ?_ (by omega)
  refine dA (u:=u) ?_
  iterate 11 refine aR ?_ (by omega)
  exact hu
 | 12=>fun hv=>by
  have e:some _=some v:=hv
  cases e
  obtain ⟨u,hu⟩:=hz 12 (by omega);unfold iK;refine dA (u:=u) ?_
  iterate 12 refine aR ?_ (by omega)
  exact hu
 | i+13=>fun hv=>by simp at hv
theorem EJ (w:World) (g o:Nat) (b:Bd) (A:Option Addr) (n c:Nat):w.grownBy (iK w g o b A n c) (some g):=by
 unfold iK
 iterate 12 refine aQ ?_ (aT _ g _ _)
 exact aT _ g _ _
theorem EP {g o g' j:Nat} {b:Bd} {A:Option Addr} {n c:Nat}:(iK w g o b A n c).frozen? ⟨g',j,none⟩=w.frozen? ⟨g',j,none⟩:=by
 unfold iK
 iterate 13 rw [World.frozen?_setCell]

structure BL (w : World) (g : Nat) (L : List BE) : Prop where
 cl:aM jc w g 0 L
 free:∀ j,w.frozen? ⟨g,j,none⟩=false
 co:∀ x ∈ L,Sl w x.A x.n x.c x.l
 ne:∀ x ∈ L,∀ bx off,x.A=some ⟨bx,off,none⟩→bx≠g
theorem iB {g:Nat} {L:List BE} (hb:Below w.heap.size w w') (h:BL w g L):BL w' g L :=
 ⟨h.cl.below hb,fun j=>((cO hb).2 _ _ h.cl.lt).trans (h.free j),fun x hx=>(h.co x hx).below hb,h.ne⟩
theorem BL.drew {g:Nat} {L:List BE} (h:BL w g L):BL w.drew g L:=iB (Below.refl _ _).drew h
theorem BL.alloc {g:Nat} {L:List BE} (h:BL w g L) (o:Obj):BL (w.alloc o) g L:=iB Ba h

theorem BL.set {g:Nat} {L:List BE} (h:BL w g L) {k:Nat} (hk:k<L.length) (x:BE) (hs:Sl w x.A x.n x.c x.l) (hn:∀ bx off,x.A=some ⟨bx,off,none⟩→bx≠g):BL (iK w g (k*13) x.b x.A x.n x.c) g (L.set k x):=by
 have hgr:=EJ w g (k*13) x.b x.A x.n x.c;refine ⟨⟨Nat.lt_of_lt_of_le h.cl.lt hgr.size,fun j hj i v hv=>?_⟩,fun j=>by rw [EP];exact h.free j,fun y hy=>?_,fun y hy=>?_⟩
 ·have hj' : j < L.length := by simpa using hj
  by_cases e:j=k
  ·subst e;have hv:(kD x)[i]? = some v:=by have hv2:(kD (L.set j x)[j])[i]? = some v:=hv;rwa [List.getElem_set_self] at hv2
   have:=KO (w:=w) (g:=g) (o:=j*13) x (fun i hi=>by
    have hlen:(kD L[j]).length=13:=rfl
    exact ⟨_,by have:=h.cl.at_ j hj' i ((kD L[j])[i]'(by omega)) (List.getElem?_eq_getElem _);rw [Nat.zero_add] at this;exact this⟩) i v hv
   show (iK w g (j*13) x.b x.A x.n x.c).cell? ⟨g,0+j*13+i,none⟩=some v;rw [Nat.zero_add];exact this
  ·have hv : (kD L[j])[i]? = some v := by have hv2 : (kD (L.set k x)[j])[i]? = some v := hv; rwa [List.getElem_set_ne (by omega)] at hv2
   have hi:i<13:=by
    have hlen:(kD L[j]).length=13:=rfl
    rcases Nat.lt_or_ge i 13 with q | q
    ·exact q
    ·rw [List.getElem?_eq_none (by omega)] at hv;cases hv
   have:=h.cl.at_ j hj' i v hv;have this:w.cell? ⟨g,0+j*13+i,none⟩=some v:=this;show (iK w g (k*13) x.b x.A x.n x.c).cell? ⟨g,0+j*13+i,none⟩=some v;exact NS this (by omega)
 ·rcases List.mem_or_eq_of_mem_set hy with q | rfl
  ·exact (h.co y q).grown hgr (h.ne y q)
  ·exact hs.grown hgr hn
 ·rcases List.mem_or_eq_of_mem_set hy with q | rfl
  ·exact h.ne y q
  ·exact hn
def RL (b:Bd) (jx jy u v:Int):Int:=oo (oo (EW (iN u b.px) (iN v b.py) jx jy) b.iner) 411775
def KF (b:Bd) (p q:Int):Int:=iN b.vx (bH (bH b.spin 411775) (iN q b.py))
def KE (b:Bd) (p q:Int):Int:=fV b.vy (bH (bH b.spin 411775) (iN p b.px))
def Rh (b:Bd) (p q nx ny:Int):Int:=fV (oo 65536 b.mass) (oo (bH (EW (iN p b.px) (iN q b.py) nx ny) (EW (iN p b.px) (iN q b.py) nx ny)) b.iner)
def PE (b:Bd) (p q nx ny:Int):Int:=if b.mass=0∨b.asleep=true then 0 else Rh b p q nx ny
def zk (b:Bd) (jx jy u v:Int):Bd :=
 if b.mass=0∨b.asleep=true then b
 else { b with vx:=dW (fV b.vx (oo jx b.mass)) 268435456,vy:=dW (fV b.vy (oo jy b.mass)) 268435456,spin:=dW (fV b.spin (RL b jx jy u v)) 16777216 }
theorem qE {n m:Int} (h:0≤m) : -m≤dW n m∧dW n m≤m:=by unfold dW;omega
theorem Kv {b:Bd} {l:List V} (h:bG b l=0) (jx jy u v:Int):bG (zk b jx jy u v) l=0:=by
 unfold zk
 by_cases c:b.mass=0∨b.asleep=true
 ·rw [if_pos c];exact h
 ·rw [if_neg c];obtain ⟨h1,h2⟩:=fA h;unfold bG;rw [if_neg (by simp [h1])];have c1:(b.mass == 0)=false:=by simp;intro e;exact c (.inl e)
  have c2:b.asleep=false:=by cases q:b.asleep with | false=>rfl | true=>exact absurd (.inr q) c
  unfold nO at h2 ⊢
  by_cases k1:(aL 58982400 b.px b.py && aL 268435456 b.vx b.vy && pF b.spin (-16777216) 16777216 && pF b.ang 0 65535)=true
  ·rw [if_pos k1] at h2;simp only [Bool.and_eq_true] at k1;dsimp only
   rw [if_pos (by
    have w1:=aA.2 (show -268435456≤dW (fV b.vx (oo jx b.mass)) 268435456∧dW (fV b.vx (oo jx b.mass)) 268435456≤268435456 ∧ -268435456≤dW (fV b.vy (oo jy b.mass)) 268435456∧dW (fV b.vy (oo jy b.mass)) 268435456≤268435456 by
     have:=qE (n:=fV b.vx (oo jx b.mass)) (m:=268435456) (by omega);have:=qE (n:=fV b.vy (oo jy b.mass)) (m:=268435456) (by omega)
     omega)
    have i1:∀ n,pF (dW n 16777216) (-16777216) 16777216=true:=fun n=>je.2 (qE (by omega))
    simp only [w1,i1,k1.1.1.1,k1.2,Bool.and_self])]
   by_cases k2:(pF b.mass 0 1099511627776 && pF b.iner 0 1099511627776 && pF b.bounce 0 65536 && pF b.rub 0 65536 && pF b.calm 0 1000)=true
   ·rw [if_pos k2] at h2 ⊢;simp only [c1,c2,Bool.false_and,Bool.or_false] at h2 ⊢;exact h2
   ·rw [if_neg k2] at h2;cases h2
  ·rw [if_neg k1] at h2;cases h2

def dw (x:BE):Bd × List V:=(x.b,x.l)
def Ll:List Int:=[0,1608,3216,4821,6424,8022,9616,11204,12785,14359,15924,17479,19024,20557,22078,23586,25080,26558,28020,29466,30893,32303,33692,35062,36410,37736,39040,40320,41576,42806,44011,45190,46341,47464,48559,49624,50660,51665,52639,53581,54491,55368,56212,57022,57798,58538,59244,59914,60547,61145,61705,62228,62714,63162,63572,63944,64277,64571,64827,65043,65220,65358,65457,65516,65536]
def iH (k:Nat):Int:=Ll.getD k 0
theorem lD (k:Nat):0≤iH k∧iH k≤65536:=by
 have h:∀ x ∈ Ll,0≤x∧x≤65536:=by decide
 unfold iH
 by_cases hk:k<Ll.length
 ·rw [List.getD_eq_getElem?_getD, List.getElem?_eq_getElem hk];exact h _ (List.getElem_mem hk)
 ·rw [List.getD_eq_getElem?_getD, List.getElem?_eq_none (by omega)];simp
def nY:Array Value:=#[.int .i64 0,.int .i64 1608,.int .i64 3216,.int .i64 4821,.int .i64 6424,.int .i64 8022,.int .i64 9616,.int .i64 11204,.int .i64 12785,.int .i64 14359,.int .i64 15924,.int .i64 17479,.int .i64 19024,.int .i64 20557,.int .i64 22078,.int .i64 23586,.int .i64 25080,.int .i64 26558,.int .i64 28020,.int .i64 29466,.int .i64 30893,.int .i64 32303,.int .i64 33692,.int .i64 35062,.int .i64 36410,.int .i64 37736,.int .i64 39040,.int .i64 40320,.int .i64 41576,.int .i64 42806,.int .i64 44011,.int .i64 45190,.int .i64 46341,.int .i64 47464,.int .i64 48559,.int .i64 49624,.int .i64 50660,.int .i64 51665,.int .i64 52639,.int .i64 53581,.int .i64 54491,.int .i64 55368,.int .i64 56212,.int .i64 57022,.int .i64 57798,.int .i64 58538,.int .i64 59244,.int .i64 59914,.int .i64 60547,.int .i64 61145,.int .i64 61705,.int .i64 62228,.int .i64 62714,.int .i64 63162,.int .i64 63572,.int .i64 63944,.int .i64 64277,.int .i64 64571,.int .i64 64827,.int .i64 65043,.int .i64 65220,.int .i64 65358,.int .i64 65457,.int .i64 65516,.int .i64 65536]
theorem OI (k:Nat) (h:k<65):nY[k]? = some (.int .i64 (iH k)):=by
 have e:nY=(Ll.map fun x=>Value.int .i64 x).toArray:=by kernel_rfl
 rw [e];have hl:k<Ll.length:=h;simp [iH,List.getElem?_eq_getElem hl]
theorem Ef (w:World):Calls Tryz.prog 242 #[] w (dS (.agg nY) w):=by
 go_enter Tryz.func242,Tryz.ntmps242
 have key:∀ cs:List Value,cs=nY.toList→Sem.run Tryz.prog (storeCells ⟨w.heap.size,0,none⟩ cs) (w.alloc (.cells Tryz.zeroCells269 269)) = .ok () (w.alloc (.cells nY 269)):=fun cs h=>by
  subst h;exact run_storeCells_new w _ _ nY (by kernel_rfl) (by kernel_rfl) (by kernel_rfl)
 go_wp2_with fail
 rw [key]
 ·have hload : (loadVar 269 ⟨w.heap.size, 0, none⟩).run Tryz.prog (w.alloc (.cells nY 269)) = .ok (.agg nY) (w.alloc (.cells nY 269)) := run_loadVar_new w _ nY 65 3 Tryz.underlying269 (by kernel_rfl);have HL:=hid hload;clear hload key;go_wp2;refine bodyPost_ret (v:=.agg nY) ?_ rfl ⟨rfl,by go_grown⟩;have hload:=HL.out;simp [results,Tryz.results242,asAddr,hload]
 ·kernel_rfl

def bE (a:Int):Int:=if a % 256=0 then iH (a / 256).toNat else iH (a / 256).toNat+((iH ((a / 256).toNat+1)-iH (a / 256).toNat)*(a % 256)+128).tdiv 256
theorem zq {a:Int} (h0:0≤a) : -200000≤bE a∧bE a≤200000:=by
 unfold bE;have b1:=lD (a / 256).toNat;have b2:=lD ((a / 256).toNat+1)
 split
 ·omega
 ·have m := bZ (x := iH ((a / 256).toNat + 1) - iH (a / 256).toNat) (y := a % 256) (M := 65536) (N := 256) (by omega) (by omega) (by omega) (by omega);generalize (iH ((a / 256).toNat+1)-iH (a / 256).toNat)*(a % 256)=x at *
  have e:=Int.tmod_add_mul_tdiv (x+128) 256;have t1:=Int.tmod_lt_of_pos (x+128) (show (0:Int)<256 by omega);have t2:=Int.lt_tmod_of_pos (x+128) (show (0:Int)<256 by omega);omega
theorem uj (a:Int) (h0:0≤a) (h1:a≤16384) (w:World):Calls Tryz.prog 215 #[.int .i64 a] w (dS (.int .i64 (bE a)) w):=by
 obtain ⟨k,hk⟩:∃ k:Nat,k=(a / 256).toNat:=⟨_,rfl⟩;obtain ⟨f,hf⟩:∃ f:Int,f=a % 256:=⟨_,rfl⟩;have hq:a.tdiv 256=(k:Int):=by rw [Int.tdiv_eq_ediv_of_nonneg h0];omega
 have hr:a.tmod 256=f:=by rw [Int.tmod_eq_emod_of_nonneg h0];omega
 have hk65:k<65:=by omega
 have hk65':(k:Int)<65:=by omega
 have hkn:((k:Int)).toNat=k:=by omega
 have wk:IntKind.i64.wrap (k:Int)=k:=IntWalk.i64_in _ (by omega);have wf:IntKind.i64.wrap f=f:=IntWalk.i64_in _ (by omega)
 go_enter Tryz.func215,Tryz.ntmps215
 go_wp2_with fail
 refine (Ef _).mono ?_;rintro e w1 ⟨rfl,hb1⟩;have hst:Sem.run Tryz.prog (storeCells ⟨w1.heap.size,0,none⟩ nY.toList) (w1.alloc (.cells Tryz.zeroCells269 269)) = .ok () (w1.alloc (.cells nY 269)):=run_storeCells_new w1 _ _ nY (by kernel_rfl) (by kernel_rfl) (by kernel_rfl);obtain ⟨wa,hwa⟩:∃ wa,wa=w1.alloc (.cells nY 269):=⟨_,rfl⟩;obtain ⟨g,hg⟩:∃ g,g=w1.heap.size:=⟨_,rfl⟩
 have hat:∀ j,j<65→wa.cell? ⟨g,j,none⟩=some (.int .i64 (iH j)):=fun j hj=>by
  rw [hwa,hg];rw [cell_of_row _ _ j nY _ (0,0) (heap_alloc_last w1 _)];exact OI j hj
 have hBa:Below w.heap.size w wa:=by rw [hwa];exact hb1.alloc hb1.size _
 have hsz:nY.size=65:=by kernel_rfl
 go_upto_region 2 with fail
 rw [← hwa,← hg];clear hst hwa hsz hg hb1
 by_cases hz:f=0
 ·have HR : Hid (bE a = iH k) := by show _ = _; unfold bE; rw [← hf, if_pos hz, ← hk]
  have c0:=hat k hk65;rw [hz] at hr wf;generalize iH k=t0 at *
  clear hat hf hk hz;go_wp2
  go_returns
  exact aH HR.out.symm hBa
 ·have hk1 : k + 1 < 65 := by omega
  have HR:Hid (bE a=iH k+((iH (k+1)-iH k)*f+128).tdiv 256):=by show _=_;unfold bE;rw [← hf,if_neg hz,← hk]
  have c0:=hat k hk65;have c1:=hat (k+1) hk1;have b0:=lD k;have b1:=lD (k+1);have hkn1:((k:Int)+1).toNat=k+1:=by omega
  have hk2:(k:Int)+1<65:=by omega
  have hk3:0≤(k:Int)+1:=by omega
  have wk1:IntKind.i64.wrap ((k:Int)+1)=(k:Int)+1:=IntWalk.i64_in _ (by omega);generalize iH k=t0 at *
  generalize iH (k+1)=t1 at *
  have m:=bZ (x:=t1-t0) (y:=f) (M:=65536) (N:=256) (by omega) (by omega) (by omega) (by omega);have w1':IntKind.i64.wrap (t1-t0)=t1-t0:=IntWalk.i64_in _ (by omega);have w2':IntKind.i64.wrap ((t1-t0)*f)=(t1-t0)*f:=IntWalk.i64_in _ (by omega);have w3':IntKind.i64.wrap ((t1-t0)*f+128)=(t1-t0)*f+128:=IntWalk.i64_in _ (by omega);obtain ⟨q,hq2⟩:∃ q,q=((t1-t0)*f+128).tdiv 256:=⟨_,rfl⟩
  have bq : -70000≤q∧q≤70000:=by
   have e:=Int.tmod_add_mul_tdiv ((t1-t0)*f+128) 256;have x1:=Int.tmod_lt_of_pos ((t1-t0)*f+128) (show (0:Int)<256 by omega);have x2:=Int.lt_tmod_of_pos ((t1-t0)*f+128) (show (0:Int)<256 by omega);rw [← hq2] at e;omega
  have w4':IntKind.i64.wrap q=q:=IntWalk.i64_in _ (by omega);have w5':IntKind.i64.wrap (t0+q)=t0+q:=IntWalk.i64_in _ (by omega);have hq3:((t1-t0)*f+128).tdiv 256=q:=hq2.symm;rw [← hq2] at HR;clear hat hf hk m bq b0 b1 hq2
  go_wp2_with fail
  go_quiet (fail)
  go_wp2
  go_returns
  exact aH HR.out.symm (below_drewN' hBa _)

def kE (a:Int):Int:=if a % 65536 / 16384=0 then bE (a % 16384) else if a % 65536 / 16384=1 then bE (16384-a % 16384) else if a % 65536 / 16384=2 then-bE (a % 16384) else-bE (16384-a % 16384)
def lS (a:Int):Int:=kE (a % 65536+16384)
theorem J8 (a:Int) (h0:0≤a) (h1:a<4294967296):bits .and .i64 a 65535=a % 65536:=by
 obtain ⟨n,rfl⟩:=Int.eq_ofNat_of_zero_le h0
 have e1:(BitVec.ofInt 64 (n:Int)).toNat=n:=by
  rw [BitVec.ofInt_natCast,BitVec.toNat_ofNat];exact Nat.mod_eq_of_lt (by omega)
 have e2:(BitVec.ofInt 64 65535).toNat=65535:=by decide
 have e3:n &&& 65535=n % 65536:=Nat.and_two_pow_sub_one_eq_mod n 16;show IntKind.i64.wrap ((BitVec.ofInt 64 (n:Int) &&& BitVec.ofInt 64 65535).toNat:Int)=_;rw [BitVec.toNat_and,e1,e2,e3,IntWalk.i64_in _ (by omega)];omega
theorem zG (a:Int) (h0:0≤a) (h1:a<4294967296) (w:World):Calls Tryz.prog 155 #[.int .i64 a] w (dS (.int .i64 (kE a)) w):=by
 have ha:=J8 a h0 h1;obtain ⟨b,hb⟩:∃ b,b=a % 65536:=⟨_,rfl⟩;obtain ⟨r,hr⟩:∃ r,r=a % 16384:=⟨_,rfl⟩;obtain ⟨q,hq⟩:∃ q,q=a % 65536 / 16384:=⟨_,rfl⟩;have hbr:b.tmod 16384=r:=by rw [Int.tmod_eq_emod_of_nonneg (by omega)];omega
 have hbq:b.tdiv 16384=q:=by rw [Int.tdiv_eq_ediv_of_nonneg (by omega)];omega
 have HS:Hid (kE a=if q=0 then bE r else if q=1 then bE (16384-r) else if q=2 then-bE r else-bE (16384-r)):=by show _=_;unfold kE;rw [← hq,← hr]
 have f1:=zq (a:=r) (by omega);have f2:=zq (a:=16384-r) (by omega);have w1:IntKind.i64.wrap r=r:=IntWalk.i64_in _ (by omega);have w2:IntKind.i64.wrap q=q:=IntWalk.i64_in _ (by omega);have w3:IntKind.i64.wrap (16384-r)=16384-r:=IntWalk.i64_in _ (by omega);have w4:IntKind.i64.wrap (- bE r) = - bE r:=IntWalk.i64_in _ (by omega);have w5:IntKind.i64.wrap (- bE (16384-r)) = - bE (16384-r):=IntWalk.i64_in _ (by omega);have w6:IntKind.i64.wrap b=b:=IntWalk.i64_in _ (by omega);have HF1:Hid (∀ w,Calls Tryz.prog 215 #[.int .i64 r] w (dS (.int .i64 (bE r)) w)):=fun w=>uj r (by omega) (by omega) w
 have HF2:Hid (∀ w,Calls Tryz.prog 215 #[.int .i64 (16384-r)] w (dS (.int .i64 (bE (16384-r))) w)):=fun w=>uj (16384-r) (by omega) (by omega) w
 have hq4:q=0∨q=1∨q=2∨q=3:=by omega
 rw [← hb] at ha;clear hb hr hq f1 f2 h0 h1;generalize bE (16384-r)=y at *
 generalize bE r=x at *
 rcases hq4 with rfl | rfl | rfl | rfl
 ·go_enter Tryz.func155, Tryz.ntmps155
  go_wp2_with fail
  refine (HF1.out _).mono ?_;rintro e w1 ⟨rfl,hb1⟩;go_wp2
  go_returns
  exact aH (by rw [HS.out];simp) hb1
 ·go_enter Tryz.func155, Tryz.ntmps155
  go_wp2_with fail
  refine (HF2.out _).mono ?_;rintro e w1 ⟨rfl,hb1⟩;go_wp2
  go_returns
  exact aH (by rw [HS.out];simp) hb1
 ·go_enter Tryz.func155, Tryz.ntmps155
  go_wp2_with fail
  refine (HF1.out _).mono ?_;rintro e w1 ⟨rfl,hb1⟩;go_wp2
  go_returns
  exact aH (by rw [HS.out];simp) hb1
 ·go_enter Tryz.func155, Tryz.ntmps155
  go_wp2_with fail
  refine (HF2.out _).mono ?_;rintro e w1 ⟨rfl,hb1⟩;go_wp2
  go_returns
  exact aH (by rw [HS.out];simp) hb1
theorem JQ (a:Int) (h0:0≤a) (h1:a<4294967296) (w:World):Calls Tryz.prog 154 #[.int .i64 a] w (dS (.int .i64 (lS a)) w):=by
 have ha:=J8 a h0 h1;obtain ⟨b,hb⟩:∃ b,b=a % 65536:=⟨_,rfl⟩;have w1:IntKind.i64.wrap b=b:=IntWalk.i64_in _ (by omega);have w2:IntKind.i64.wrap (b+16384)=b+16384:=IntWalk.i64_in _ (by omega)
 have HS:Hid (∀ w,Calls Tryz.prog 155 #[.int .i64 (b+16384)] w (dS (.int .i64 (lS a)) w)):=fun w=>by
  rw [hb];exact zG (a % 65536+16384) (by omega) (by omega) w
 rw [← hb] at ha;clear hb h0 h1
 go_enter Tryz.func154,Tryz.ntmps154
 go_wp2_with fail
 refine (HS.out _).mono ?_;rintro e w1 ⟨rfl,hb1⟩;go_wp2
 go_returns
 exact aH rfl hb1

def l9 (x y a:Int):Int:=iN (bH x (lS a)) (bH y (kE a))
def mE (x y a:Int):Int:=fV (bH x (kE a)) (bH y (lS a))
theorem F5 (x y a:Int) (h0:0≤a) (h1:a<4294967296) (w:World):Calls Tryz.prog 90 #[cZ x y,.int .i64 a] w (dS (cZ (l9 x y a) (mE x y a)) w):=by
 obtain ⟨W,hW⟩:∃ W,W=(w.alloc (.cells #[.int .i64 x,.int .i64 y] 24)).alloc (.cells #[.int .i64 0,.int .i64 0] 24):=⟨_,rfl⟩;have HZ0:=hid (show VZ W (w.heap.size+1) by rw [hW];have:=VZ.here (w.alloc (.cells #[.int .i64 x,.int .i64 y] 24)) 0 0 24;simpa using this);have hB0:Below w.heap.size w W:=by rw [hW];go_grown
 have p0:W.cell? ⟨w.heap.size,0,none⟩=some (.int .i64 x):=by rw [hW];go_simp
 have p1:W.cell? ⟨w.heap.size,1,none⟩=some (.int .i64 y):=by rw [hW];go_simp
 have HC:=hid (JQ a h0 h1);have HS:=hid (zG a h0 h1);obtain ⟨cc,hcc⟩:∃ c,c=lS a:=⟨_,rfl⟩;obtain ⟨ss,hss⟩:∃ s,s=kE a:=⟨_,rfl⟩;rw [← hcc] at HC;rw [← hss] at HS;have HCC:=hid hcc;have HSS:=hid hss;clear hcc hss
 go_enter Tryz.func90,Tryz.ntmps90
 go_wp2_with fail
 rw [← hW];clear hW;refine (HC.out _).mono ?_;rintro e w1 ⟨rfl,hb1⟩
 go_wp2_with fail
 refine (HS.out _).mono ?_;rintro e w2 ⟨rfl,hb2⟩;have HZ2:=hid (gY hb2 (gY hb1 HZ0.out));have hB2:=aj hb2 (aj hb1 hB0);replace p0:=keepCell hb2 (keepCell hb1 p0);replace p1:=keepCell hb2 (keepCell hb1 p1);clear hb1 hb2 HZ0 hB0 HC HS
 go_wp2_with fail
 refine wp_region_noPanic ?_;refine au (S:=(S2 (fun w'=>VZ w' (w.heap.size+1)∧Below w.heap.size w w'∧w'.cell? ⟨w.heap.size,0,none⟩=some (.int .i64 x)∧w'.cell? ⟨w.heap.size,1,none⟩=some (.int .i64 y)))) (T:=(fun j=>[0,0,0,0,0,0,0,0,0,0,0,0,0,0,0,0,0,0,0,1].getD j 0)) (by kernel_rfl) (aK ⟨HZ2.out.drew,hB2.drew,p0,p1⟩) (fun hH=>?_);have hWr1:aG (S2 (fun w'=>VZ w' (w.heap.size+1)∧Below w.heap.size w w'∧w'.cell? ⟨w.heap.size,0,none⟩=some (.int .i64 x)∧w'.cell? ⟨w.heap.size,1,none⟩=some (.int .i64 y))):=aI _;refine dG [(0,11),(1,12),(2,13),(4,15),(5,16),(6,17),(9,20),(10,21),(11,22),(13,24),(14,25),(15,26)] 8 0 0 (L':=?Lr1_1) hWr1 hH ?hyr1_1 ?_
 case hyr1_1=>((iterate 12 apply dF;rfl;kernel_rfl;intro w' hSw;replace hSw:=aB hSw;(try dsimp only at hSw);have q0:=hSw.1;have q1:=hSw.2.1;have q2:=hSw.2.2.1;have q3:=hSw.2.2.2;(try simp only [sB,sC]);go_simp;(try with_reducible rfl));exact dD)
 simp only [sB,sC];refine U1 3 0 rfl (fun K hK=>?_)
 try clear hb
 go_simp
 (go_at_call 52;refine (fO x cc _).mono ?_;rintro e wn ⟨rfl,hb⟩)
 refine hK.out _ _ ?hsr1_13 (fun hH2=>?hrr1_13)
 case hsr1_13=>exact aK (by have hG:=hH;replace hG:=aB hG;(try dsimp only at hG);have q0:=hG.1;have q1:=hG.2.1;have q2:=hG.2.2.1;have q3:=hG.2.2.2;exact ⟨gY hb q0,aj hb q1,keepCell hb q2,keepCell hb q3⟩)
 clear hK K hH;have hH:=hH2;clear hH2
 try simp only [Act.put,sA,sB,sC]
 refine U1 7 0 rfl (fun K hK=>?_)
 try clear hb
 go_simp
 (go_at_call 52;refine (fO y ss _).mono ?_;rintro e wn ⟨rfl,hb⟩)
 refine hK.out _ _ ?hsr1_14 (fun hH2=>?hrr1_14)
 case hsr1_14=>exact aK (by have hG:=hH;replace hG:=aB hG;(try dsimp only at hG);have q0:=hG.1;have q1:=hG.2.1;have q2:=hG.2.2.1;have q3:=hG.2.2.2;exact ⟨gY hb q0,aj hb q1,keepCell hb q2,keepCell hb q3⟩)
 clear hK K hH;have hH:=hH2;clear hH2
 try simp only [Act.put,sA,sB,sC]
 refine U1 8 0 rfl (fun K hK=>?_)
 try clear hb
 go_simp
 (go_at_call 40;refine (ql (bH x cc) (bH y ss) _).mono ?_;rintro e wn ⟨rfl,hb⟩)
 refine hK.out _ _ ?hsr1_15 (fun hH2=>?hrr1_15)
 case hsr1_15=>exact aK (by have hG:=hH;replace hG:=aB hG;(try dsimp only at hG);have q0:=hG.1;have q1:=hG.2.1;have q2:=hG.2.2.1;have q3:=hG.2.2.2;exact ⟨gY hb q0,aj hb q1,keepCell hb q2,keepCell hb q3⟩)
 clear hK K hH;have hH:=hH2;clear hH2
 try simp only [Act.put,sA,sB,sC]
 refine U1 12 0 rfl (fun K hK=>?_)
 try clear hb
 go_simp
 (go_at_call 52;refine (fO x ss _).mono ?_;rintro e wn ⟨rfl,hb⟩)
 refine hK.out _ _ ?hsr1_16 (fun hH2=>?hrr1_16)
 case hsr1_16=>exact aK (by have hG:=hH;replace hG:=aB hG;(try dsimp only at hG);have q0:=hG.1;have q1:=hG.2.1;have q2:=hG.2.2.1;have q3:=hG.2.2.2;exact ⟨gY hb q0,aj hb q1,keepCell hb q2,keepCell hb q3⟩)
 clear hK K hH;have hH:=hH2;clear hH2
 try simp only [Act.put,sA,sB,sC]
 refine U1 16 0 rfl (fun K hK=>?_)
 try clear hb
 go_simp
 (go_at_call 52;refine (fO y cc _).mono ?_;rintro e wn ⟨rfl,hb⟩)
 refine hK.out _ _ ?hsr1_17 (fun hH2=>?hrr1_17)
 case hsr1_17=>exact aK (by have hG:=hH;replace hG:=aB hG;(try dsimp only at hG);have q0:=hG.1;have q1:=hG.2.1;have q2:=hG.2.2.1;have q3:=hG.2.2.2;exact ⟨gY hb q0,aj hb q1,keepCell hb q2,keepCell hb q3⟩)
 clear hK K hH;have hH:=hH2;clear hH2
 try simp only [Act.put,sA,sB,sC]
 refine U1 17 0 rfl (fun K hK=>?_)
 try clear hb
 go_simp
 (go_at_call 153;refine (qA (bH x ss) (bH y cc) _).mono ?_;rintro e wn ⟨rfl,hb⟩)
 refine hK.out _ _ ?hsr1_18 (fun hH2=>?hrr1_18)
 case hsr1_18=>exact aK (by have hG:=hH;replace hG:=aB hG;(try dsimp only at hG);have q0:=hG.1;have q1:=hG.2.1;have q2:=hG.2.2.1;have q3:=hG.2.2.2;exact ⟨gY hb q0,aj hb q1,keepCell hb q2,keepCell hb q3⟩)
 clear hK K hH;have hH:=hH2;clear hH2
 try simp only [Act.put,sA,sB,sC]
 refine Ut 18 29 1 0 0 (v:=?vr1_19) rfl hWr1 hH ?hyr1_19 ?_
 case hyr1_19=>(intro w' hSw;clear hSw;go_simp;try (with_reducible rfl))
 simp only [sB,sC];refine U1 19 1 rfl (fun K hK=>?_);have hG:=hH;replace hG:=aB hG;(try dsimp only at hG);have q0:=hG.1;have q1:=hG.2.1;have q2:=hG.2.2.1;have q3:=hG.2.2.2;obtain ⟨⟨z0,z1,y0,y1⟩,yf⟩:=q0;go_simp;refine hK.out _ _ ?hsr1_20 (fun hH2=>?hrr1_20)
 case hsr1_20=>exact gV
 clear hK K hH;have hH:=hH2;clear hH2
 try simp only [Act.put,sA,sB,sC]
 refine ak (by kernel_rfl) ?_ _ _;refine NoPanic.normal ?_;go_wp2;refine bodyPost_ret (v:=cZ (iN (bH x cc) (bH y ss)) (fV (bH x ss) (bH y cc))) (by simp [results,Tryz.results90,go_sem,y0,y1]) rfl ⟨by unfold l9 mE;rw [HCC.out,HSS.out],by go_grown⟩
end
end Go.Proofs.YtokgmcomgflloaaGreat
