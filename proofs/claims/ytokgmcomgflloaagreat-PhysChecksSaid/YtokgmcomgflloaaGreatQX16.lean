/- Parts of a proof: contracts and laws. -/
import Derived.Test.YtokgmcomgflloaaGreatQX15
import Derived.Test.YtokgmcomgflloaaGreatQX12
import Derived.Shelf.LaySoft
import Derived.Shelf.SlicesG.Cmp
import Derived.Test.YtokgmcomgflloaaGreatQX13
import Derived.Test.YtokgmcomgflloaaGreatQX04
import Derived.Test.YtokgmcomgflloaaGreatQX09
import Derived.Test.YtokgmcomgflloaaGreatQX10
set_option maxRecDepth 100000
set_option maxHeartbeats 16000000
namespace Go.Proofs.YtokgmcomgflloaaGreat
section
set_option linter.unusedVariables false
set_option linter.unusedSimpArgs false
open Go.RowKit
variable {w0 w w':World}

def lK (a b:Int):Int:=if a<b then -1 else if b<a then 1 else 0

def Ad (x y:Ct):Int:=if lK x.a y.a≠0 then lK x.a y.a else if lK x.b y.b≠0 then lK x.b y.b else lK x.id y.id
def Iq (x o:Ct):Bool:=decide (o.a=x.a∧o.b=x.b∧o.id=x.id)

def I8 (old:List Ct) (x:Ct):Ct:=match old.find? (Iq x) with
 | some o=>{ x with push:=o.push,sli:=o.sli }
 | none=>{ x with push:=0,sli:=0 }
def uS (old fresh:List Ct):List Ct:=fresh.map (I8 old)


end
section
set_option linter.unusedVariables false
set_option linter.unusedSimpArgs false
open Go.Shelf
open Go.RowKit Go.Sort Go.Lib
variable {w0 w w':World}
def sV:Go.Shelf.Ren:=⟨fun | 5=>75 | 7=>139 | n=>n,fun | 22=>3 | 3=>3 | 4=>4 | n=>n,fun | n=>n⟩
theorem CJ : Go.Proofs.SlLaysC2.n5 Tryz.prog sV := {
 mixed:=by kernel_rfl
 f5:=⟨Tryz.f75.name,by decide,Tryz.func75.trans (congrArg some (by kernel_rfl))⟩
 f7:=⟨Tryz.f139.name,by decide,Tryz.func139.trans (congrArg some (by kernel_rfl))⟩
 t3:=Tryz.underlying3
 a3:=Tryz.isAgg3
 z3:=Tryz.sizeOf3
 v3:=Tryz.zeroValue3
 t4:=Tryz.underlying4
 a4:=Tryz.isAgg4
 z4:=Tryz.sizeOf4
 v4:=Tryz.zeroValue4
 t22:=Tryz.underlying3
 a22:=Tryz.isAgg3
 z22:=Tryz.sizeOf3
 v22:=Tryz.zeroValue3 }
theorem iV (x y:Int) (w:World):Calls Tryz.prog 75 #[.int .i64 x,.int .i64 y] w fun e w'=>e = .returned (.int .i64 (Lib.compareInt x y))∧w'=w:=AnyG.cmp_Compare_int CJ x y w

abbrev Bx:=(Int × Int) × (Int × Int)
def bT:Lay Bx:=⟨fun b=>[.int .i64 b.1.1,.int .i64 b.1.2,.int .i64 b.2.1,.int .i64 b.2.2],4,fun _=>rfl,fun x v hv=>by simp at hv;rcases hv with rfl | rfl | rfl | rfl <;> rfl,by omega⟩
def aU (l:List Bx) (i:Nat):Bx:=l.getD i ((0,0),(0,0))
theorem aH.box {b off:Nat} {l:List Bx} (h:aH bT w b off l) {i:Nat} (hi:i<l.length) :
  w.cell? ⟨b,off+i*4,none⟩=some (.int .i64 (aU l i).1.1)∧w.cell? ⟨b,off+i*4+1,none⟩=some (.int .i64 (aU l i).1.2)∧w.cell? ⟨b,off+i*4+2,none⟩=some (.int .i64 (aU l i).2.1)∧w.cell? ⟨b,off+i*4+3,none⟩=some (.int .i64 (aU l i).2.2):=by
 have e:aU l i=l[i]:=by unfold aU;simp [hi]
 rw [e];exact ⟨h.at_ i hi 0 _ rfl,h.at_ i hi 1 _ rfl,h.at_ i hi 2 _ rfl,h.at_ i hi 3 _ rfl⟩
end
section
set_option linter.unusedVariables false
set_option linter.unusedSimpArgs false
open Go.RowKit
variable {w0 w w':World}
section
variable {w0 w w':World}
variable {α:Type} {L:Lay α} {e:TypeId}

theorem uU {t : TypeId} {bytes : Nat} (hT : EU L t e bytes) (ty : TypeId) (w : World) (B : Nat) (v : Value) (l : List α) (hown : aN L e w B v l) (A : Option Addr) (n c : Nat) (m : List α) (hS : dD L w A n c m)
  (hl:l.length+m.length≤8796093022208) (hby:(l.length+m.length)*bytes≤140737488355328) (hB:B≤w.heap.size) :
  ∃ v' w',(Builtin.append_ #[t,t] ty #[v,.slice A n c]).run Tryz.prog w = .ok v' w'∧aN L e w' B v' (l ++ m)∧w.grownBy w' v.ownBlock∧(v'.ownBlock=v.ownBlock∨v'.ownBlock=some w.heap.size):=by
 by_cases h0:m=[]
 ·subst h0;have hn:=hS.len;simp at hn;subst hn;obtain ⟨i0,z,hi,hz0,hz1,hz2,hz3⟩:=hT.hi
  cases A with
  | none =>
   refine ⟨v,w,?_,by simpa using hown,⟨rfl,rfl,rfl,Nat.le_refl _,fun _ _ _=>rfl⟩,.inl rfl⟩
   rcases hown.2 with ⟨rfl,hx⟩ | ⟨g,cap,cur,rfl,_,_,hnc,_⟩
   ·simp [Builtin.append_,run_underlying hT.ht,sizeOf,typeInfo,hi,Builtin.lenOf,Builtin.firstCells]
   ·simp [Builtin.append_,run_underlying hT.ht,sizeOf,typeInfo,hi,Builtin.lenOf,Builtin.firstCells,hnc,storeCells]
  | some ad =>
   obtain ⟨v',w',hr,h2,h3,h4,h5⟩:=run_append_own_at (P:=Tryz.prog) w B t ty e i0 z L.k bytes hT.ht hi hz0 hz1 hz2 hz3 L.pos v l.length (dF L l) hown ad 0 c [] (by simp) (fun j u hj=>by simp at hj) (by simp) (by unfold maxLen;simp at hl;omega) (by simpa using hby) hB;refine ⟨v',w',hr,?_,h3,h5⟩;unfold aN;simpa using h2
 ·obtain ⟨b, off, rfl, hC⟩ := hS.at_ h0;exact kJ hT ty w B v l hown b off n c m hS.len hC hl hby hB
theorem iQ {t : TypeId} {bytes : Nat} (hT : EU L t e bytes) {w : World} {ops : Array Oper} {rest : List Oper} {o : Oper} {a : Act} {Q : Exit → Act → World → Prop} (hgd : o.guard = none) (s x : Operand)
  (ho:o.op = .call { callee:=.builtin .append,args:=#[s,x],argTypes:=#[t,t] })
  (B:Nat) (v:Value) (l:List α) (hs:a.eval s=v) (hown:aN L e w B v l) (A:Option Addr) (n c:Nat) (m:List α) (hx:a.eval x = .slice A n c) (hS:dD L w A n c m)
  (hl:l.length+m.length≤8796093022208) (hby:(l.length+m.length)*bytes≤140737488355328) (hB:B≤w.heap.size)
  (h:∀ v' w',aN L e w' B v' (l ++ m)→w.grownBy w' v.ownBlock→(v'.ownBlock=v.ownBlock∨v'.ownBlock=some w.heap.size)→wpList Tryz.prog ops Q rest (a.put o.dst v') w'):wpList Tryz.prog ops Q (o :: rest) a w:=by
 obtain ⟨v',w',hr,h2,h3,h5⟩:=uU hT o.type w B v l hown A n c m hS hl hby hB;refine wpList_plain hgd fun K hK=>?_
 unfold Oper.wp execOp;simp only [ho,resolve,invoke,builtin,Sem.run_bind,Sem.run_pure,Result.andThen_ok,List.map_toArray,List.map_cons,List.map_nil,hs,hx,hr];exact hK _ _ (h v' w' h2 h3 h5)
end
theorem aK {g o o':Nat} {v u:Value} (h:w.cell? ⟨g,o',none⟩=some u) (hne:o≠o'):(w.setCell ⟨g,o,none⟩ v).cell? ⟨g,o',none⟩=some u:=by
 have n1:¬ o=o':=hne;have n2:¬ o'=o:=fun e=>hne e.symm
 go_simp
theorem bN {g o:Nat} {v u:Value} (h:w.cell? ⟨g,o,none⟩=some u):(w.setCell ⟨g,o,none⟩ v).cell? ⟨g,o,none⟩=some v:=by go_simp

def fq (w:World) (g o:Nat) (b:Bd) (A:Option Addr) (n c:Nat):World:=(((((((((((((w.setCell ⟨g,o,none⟩ (.int .i64 b.px)).setCell ⟨g,o+1,none⟩ (.int .i64 b.py)).setCell ⟨g,o+2,none⟩ (.int .i64 b.vx)).setCell ⟨g,o+3,none⟩ (.int .i64 b.vy)).setCell ⟨g,o+4,none⟩ (.int .i64 b.ang)).setCell ⟨g,o+5,none⟩ (.int .i64 b.spin)).setCell ⟨g,o+6,none⟩ (.int .i64 b.mass)).setCell ⟨g,o+7,none⟩ (.int .i64 b.iner)).setCell ⟨g,o+8,none⟩ (.int .i64 b.bounce)).setCell ⟨g,o+9,none⟩ (.int .i64 b.rub)).setCell ⟨g,o+10,none⟩ (.slice A n c)).setCell ⟨g,o+11,none⟩ (.bool b.asleep)).setCell ⟨g,o+12,none⟩ (.int .i64 b.calm))
theorem DX {g o o':Nat} {u:Value} {b:Bd} {A:Option Addr} {n c:Nat} (h:w.cell? ⟨g,o',none⟩=some u) (hne:o'<o∨o+13≤o'):(fq w g o b A n c).cell? ⟨g,o',none⟩=some u:=by
 unfold fq
 iterate 13 refine aK ?_ (by omega)
 exact h
theorem EO {g o:Nat} (x:BE) (hz:∀ i,i<13→∃ u,w.cell? ⟨g,o+i,none⟩=some u):∀ (i:Nat) (v:Value),(iK x)[i]? = some v→(fq w g o x.b x.A x.n x.c).cell? ⟨g,o+i,none⟩=some v:=fun i v hv0=>by
 have hv:(iK x)[i]? = some v:=hv0;unfold iK at hv
 revert hv
 exact match i with
 | 0=>fun hv=>by
  have e:some _=some v:=hv
  cases e
  obtain ⟨u,hu⟩:=hz 0 (by omega);unfold fq;simp only [Nat.add_zero] at hu ⊢
  iterate 12 refine aK ?_ (by omega)
  refine bN (u:=u) ?_;exact hu
 | 1=>fun hv=>by
  have e:some _=some v:=hv
  cases e
  obtain ⟨u,hu⟩:=hz 1 (by omega);unfold fq
  iterate 11 refine aK ?_ (by omega)
  refine bN (u:=u) ?_
  iterate 1 refine aK ?_ (by omega)
  exact hu
 | 2=>fun hv=>by
  have e:some _=some v:=hv
  cases e
  obtain ⟨u,hu⟩:=hz 2 (by omega);unfold fq
  iterate 10 refine aK ?_ (by omega)
  refine bN (u:=u) ?_
  iterate 2 refine aK ?_ (by omega)
  exact hu
 | 3=>fun hv=>by
  have e:some _=some v:=hv
  cases e
  obtain ⟨u,hu⟩:=hz 3 (by omega);unfold fq
  iterate 9 refine aK ?_ (by omega)
  refine bN (u:=u) ?_
  iterate 3 refine aK ?_ (by omega)
  exact hu
 | 4=>fun hv=>by
  have e:some _=some v:=hv
  cases e
  obtain ⟨u,hu⟩:=hz 4 (by omega);unfold fq
  iterate 8 refine aK ?_ (by omega)
  refine bN (u:=u) ?_
  iterate 4 refine aK ?_ (by omega)
  exact hu
 | 5=>fun hv=>by
  have e:some _=some v:=hv
  cases e
  obtain ⟨u,hu⟩:=hz 5 (by omega);unfold fq
  iterate 7 refine aK ?_ (by omega)
  refine bN (u:=u) ?_
  iterate 5 refine aK ?_ (by omega)
  exact hu
 | 6=>fun hv=>by
  have e:some _=some v:=hv
  cases e
  obtain ⟨u,hu⟩:=hz 6 (by omega);unfold fq
  iterate 6 refine aK ?_ (by omega)
  refine bN (u:=u) ?_
  iterate 6 refine aK ?_ (by omega)
  exact hu
 | 7=>fun hv=>by
  have e:some _=some v:=hv
  cases e
  obtain ⟨u,hu⟩:=hz 7 (by omega);unfold fq
  iterate 5 refine aK ?_ (by omega)
  refine bN (u:=u) ?_
  iterate 7 refine aK ?_ (by omega)
  exact hu
 | 8=>fun hv=>by
  have e:some _=some v:=hv
  cases e
  obtain ⟨u,hu⟩:=hz 8 (by omega);unfold fq
  iterate 4 refine aK ?_ (by omega)
  refine bN (u:=u) ?_
  iterate 8 refine aK ?_ (by omega)
  exact hu
 | 9=>fun hv=>by
  have e:some _=some v:=hv
  cases e
  obtain ⟨u,hu⟩:=hz 9 (by omega);unfold fq
  iterate 3 refine aK ?_ (by omega)
  refine bN (u:=u) ?_
  iterate 9 refine aK ?_ (by omega)
  exact hu
 | 10=>fun hv=>by
  have e:some _=some v:=hv
  cases e
  obtain ⟨u,hu⟩:=hz 10 (by omega);unfold fq
  iterate 2 refine aK ?_ (by omega)
  refine bN (u:=u) ?_
  iterate 10 refine aK ?_ (by omega)
  exact hu
 | 11=>fun hv=>by
  have e:some _=some v:=hv
  cases e
  obtain ⟨u,hu⟩:=hz 11 (by omega);unfold fq
  iterate 1 refine aK ?_ (by omega)
  refine bN (u:=u) ?_
  iterate 11 refine aK ?_ (by omega)
  exact hu
 | 12=>fun hv=>by
  have e:some _=some v:=hv
  cases e
  obtain ⟨u,hu⟩:=hz 12 (by omega);unfold fq;refine bN (u:=u) ?_
  iterate 12 refine aK ?_ (by omega)
  exact hu
 | i+13=>fun hv=>by simp at hv
theorem yB (w:World) (g o:Nat) (b:Bd) (A:Option Addr) (n c:Nat):w.grownBy (fq w g o b A n c) (some g):=by
 unfold fq
 iterate 12 refine fA ?_ (aX _ g _ _)
 exact aX _ g _ _
theorem zX {g o g' j:Nat} {b:Bd} {A:Option Addr} {n c:Nat}:(fq w g o b A n c).frozen? ⟨g',j,none⟩=w.frozen? ⟨g',j,none⟩:=by
 unfold fq
 iterate 13 rw [World.frozen?_setCell]

structure BL (w : World) (g : Nat) (L : List BE) : Prop where
 cl:aH jH w g 0 L
 free:∀ j,w.frozen? ⟨g,j,none⟩=false
 co:∀ x ∈ L,Sl w x.A x.n x.c x.l
 ne:∀ x ∈ L,∀ bx off,x.A=some ⟨bx,off,none⟩→bx≠g
theorem eX {g:Nat} {L:List BE} (hb:Below w.heap.size w w') (h:BL w g L):BL w' g L :=
 ⟨h.cl.below hb,fun j=>((bX hb).2 _ _ h.cl.lt).trans (h.free j),fun x hx=>(h.co x hx).below hb,h.ne⟩
theorem BL.drew {g:Nat} {L:List BE} (h:BL w g L):BL w.drew g L:=eX (Below.refl _ _).drew h
theorem BL.alloc {g:Nat} {L:List BE} (h:BL w g L) (o:Obj):BL (w.alloc o) g L:=eX Ba h

theorem BL.set {g:Nat} {L:List BE} (h:BL w g L) {k:Nat} (hk:k<L.length) (x:BE) (hs:Sl w x.A x.n x.c x.l) (hn:∀ bx off,x.A=some ⟨bx,off,none⟩→bx≠g):BL (fq w g (k*13) x.b x.A x.n x.c) g (L.set k x):=by
 have hgr:=yB w g (k*13) x.b x.A x.n x.c;refine ⟨⟨Nat.lt_of_lt_of_le h.cl.lt hgr.size,fun j hj i v hv=>?_⟩,fun j=>by rw [zX];exact h.free j,fun y hy=>?_,fun y hy=>?_⟩
 ·have hj' : j < L.length := by simpa using hj
  by_cases e:j=k
  ·subst e;have hv:(iK x)[i]? = some v:=by have hv2:(iK (L.set j x)[j])[i]? = some v:=hv;rwa [List.getElem_set_self] at hv2
   have:=EO (w:=w) (g:=g) (o:=j*13) x (fun i hi=>by
    have hlen:(iK L[j]).length=13:=rfl
    exact ⟨_,by have:=h.cl.at_ j hj' i ((iK L[j])[i]'(by omega)) (List.getElem?_eq_getElem _);rw [Nat.zero_add] at this;exact this⟩) i v hv
   show (fq w g (j*13) x.b x.A x.n x.c).cell? ⟨g,0+j*13+i,none⟩=some v;rw [Nat.zero_add];exact this
  ·have hv : (iK L[j])[i]? = some v := by have hv2 : (iK (L.set k x)[j])[i]? = some v := hv; rwa [List.getElem_set_ne (by omega)] at hv2
   have hi:i<13:=by
    have hlen:(iK L[j]).length=13:=rfl
    rcases Nat.lt_or_ge i 13 with q | q
    ·exact q
    ·rw [List.getElem?_eq_none (by omega)] at hv;cases hv
   have:=h.cl.at_ j hj' i v hv;have this:w.cell? ⟨g,0+j*13+i,none⟩=some v:=this;show (fq w g (k*13) x.b x.A x.n x.c).cell? ⟨g,0+j*13+i,none⟩=some v;exact DX this (by omega)
 ·rcases List.mem_or_eq_of_mem_set hy with q | rfl
  ·exact (h.co y q).grown hgr (h.ne y q)
  ·exact hs.grown hgr hn
 ·rcases List.mem_or_eq_of_mem_set hy with q | rfl
  ·exact h.ne y q
  ·exact hn
def Ik (b:Bd) (jx jy u v:Int):Int:=kT (kT (Aa (fO u b.px) (fO v b.py) jx jy) b.iner) 411775
def Fp (b:Bd) (p q:Int):Int:=fO b.vx (bn (bn b.spin 411775) (fO q b.py))
def Fe (b:Bd) (p q:Int):Int:=dQ b.vy (bn (bn b.spin 411775) (fO p b.px))
def Ip (b:Bd) (p q nx ny:Int):Int:=dQ (kT 65536 b.mass) (kT (bn (Aa (fO p b.px) (fO q b.py) nx ny) (Aa (fO p b.px) (fO q b.py) nx ny)) b.iner)
def GI (b:Bd) (p q nx ny:Int):Int:=if b.mass=0∨b.asleep=true then 0 else Ip b p q nx ny
def tK (b:Bd) (jx jy u v:Int):Bd :=
 if b.mass=0∨b.asleep=true then b
 else { b with vx:=cZ (dQ b.vx (kT jx b.mass)) 268435456,vy:=cZ (dQ b.vy (kT jy b.mass)) 268435456,spin:=cZ (dQ b.spin (Ik b jx jy u v)) 16777216 }
theorem mY {n m:Int} (h:0≤m) : -m≤cZ n m∧cZ n m≤m:=by unfold cZ;omega
theorem EP {b:Bd} {l:List V} (h:aJ b l=0) (jx jy u v:Int):aJ (tK b jx jy u v) l=0:=by
 unfold tK
 by_cases c:b.mass=0∨b.asleep=true
 ·rw [if_pos c];exact h
 ·rw [if_neg c];obtain ⟨h1,h2⟩:=bU h;unfold aJ;rw [if_neg (by simp [h1])];have c1:(b.mass == 0)=false:=by simp;intro e;exact c (.inl e)
  have c2:b.asleep=false:=by cases q:b.asleep with | false=>rfl | true=>exact absurd (.inr q) c
  unfold iB at h2 ⊢
  by_cases k1:(aB 58982400 b.px b.py && aB 268435456 b.vx b.vy && dU b.spin (-16777216) 16777216 && dU b.ang 0 65535)=true
  ·rw [if_pos k1] at h2;simp only [Bool.and_eq_true] at k1;dsimp only
   rw [if_pos (by
    have w1:=aV.2 (show -268435456≤cZ (dQ b.vx (kT jx b.mass)) 268435456∧cZ (dQ b.vx (kT jx b.mass)) 268435456≤268435456 ∧ -268435456≤cZ (dQ b.vy (kT jy b.mass)) 268435456∧cZ (dQ b.vy (kT jy b.mass)) 268435456≤268435456 by
     have:=mY (n:=dQ b.vx (kT jx b.mass)) (m:=268435456) (by omega);have:=mY (n:=dQ b.vy (kT jy b.mass)) (m:=268435456) (by omega)
     omega)
    have i1:∀ n,dU (cZ n 16777216) (-16777216) 16777216=true:=fun n=>bf.2 (mY (by omega))
    simp only [w1,i1,k1.1.1.1,k1.2,Bool.and_self])]
   by_cases k2:(dU b.mass 0 1099511627776 && dU b.iner 0 1099511627776 && dU b.bounce 0 65536 && dU b.rub 0 65536 && dU b.calm 0 1000)=true
   ·rw [if_pos k2] at h2 ⊢;simp only [c1,c2,Bool.false_and,Bool.or_false] at h2 ⊢;exact h2
   ·rw [if_neg k2] at h2;cases h2
  ·rw [if_neg k1] at h2;cases h2

def bK (x:BE):Bd × List V:=(x.b,x.l)
end
end Go.Proofs.YtokgmcomgflloaaGreat
