/- Parts of a proof: contracts and laws. -/
import Derived.Test.YtokgmcomgflloaaGreatQA16
import Derived.Test.YtokgmcomgflloaaGreatQA07
import Derived.Test.YtokgmcomgflloaaGreatQA09
import Derived.Test.YtokgmcomgflloaaGreatQA02
import Derived.Test.YtokgmcomgflloaaGreatQA08
set_option maxRecDepth 100000
set_option maxHeartbeats 16000000
namespace Go.Proofs.YtokgmcomgflloaaGreat
section
set_option linter.unusedVariables false
set_option linter.unusedSimpArgs false
open Go.RowKit
variable {w0 w w':World}

def Ce (a b:Int):Int:=if a<b then -1 else if b<a then 1 else 0
theorem pY {a b:Int}:Ce a b=0↔a=b:=by
 unfold Ce
 split
 ·constructor <;> intro h <;> omega
 ·split
  ·constructor <;> intro h <;> omega
  ·constructor <;> intro h <;> omega

def zi (x y:Ct):Int:=if Ce x.a y.a≠0 then Ce x.a y.a else if Ce x.b y.b≠0 then Ce x.b y.b else Ce x.id y.id
def qo (x o:Ct):Bool:=decide (o.a=x.a∧o.b=x.b∧o.id=x.id)
theorem Iq {x y:Ct}:zi x y=0↔qo y x=true:=by
 unfold zi qo;rw [decide_eq_true_iff]
 by_cases h1:Ce x.a y.a=0
 ·rw [if_neg (by simp [h1])]
  by_cases h2:Ce x.b y.b=0
  ·rw [if_neg (by simp [h2]), pY];exact ⟨fun h=>⟨pY.1 h1,pY.1 h2,h⟩,fun h=>h.2.2⟩
  ·rw [if_pos h2];exact ⟨fun h=>absurd h h2,fun h=>absurd (pY.2 h.2.1) h2⟩
 ·rw [if_pos h1];exact ⟨fun h=>absurd h h1,fun h=>absurd (pY.2 h.1) h1⟩

def vI (old:List Ct) (x:Ct):Ct:=match old.find? (qo x) with
 | some o=>{ x with push:=o.push,sli:=o.sli }
 | none=>{ x with push:=0,sli:=0 }
def iR (old fresh:List Ct):List Ct:=fresh.map (vI old)


theorem Nc {old:List Ct} {x:Ct} {k:Nat} (hk:k<old.length) (h:qo x old[k]=true) (hb:∀ i (hi:i<old.length),i<k→qo x old[i]=false):vI old x={ x with push:=old[k].push,sli:=old[k].sli }:=by
 have hf:old.find? (qo x)=some old[k]:=by
  rw [List.find?_eq_some_iff_getElem];exact ⟨h,k,hk,rfl,fun i hi=>by rw [hb i (by omega) hi];rfl⟩
 unfold vI;rw [hf]
theorem Ho {old:List Ct} {x:Ct} (hb:∀ i (hi:i<old.length),qo x old[i]=false):vI old x={ x with push:=0,sli:=0 }:=by
 have hf:old.find? (qo x)=none:=by
  rw [List.find?_eq_none];intro o ho;obtain ⟨i,hi,rfl⟩:=List.mem_iff_getElem.1 ho;rw [hb i hi];simp
 unfold vI;rw [hf]
section
variable {w0 w w':World}
variable {α:Type} {L:Lay α} {e:TypeId}

theorem BZ {t : TypeId} {bytes : Nat} (hT : IY L t e bytes) (ty : TypeId) (w : World) (B : Nat) (v : Value) (l : List α) (hown : aU L e w B v l) (A : Option Addr) (n c : Nat) (m : List α) (hS : dW L w A n c m)
  (hl:l.length+m.length≤8796093022208) (hby:(l.length+m.length)*bytes≤140737488355328) (hB:B≤w.heap.size) :
  ∃ v' w',(Builtin.append_ #[t,t] ty #[v,.slice A n c]).run Tryz.prog w = .ok v' w'∧aU L e w' B v' (l ++ m)∧w.grownBy w' v.ownBlock∧(v'.ownBlock=v.ownBlock∨v'.ownBlock=some w.heap.size):=by
 by_cases h0:m=[]
 ·subst h0;have hn:=hS.len;simp at hn;subst hn;obtain ⟨i0,z,hi,hz0,hz1,hz2,hz3⟩:=hT.hi
  cases A with
  | none =>
   refine ⟨v,w,?_,by simpa using hown,⟨rfl,rfl,rfl,Nat.le_refl _,fun _ _ _=>rfl⟩,.inl rfl⟩
   rcases hown.2 with ⟨rfl,hx⟩ | ⟨g,cap,cur,rfl,_,_,hnc,_⟩
   ·simp [Builtin.append_,run_underlying hT.ht,sizeOf,typeInfo,hi,Builtin.lenOf,Builtin.firstCells]
   ·simp [Builtin.append_,run_underlying hT.ht,sizeOf,typeInfo,hi,Builtin.lenOf,Builtin.firstCells,hnc,storeCells]
  | some ad =>
   obtain ⟨v',w',hr,h2,h3,h4,h5⟩:=run_append_own_at (P:=Tryz.prog) w B t ty e i0 z L.k bytes hT.ht hi hz0 hz1 hz2 hz3 L.pos v l.length (fB L l) hown ad 0 c [] (by simp) (fun j u hj=>by simp at hj) (by simp) (by unfold maxLen;simp at hl;omega) (by simpa using hby) hB;refine ⟨v',w',hr,?_,h3,h5⟩;unfold aU;simpa using h2
 ·obtain ⟨b, off, rfl, hC⟩ := hS.at_ h0;exact nW hT ty w B v l hown b off n c m hS.len hC hl hby hB
theorem kC {t : TypeId} {bytes : Nat} (hT : IY L t e bytes) {w : World} {ops : Array Oper} {rest : List Oper} {o : Oper} {a : Act} {Q : Exit → Act → World → Prop} (hgd : o.guard = none) (s x : Operand)
  (ho:o.op = .call { callee:=.builtin .append,args:=#[s,x],argTypes:=#[t,t] })
  (B:Nat) (v:Value) (l:List α) (hs:a.eval s=v) (hown:aU L e w B v l) (A:Option Addr) (n c:Nat) (m:List α) (hx:a.eval x = .slice A n c) (hS:dW L w A n c m)
  (hl:l.length+m.length≤8796093022208) (hby:(l.length+m.length)*bytes≤140737488355328) (hB:B≤w.heap.size)
  (h:∀ v' w',aU L e w' B v' (l ++ m)→w.grownBy w' v.ownBlock→(v'.ownBlock=v.ownBlock∨v'.ownBlock=some w.heap.size)→wpList Tryz.prog ops Q rest (a.put o.dst v') w'):wpList Tryz.prog ops Q (o :: rest) a w:=by
 obtain ⟨v',w',hr,h2,h3,h5⟩:=BZ hT o.type w B v l hown A n c m hS hl hby hB;refine wpList_plain hgd fun K hK=>?_
 unfold Oper.wp execOp;simp only [ho,resolve,invoke,builtin,Sem.run_bind,Sem.run_pure,Result.andThen_ok,List.map_toArray,List.map_cons,List.map_nil,hs,hx,hr];exact hK _ _ (h v' w' h2 h3 h5)
end
theorem bK {g k:Nat} {L:List BE} {x:BE} (h:aJ jo w g 0 L) (hk:k<L.length) (hx:x=L[k]):w.cell? ⟨g,k*13,none⟩=some (.int .i64 x.b.px)∧w.cell? ⟨g,k*13+1,none⟩=some (.int .i64 x.b.py)∧w.cell? ⟨g,k*13+2,none⟩=some (.int .i64 x.b.vx)∧w.cell? ⟨g,k*13+3,none⟩=some (.int .i64 x.b.vy)∧w.cell? ⟨g,k*13+4,none⟩=some (.int .i64 x.b.ang)∧w.cell? ⟨g,k*13+5,none⟩=some (.int .i64 x.b.spin)∧w.cell? ⟨g,k*13+6,none⟩=some (.int .i64 x.b.mass)∧w.cell? ⟨g,k*13+7,none⟩=some (.int .i64 x.b.iner)∧w.cell? ⟨g,k*13+8,none⟩=some (.int .i64 x.b.bounce)∧w.cell? ⟨g,k*13+9,none⟩=some (.int .i64 x.b.rub)∧w.cell? ⟨g,k*13+10,none⟩=some (.slice x.A x.n x.c)∧w.cell? ⟨g,k*13+11,none⟩=some (.bool x.b.asleep)∧w.cell? ⟨g,k*13+12,none⟩=some (.int .i64 x.b.calm):=by
 have:=dD h hk hx;simpa only [Nat.zero_add] using this

structure Pj (w0 : World) (g : Nat) (L : List BE) (x : Jt) (p1 p2 q1 q2 v1 v2 : Int) (w : World) : Prop where
 j:w.cell? ⟨w0.heap.size,0,none⟩=some (.int .i64 x.a)∧w.cell? ⟨w0.heap.size,1,none⟩=some (.int .i64 x.b)∧w.cell? ⟨w0.heap.size,2,none⟩=some (.int .i64 x.p1)∧w.cell? ⟨w0.heap.size,3,none⟩=some (.int .i64 x.p2)∧w.cell? ⟨w0.heap.size,4,none⟩=some (.int .i64 x.q1)∧w.cell? ⟨w0.heap.size,5,none⟩=some (.int .i64 x.q2)∧w.cell? ⟨w0.heap.size,6,none⟩=some (.int .i64 x.len)
 p:w.cell? ⟨w0.heap.size+1,0,none⟩=some (.int .i64 p1)∧w.cell? ⟨w0.heap.size+1,1,none⟩=some (.int .i64 p2)
 q:w.cell? ⟨w0.heap.size+2,0,none⟩=some (.int .i64 q1)∧w.cell? ⟨w0.heap.size+2,1,none⟩=some (.int .i64 q2)
 v:w.cell? ⟨w0.heap.size+3,0,none⟩=some (.int .i64 v1)∧w.cell? ⟨w0.heap.size+3,1,none⟩=some (.int .i64 v2)
 bl:BL w g L
 bel:Below w0.heap.size w0 w
 lt:g<w0.heap.size
 lo:∀ y ∈ L,∀ bx off,y.A=some ⟨bx,off,none⟩→bx<w0.heap.size
 sz:w0.heap.size+3<w.heap.size
theorem yI {g:Nat} {L:List BE} {x:Jt} {p1 p2 q1 q2 v1 v2:Int} {w w':World} (hb:Below w.heap.size w w') (h:Pj w0 g L x p1 p2 q1 q2 v1 v2 w):Pj w0 g L x p1 p2 q1 q2 v1 v2 w':=by
 obtain ⟨h0,h1,h2,h3,h4,h5,h6⟩:=h.j;exact ⟨⟨keepCell hb h0,keepCell hb h1,keepCell hb h2,keepCell hb h3,keepCell hb h4,keepCell hb h5,keepCell hb h6⟩,⟨keepCell hb h.p.1,keepCell hb h.p.2⟩,⟨keepCell hb h.q.1,keepCell hb h.q.2⟩,⟨keepCell hb h.v.1,keepCell hb h.v.2⟩,fI hb h.bl,aj hb h.bel,h.lt,h.lo,Nat.lt_of_lt_of_le h.sz hb.size⟩
theorem Pj.alloc {g:Nat} {L:List BE} {x:Jt} {p1 p2 q1 q2 v1 v2:Int} {w:World} (h:Pj w0 g L x p1 p2 q1 q2 v1 v2 w) (o:Obj):Pj w0 g L x p1 p2 q1 q2 v1 v2 (w.alloc o):=yI Ba h
theorem Pj.drew {g:Nat} {L:List BE} {x:Jt} {p1 p2 q1 q2 v1 v2:Int} {w:World} (h:Pj w0 g L x p1 p2 q1 q2 v1 v2 w):Pj w0 g L x p1 p2 q1 q2 v1 v2 w.drew:=yI (Below.refl _ _).drew h

theorem BL.off {g k o:Nat} {v:Value} {L:List BE} (h:BL w g L) (hk:k≠g) (hne:∀ x ∈ L,∀ bx off,x.A=some ⟨bx,off,none⟩→bx≠k):BL (w.setCell ⟨k,o,none⟩ v) g L :=
 ⟨⟨by simp;exact h.cl.lt,fun j hj i u hu=>aY hk (h.cl.at_ j hj i u hu)⟩,fun j=>by rw [World.frozen?_setCell];exact h.free j,fun x hx=>(h.co x hx).setAt (hne x hx),h.ne⟩
theorem Pj.set {g:Nat} {L:List BE} {x:Jt} {p1 p2 q1 q2 v1 v2:Int} {w:World} {k o:Nat} {v:Value} (h:Pj w0 g L x p1 p2 q1 q2 v1 v2 w) (hk:w0.heap.size+3<k):Pj w0 g L x p1 p2 q1 q2 v1 v2 (w.setCell ⟨k,o,none⟩ v):=by
 obtain ⟨h0,h1,h2,h3,h4,h5,h6⟩:=h.j;have hlt:=h.lt;have n0:k≠w0.heap.size:=by omega
 have n1:k≠w0.heap.size+1:=by omega
 have n2:k≠w0.heap.size+2:=by omega
 have n3:k≠w0.heap.size+3:=by omega
 exact ⟨⟨aY n0 h0,aY n0 h1,aY n0 h2,aY n0 h3,aY n0 h4,aY n0 h5,aY n0 h6⟩,⟨aY n1 h.p.1,aY n1 h.p.2⟩,⟨aY n2 h.q.1,aY n2 h.q.2⟩,⟨aY n3 h.v.1,aY n3 h.v.2⟩,h.bl.off (by omega) (fun y hy bx off e=>by have:=h.lo y hy bx off e;omega),h.bel.setCell (p:=⟨k,o,none⟩) (by show w0.heap.size≤k;omega) _,h.lt,h.lo,by simp;exact h.sz⟩
theorem Pj.setBd {g:Nat} {L:List BE} {x:Jt} {p1 p2 q1 q2 v1 v2:Int} {w:World} {k:Nat} (h:Pj w0 g L x p1 p2 q1 q2 v1 v2 w) (hk:w0.heap.size+3<k) (b:Bd) (A:Option Addr) (n c:Nat):Pj w0 g L x p1 p2 q1 q2 v1 v2 (Go.Proofs.YtokgmcomgflloaaGreat.setBd w k b A n c):=by
 unfold Go.Proofs.YtokgmcomgflloaaGreat.setBd
 iterate 13 refine Pj.set ?_ hk
 exact h
theorem Oz {g:Nat} {L:List BE} {x:Jt} {p1 p2 q1 q2 v1 v2:Int} {w:World} {gT gU:Nat} (h1:w0.heap.size+3<gT) (h2:w0.heap.size+3<gU) (hne:¬ gT=gU) (h:Pj w0 g L x p1 p2 q1 q2 v1 v2 w) (hT:fD w gT) (hU:fD w gU) (b b':Bd) (A A':Option Addr) (n n' c c':Nat) :
  Pj w0 g L x p1 p2 q1 q2 v1 v2 (setBd (setBd w gT b A n c) gU b' A' n' c')∧aL (setBd (setBd w gT b A n c) gU b' A' n' c') gT b A n c∧aL (setBd (setBd w gT b A n c) gU b' A' n' c') gU b' A' n' c' :=
 ⟨(h.setBd h1 b A n c).setBd h2 b' A' n' c',aL.setBd_offJ (jZ hT b A n c) (fun e=>hne e.symm) b' A' n' c',jZ (hU.setBd b A n c) b' A' n' c'⟩
theorem pO {l:List V} (h:bH l=0):l.length≤8:=by
 unfold bH at h
 by_cases hc:8<l.length
 ·rw [if_pos hc] at h;cases h
 ·omega
theorem Jk {g o k o':Nat} {u:Value} {b:Bd} {A:Option Addr} {n c:Nat} (hne:g≠k) (h:w.cell? ⟨k,o',none⟩=some u):(fF w g o b A n c).cell? ⟨k,o',none⟩=some u:=by
 unfold fF
 iterate 13 refine aY hne ?_
 exact h
theorem JC {L:List BE} {ka kb:Nat} (hka:ka<L.length) (hkb:kb<L.length) (hab:ka≠kb) (p1 p2 q1 q2 j1 j2:Int) (xa xb:BE) (ha:aF xa=(lY L[ka].b (-j1) (-j2) p1 p2,L[ka].l)) (hb:aF xb=(lY L[kb].b j1 j2 q1 q2,L[kb].l)):((L.set ka xa).set kb xb).map aF=pK (L.map aF) ka kb p1 p2 q1 q2 j1 j2:=by
 have e1:(L.map aF)[ka]? = some (aF L[ka]):=by rw [List.getElem?_map,List.getElem?_eq_getElem hka];rfl
 have e2:(L.map aF)[kb]? = some (aF L[kb]):=by rw [List.getElem?_map,List.getElem?_eq_getElem hkb];rfl
 unfold pK;rw [iY rfl e1,iY rfl e2,wE e1,wE (y:=aF L[kb]) (by rw [List.getElem?_set_ne hab];exact e2),List.map_set,List.map_set,ha,hb];rfl
def G5 (g:Nat) (L:List BE) (Q:List QB) (w:World) (e:Ending) (w':World):Prop:=∃ L':List BE,e = .returned (.tuple #[])∧BL w' g L'∧L'.map aF=Q∧w.grownBy w' (some g)
end
section
set_option linter.unusedVariables false
set_option linter.unusedSimpArgs false
open Go.ChangeShapes Go.WideShapes Go.ChangeAt Go.RowKit Go.Deep Go.Joins
variable {w0 w w':World}
section
variable {w0 w w':World}
variable {H:Type} {enc:TypeId × Value→H} {W:World} {held:Bool} {base:Nat} {sp:Nat→Bool}


end
end
section
set_option linter.unusedVariables false
set_option linter.unusedSimpArgs false
open Go.RowKit
variable {w0 w w':World}
theorem L9 (x y u v:Int) (w:World):(Op.equalIn 10000 24 (.agg #[.int .i64 x,.int .i64 y]) (.agg #[.int .i64 u,.int .i64 v])).run Tryz.prog w = .ok (x == u && y == v) w:=by
 have hS:Tryz.prog.underlying 24=some (.struct (Tryz.prog.fieldsOf 24)):=by kernel_rfl
 have hp:Tryz.prog.stoodInHeld 24=false:=by kernel_rfl
 rw [show (10000:Nat)=9999+1 from rfl,run_equalIn_agg w 9999 24 _ _ hS hp];simp only [Program.fieldsOf,Tryz.underlying24];go_simp
 by_cases h1:x=u <;> by_cases h2:y=v <;> simp [h1,h2]
theorem CU {Q:List QB} {x:Jt} {st:Int} (h:x.len=0):gG Q x st=jE (jE Q x 65536 0 (GX Q x) st) x 0 65536 (IW Q x) st:=by unfold gG;rw [if_pos h]
theorem DX {Q:List QB} {x:Jt} {st:Int} (h:¬ x.len=0) (h0:GX Q x=0∧IW Q x=0):gG Q x st=jE Q x 65536 0 (rE (GX Q x) (IW Q x)-x.len) st:=by unfold gG OG OE;rw [if_neg h,if_pos h0,if_pos h0]
theorem FX {Q:List QB} {x:Jt} {st:Int} (h:¬ x.len=0) (h0:¬ (GX Q x=0∧IW Q x=0)):gG Q x st=jE Q x (ko (GX Q x) (IW Q x)) (ku (GX Q x) (IW Q x)) (rE (GX Q x) (IW Q x)-x.len) st:=by unfold gG OG OE;rw [if_neg h,if_neg h0,if_neg h0]
theorem Jm:rE 0 0=0:=by kernel_rfl
def vW (L:List BE) (J:List Jt) (st r:Int):Int:=if bS L J≠0 then bS L J else if st<1∨65536<st∨r<0∨32<r then 1 else 0
def BS (L:List BE) (J:List Jt) (st r:Int):List QB:=if vW L J st r=0 then jV (L.map aF) J st r.toNat else []
def wW (E:Int) (Q:List QB) (w:World) (e:Ending) (w':World):Prop:=∃ (A:Option Addr) (n c:Nat) (L':List BE),e = .returned (.tuple #[.slice A n c,.int .i64 E])∧iH w' A n c L'∧L'.map aF=Q∧Below w.heap.size w w'

structure Vg (w : World) (g : Nat) (x y : Int) : Prop where
 a:w.cell? ⟨g,0,none⟩=some (.int .i64 x)
 b:w.cell? ⟨g,1,none⟩=some (.int .i64 y)
theorem dL {g:Nat} {x y:Int} (hb:Below w.heap.size w w') (h:Vg w g x y):Vg w' g x y:=⟨keepCell hb h.a,keepCell hb h.b⟩
theorem Vg.drew {g:Nat} {x y:Int} (h:Vg w g x y):Vg w.drew g x y:=⟨h.a,h.b⟩
theorem Vg.next {g k:Nat} {x y:Int} (h:Vg w g x y) (hg:w.grownBy w' (some k)) (hne:g≠k):Vg w' g x y :=
 ⟨(World.cell?_of_block (hg.block g (lt_of_cell h.a) (by simpa using hne))).trans h.a,(World.cell?_of_block (hg.block g (lt_of_cell h.a) (by simpa using hne))).trans h.b⟩
structure Jg (w : World) (g : Nat) (x : Jt) : Prop where
 c0:w.cell? ⟨g,0,none⟩=some (.int .i64 x.a)
 c1:w.cell? ⟨g,1,none⟩=some (.int .i64 x.b)
 c2:w.cell? ⟨g,2,none⟩=some (.int .i64 x.p1)
 c3:w.cell? ⟨g,3,none⟩=some (.int .i64 x.p2)
 c4:w.cell? ⟨g,4,none⟩=some (.int .i64 x.q1)
 c5:w.cell? ⟨g,5,none⟩=some (.int .i64 x.q2)
 c6:w.cell? ⟨g,6,none⟩=some (.int .i64 x.len)
theorem mK {g:Nat} {x:Jt} (hb:Below w.heap.size w w') (h:Jg w g x):Jg w' g x :=
 ⟨keepCell hb h.c0,keepCell hb h.c1,keepCell hb h.c2,keepCell hb h.c3,keepCell hb h.c4,keepCell hb h.c5,keepCell hb h.c6⟩
theorem Jg.alloc {g:Nat} {x:Jt} (h:Jg w g x) (o:Obj):Jg (w.alloc o) g x:=mK Ba h
theorem Vg.alloc {g:Nat} {x y:Int} (h:Vg w g x y) (o:Obj):Vg (w.alloc o) g x y:=dL Ba h
theorem Jg.drew {g:Nat} {x:Jt} (h:Jg w g x):Jg w.drew g x:=mK (Below.refl _ _).drew h
theorem Jg.next {g k:Nat} {x:Jt} (h:Jg w g x) (hg:w.grownBy w' (some k)) (hne:g≠k):Jg w' g x :=
 have e:=hg.block g (lt_of_cell h.c0) (by simpa using hne)
 ⟨(World.cell?_of_block e).trans h.c0,(World.cell?_of_block e).trans h.c1,(World.cell?_of_block e).trans h.c2,(World.cell?_of_block e).trans h.c3,(World.cell?_of_block e).trans h.c4,(World.cell?_of_block e).trans h.c5,(World.cell?_of_block e).trans h.c6⟩

structure RJ (w0 : World) (s : Value) (L' : List BE) (w : World) : Prop where
 own:aU jo 27 w w0.heap.size s L'
 co:∀ x ∈ L',Sl w x.A x.n x.c x.l∧x.l≠[]∧∀ bx off,x.A=some ⟨bx,off,none⟩→w0.heap.size≤bx∧some bx≠s.ownBlock
 bel:Below w0.heap.size w0 w
theorem LC {s:Value} {L':List BE} {w w':World} (hb:Below w.heap.size w w') (h:RJ w0 s L' w):RJ w0 s L' w' :=
 ⟨h.own.below hb,fun x hx=>⟨(h.co x hx).1.below hb,(h.co x hx).2⟩,aj hb h.bel⟩
theorem jh {A:Option Addr} {n c:Nat} {l:List V} {row:Option Nat} (h:Sl w A n c l) (hg:w.grownBy w' row) (hne:∀ b off,A=some ⟨b,off,none⟩→some b≠row):Sl w' A n c l:=by
 cases row with
 | none=>exact h.below ⟨hg.os,hg.tape,hg.output,hg.size,fun k hk=>hg.block k hk (by simp)⟩
 | some g=>exact h.grown hg (fun b off e=>fun e2=>hne b off e (by rw [e2]))
theorem kI {A:Option Addr} {n c:Nat} {l:List V} (h:Sl w A n c l) (hl:l≠[]):∀ bx off,A=some ⟨bx,off,none⟩→bx<w.heap.size:=fun bx off e=>by
 obtain ⟨b',off',e',hc⟩:=h.at_ hl;rw [e] at e';cases e';exact hc.lt
theorem RJ.set {w0 wb:World} {s:Value} {L':List BE} {w:World} (hb:RJ w0 s L' wb) (h:RJ w0 s L' w) {k o:Nat} {v:Value} (hk:wb.heap.size≤k):RJ w0 s L' (w.setCell ⟨k,o,none⟩ v):=by
 have hs:=hb.bel.size;refine ⟨h.own.off (fun j hj=>by have:=(hb.own.lt hj).2;omega) o v,fun x hx=>?_,h.bel.setCell (p:=⟨k,o,none⟩) (by show w0.heap.size≤k;omega) _⟩;obtain ⟨h1,h2,h3⟩:=h.co x hx;exact ⟨h1.setAt (fun bx off e=>by have:=kI (hb.co x hx).1 h2 bx off e;omega),h2,h3⟩
theorem RJ.push {w0 wb : World} {s s' : Value} {L' : List BE} {w w7 : World} {o : Obj} {y : BE} (hb : RJ w0 s L' wb) (h : RJ w0 s L' w) (hS : Sl w y.A y.n y.c y.l) (hl : y.l ≠ []) (hf : ∀ bx off, y.A = some ⟨bx, off, none⟩ → wb.heap.size ≤ bx)
  (ho:aU jo 27 w7 w0.heap.size s' (L' ++ [y])) (hg:(w.alloc o).grownBy w7 s.ownBlock) (hat:s'.ownBlock=s.ownBlock∨s'.ownBlock=some (w.alloc o).heap.size):RJ w0 s' (L' ++ [y]) w7:=by
 have hsb:=hb.bel.size;have hsw:=h.bel.size;have hsa:(w.alloc o).heap.size=w.heap.size+1:=by simp
 have hga:w.grownBy (w.alloc o) s.ownBlock:=World.grownBy_alloc _ _ _;have hg7:w.grownBy w7 s.ownBlock:=aS hga hg
 have nblk:∀ {z:BE},Sl w z.A z.n z.c z.l→z.l≠[]→(∀ bx off,z.A=some ⟨bx,off,none⟩→some bx≠s.ownBlock)→∀ bx off,z.A=some ⟨bx,off,none⟩→some bx≠s'.ownBlock:=fun {z} hs hne hno bx off e e2=>by
  have:=kI hs hne bx off e
  rcases hat with q | q
  ·exact hno bx off e (e2.trans q)
  ·rw [q,hsa] at e2;cases e2;omega
 have hnw:∀ bx off,y.A=some ⟨bx,off,none⟩→some bx≠s.ownBlock:=fun bx off e e2=>by have:=hf bx off e;have:=(hb.own.lt e2.symm).2;omega
 refine ⟨ho,fun x hx=>?_,h.bel.grown hg7 (by omega) (fun k hk=>(hb.own.lt hk).1)⟩
 rcases List.mem_append.1 hx with hx | hx
 ·obtain ⟨h1, h2, h3⟩ := h.co x hx;exact ⟨jh h1 hg7 (fun bx off e=>(h3 bx off e).2),h2,fun bx off e=>⟨(h3 bx off e).1,nblk h1 h2 (fun bx off e=>(h3 bx off e).2) bx off e⟩⟩
 ·rw [List.mem_singleton.1 hx];exact ⟨jh hS hg7 hnw,hl,fun bx off e=>⟨by have:=hf bx off e;omega,nblk hS hl hnw bx off e⟩⟩

def RV (w0:World) (v:Value) (Q:List QB) (w:World):Prop:=∃ L1:List BE,L1.map aF=Q∧Below w0.heap.size w0 w∧((v = .slice none 0 0∧L1=[])∨∃ g cap,v = .slice (some ⟨g,0,none⟩) L1.length cap∧w0.heap.size≤g∧L1.length≤cap∧cap≤maxLen∧BL w g L1)
theorem RJ.rv {s:Value} {L':List BE} {w:World} (h:RJ w0 s L' w):RV w0 s (L'.map aF) w:=by
 refine ⟨L',rfl,h.bel,?_⟩
 rcases h.own.form with ⟨h1,h2⟩ | ⟨g,cap,hv,h1,h2,h3,h4,h5,h6⟩
 ·exact .inl ⟨h1,h2⟩
 ·refine .inr ⟨g, cap, hv, h1, h3, h4, ⟨h6, h5, fun x hx => (h.co x hx).1, fun x hx bx off e => fun e2 => ?_⟩⟩;have:=((h.co x hx).2.2 bx off e).2;rw [hv,e2] at this;exact this rfl
theorem RV.ret {v:Value} {Q:List QB} {w:World} (h:RV w0 v Q w) (hl:Q.length≤64):∃ A n c L',v = .slice A n c∧iH w A n c L'∧L'.map aF=Q∧Below w0.heap.size w0 w:=by
 obtain ⟨L1,hq,hB,⟨rfl,rfl⟩ | ⟨g,cap,rfl,h1,h2,h3,hbl⟩⟩:=h
 ·exact ⟨none,0,0,[],rfl,⟨dW.nil _ _,fun x hx=>by cases hx⟩,hq,hB⟩
 ·exact ⟨_,_,_,L1,rfl,⟨⟨rfl,h2,by unfold maxLen at h3;omega,fun _=>⟨g,0,rfl,hbl.cl⟩⟩,hbl.co⟩,hq,hB⟩

structure Rj (w0 : World) (B g : Nat) (L : List BE) (w : World) : Prop where
 bl:BL w g L
 bel:Below w0.heap.size w0 w
 ge:w0.heap.size≤g
 gB:g<B
 hi:∀ y ∈ L,∀ bx off,y.A=some ⟨bx,off,none⟩→bx<B
 Bw:B≤w.heap.size
theorem mJ {B g:Nat} {L:List BE} {w w':World} (hb:Below w.heap.size w w') (h:Rj w0 B g L w):Rj w0 B g L w' :=
 ⟨fI hb h.bl,aj hb h.bel,h.ge,h.gB,h.hi,Nat.le_trans h.Bw hb.size⟩
theorem Rj.drew {B g:Nat} {L:List BE} {w:World} (h:Rj w0 B g L w):Rj w0 B g L w.drew:=mJ (Below.refl _ _).drew h
theorem Rj.alloc {B g:Nat} {L:List BE} {w:World} (h:Rj w0 B g L w) (o:Obj):Rj w0 B g L (w.alloc o):=mJ Ba h
theorem Rj.set {B g:Nat} {L:List BE} {w:World} (h:Rj w0 B g L w) {k o:Nat} {v:Value} (hk:B≤k):Rj w0 B g L (w.setCell ⟨k,o,none⟩ v) :=
 ⟨h.bl.off (by have:=h.gB;omega) (fun y hy bx off e=>by have:=h.hi y hy bx off e;omega),h.bel.setCell (p:=⟨k,o,none⟩) (by show w0.heap.size≤k;have:=h.gB;have:=h.ge;omega) _,h.ge,h.gB,h.hi,by simp;exact h.Bw⟩
theorem Rj.of {g:Nat} {L:List BE} {w:World} (h:BL w g L) (hB:Below w0.heap.size w0 w) (hg:w0.heap.size≤g) (hv:∀ x ∈ L,aT x.b x.l=0):Rj w0 w.heap.size g L w :=
 ⟨h,hB,hg,h.cl.lt,fun y hy=>kI (h.co y hy) (fun e=>by have:=hv y hy;rw [e] at this;exact absurd (bJ this).1 (by decide)),Nat.le_refl _⟩
theorem Rj.next {B g:Nat} {L:List BE} {w w':World} (h:Rj w0 B g L w) (hg:w.grownBy w' (some g)):Below w0.heap.size w0 w':=h.bel.trans (jF hg h.bel.size h.ge)
theorem Rj.slb {B g cap:Nat} {L:List BE} {w:World} (h:Rj w0 B g L w) (h2:L.length≤cap) (h3:cap≤maxLen):iH w (some ⟨g,0,none⟩) L.length cap L:=⟨⟨rfl,h2,by unfold maxLen at h3;omega,fun _=>⟨g,0,rfl,h.bl.cl⟩⟩,h.bl.co⟩
theorem mQ (A:Option Addr) (n c:Nat) (l:List Ct) (w:World) (hS:dW bZ w A n c l) (hl:l.length≤100000):Calls Tryz.prog 114 #[.slice A n c] w fun e w'=>∃ s,e = .returned s∧aU bZ 106 w' w.heap.size s l∧Below w.heap.size w w':=by
 have hcmp:∀ w':World,(binOp .eql 31 (.slice A n c) (.slice none 0 0)).run Tryz.prog w' = .ok (.bool A.isNone) w':=fun w'=>Lib.run_eql_slice_nil w' 31 _ A n c 0 0 Tryz.underlying31
 cases A with
 | none =>
  have hl0:l=[]:=by
   rcases l with _ | ⟨a,r⟩
   ·rfl
   ·obtain ⟨b,off,h,_⟩:=hS.at_ (by simp);cases h
  subst hl0;clear hS
  go_enter Tryz.func114,Tryz.ntmps114
  go_wp2;refine bodyPost_ret (v:=.slice none 0 0) (by simp [results,Tryz.results114,go_sem]) rfl ⟨_,rfl,aU.nil _ _ _ _,Below.refl _ _⟩
 | some ad =>
  have hn:=hS.len;have HS:=hid hS;clear hS;subst hn;have HO:Hid (aU bZ 106 (w.alloc (.cells #[] 106)) w.heap.size (.slice (some ⟨w.heap.size,0,none⟩) 0 0) []):=⟨by simp [fB],.inr ⟨w.heap.size,0,#[],rfl,Nat.le_refl _,heap_alloc_new w _,Nat.le_refl _,Nat.zero_le _,by simp,by simp [fB]⟩⟩;have hb0:Below w.heap.size w (w.alloc (.cells #[] 106)):=by go_grown
  go_enter Tryz.func114,Tryz.ntmps114
  go_wp2_with (at_builtin;refine kC zK rfl _ _ rfl w.heap.size _ [] rfl HO.out _ _ _ l rfl (HS.out.below hb0) (by first | omega | (simp;omega)) (by first | omega | (simp;omega)) (by simp) ?_;intro v' w1 ho1 hg1 hat;have HO1:=hid ho1;have hb1:=hid (hb0.grown hg1 (by simp) (fun k hk=>(HO.out.lt hk).1));clear ho1 hg1 hat)
  obtain ⟨A',n',c',rfl,-,-⟩:=HO1.out.sl;refine bodyPost_ret (v:=.slice A' n' c') (by simp [results,Tryz.results114,go_sem]) rfl ⟨_,rfl,by simpa using HO1.out,hb1.out⟩
end
end Go.Proofs.YtokgmcomgflloaaGreat
