/- Parts of a proof: contracts and laws. -/
import Derived.Test.YtiaoandbdgdecaaGreatPK11
import Derived.Test.YtiaoandbdgdecaaGreatPK12
import Derived.Test.YtiaoandbdgdecaaGreatPK08
import Derived.Test.YtiaoandbdgdecaaGreatPK10
import Derived.Shelf.LaySoft
import Derived.Shelf.SlicesG.Cmp
set_option maxRecDepth 100000
set_option maxHeartbeats 16000000
namespace Go.Proofs.YtiaoandbdgdecaaGreat
section
set_option linter.unusedVariables false
set_option linter.unusedSimpArgs false
open Go.RowKit

structure Jt where
 a:Int
 b:Int
 p1:Int
 p2:Int
 q1:Int
 q2:Int
 len:Int
end
end Go.Proofs.YtiaoandbdgdecaaGreat
namespace Go.Proofs.YtiaoandbdgdecaaGreat
section
set_option linter.unusedVariables false
set_option linter.unusedSimpArgs false
open Go.RowKit

structure Ct where
 a:Int
 b:Int
 id:Int
 px:Int
 py:Int
 nx:Int
 ny:Int
 dep:Int
 push:Int
 sli:Int
def encC (x:Ct):List Value:=[.int .i64 x.a,.int .i64 x.b,.int .i64 x.id,.int .i64 x.px,.int .i64 x.py,.int .i64 x.nx,.int .i64 x.ny,.int .i64 x.dep,.int .i64 x.push,.int .i64 x.sli]
def layC:Lay Ct:=⟨encC,10,fun _=>rfl,fun x v hv=>by simp only [encC,List.mem_cons,List.mem_nil_iff,or_false] at hv;rcases hv with rfl | rfl | rfl | rfl | rfl | rfl | rfl | rfl | rfl | rfl <;> rfl,by omega⟩
abbrev ctV (x:Ct):Value:=.agg #[.int .i64 x.a,.int .i64 x.b,.int .i64 x.id,.int .i64 x.px,.int .i64 x.py,.int .i64 x.nx,.int .i64 x.ny,.int .i64 x.dep,.int .i64 x.push,.int .i64 x.sli]
theorem info_contact:(Tryz.prog.info? 40).map (fun i=>(i.zero,i.size,i.bytes))=some (some (.agg #[.int .i64 0,.int .i64 0,.int .i64 0,.int .i64 0,.int .i64 0,.int .i64 0,.int .i64 0,.int .i64 0,.int .i64 0,.int .i64 0]),10,80):=by kernel_rfl
theorem tyContact:TyE layC 25 40 80:=⟨Tryz.underlying25,by obtain ⟨i0,hi,hz0,hz1,hz2⟩:=info_parts info_contact;exact ⟨i0,_,hi,hz0,hz1,hz2,rfl⟩⟩
theorem cells_ct {w:World} {b off k:Nat} {l:List Ct} {x:Ct} (h:CellsE layC w b off l) (hk:k<l.length) (hx:x=l[k]):w.cell? ⟨b,off+k*10,none⟩=some (.int .i64 x.a)∧w.cell? ⟨b,off+k*10+1,none⟩=some (.int .i64 x.b)∧w.cell? ⟨b,off+k*10+2,none⟩=some (.int .i64 x.id)∧w.cell? ⟨b,off+k*10+3,none⟩=some (.int .i64 x.px)∧w.cell? ⟨b,off+k*10+4,none⟩=some (.int .i64 x.py)∧w.cell? ⟨b,off+k*10+5,none⟩=some (.int .i64 x.nx)∧w.cell? ⟨b,off+k*10+6,none⟩=some (.int .i64 x.ny)∧w.cell? ⟨b,off+k*10+7,none⟩=some (.int .i64 x.dep)∧w.cell? ⟨b,off+k*10+8,none⟩=some (.int .i64 x.push)∧w.cell? ⟨b,off+k*10+9,none⟩=some (.int .i64 x.sli):=by
 subst hx
 exact ⟨h.at_ k hk 0 _ rfl,h.at_ k hk 1 _ rfl,h.at_ k hk 2 _ rfl,h.at_ k hk 3 _ rfl,h.at_ k hk 4 _ rfl,h.at_ k hk 5 _ rfl,h.at_ k hk 6 _ rfl,h.at_ k hk 7 _ rfl,h.at_ k hk 8 _ rfl,h.at_ k hk 9 _ rfl⟩
theorem cells_ct_one {w:World} {g:Nat} {x:Ct} (h0:w.cell? ⟨g,0,none⟩=some (.int .i64 x.a)) (h1:w.cell? ⟨g,1,none⟩=some (.int .i64 x.b)) (h2:w.cell? ⟨g,2,none⟩=some (.int .i64 x.id)) (h3:w.cell? ⟨g,3,none⟩=some (.int .i64 x.px)) (h4:w.cell? ⟨g,4,none⟩=some (.int .i64 x.py)) (h5:w.cell? ⟨g,5,none⟩=some (.int .i64 x.nx)) (h6:w.cell? ⟨g,6,none⟩=some (.int .i64 x.ny)) (h7:w.cell? ⟨g,7,none⟩=some (.int .i64 x.dep)) (h8:w.cell? ⟨g,8,none⟩=some (.int .i64 x.push)) (h9:w.cell? ⟨g,9,none⟩=some (.int .i64 x.sli)):CellsE layC w g 0 [x]:=by
 refine ⟨lt_of_cell h0,fun j hj i v hv=>?_⟩
 have hj0:j=0:=by simpa using hj
 subst hj0
 rw [Nat.zero_mul,Nat.zero_add]
 try rw [Nat.zero_add]
 have hv:(encC x)[i]? = some v:=hv
 unfold encC at hv
 match i,hv with
 | 0,hv=>have e:some _=some v:=hv;cases e;exact h0
 | 1,hv=>have e:some _=some v:=hv;cases e;exact h1
 | 2,hv=>have e:some _=some v:=hv;cases e;exact h2
 | 3,hv=>have e:some _=some v:=hv;cases e;exact h3
 | 4,hv=>have e:some _=some v:=hv;cases e;exact h4
 | 5,hv=>have e:some _=some v:=hv;cases e;exact h5
 | 6,hv=>have e:some _=some v:=hv;cases e;exact h6
 | 7,hv=>have e:some _=some v:=hv;cases e;exact h7
 | 8,hv=>have e:some _=some v:=hv;cases e;exact h8
 | 9,hv=>have e:some _=some v:=hv;cases e;exact h9
 | i+10,hv=>simp at hv

def CtOk (n:Nat) (x:Ct):Prop:=(0≤x.a∧x.a<x.b∧x.b<(n:Int)∧0≤x.id)∧(-65536000≤x.px∧x.px≤65536000 ∧ -65536000≤x.py∧x.py≤65536000)∧(-65536≤x.nx∧x.nx≤65536 ∧ -65536≤x.ny∧x.ny≤65536)∧(0≤x.dep∧x.dep≤65536000)∧(0≤x.push∧x.push≤1099511627776)∧(-1099511627776≤x.sli∧x.sli≤1099511627776)
instance (n:Nat) (x:Ct):Decidable (CtOk n x):=by unfold CtOk;infer_instance
end
end Go.Proofs.YtiaoandbdgdecaaGreat
namespace Go.Proofs.YtiaoandbdgdecaaGreat
section
set_option linter.unusedVariables false
set_option linter.unusedSimpArgs false
open Go.ChangeShapes Go.WideShapes Go.ChangeAt Go.RowKit Go.Deep Go.Joins
theorem cells_contact9:Tryz.prog.cellsOf 40=10:=by kernel_rfl
theorem list_ct {P:Nat→Ct→Prop} (n:Nat) (h:∀ i,i<n→∃ x,P i x):∃ l:List Ct,l.length=n∧∀ i (hi:i<l.length),P i l[i]:=by
 induction n with
 | zero=>exact ⟨[],rfl,fun i hi=>absurd hi (by simp)⟩
 | succ n ih =>
  obtain ⟨l,hl,hp⟩:=ih fun i hi=>h i (by omega)
  obtain ⟨x,hx⟩:=h n (by omega)
  refine ⟨l ++ [x],by simp [hl],fun i hi=>?_⟩
  by_cases e:i<l.length
  ·rw [List.getElem_append_left e];exact hp i e
  ·have ei : i = n := by simp at hi; omega
   subst ei
   rw [List.getElem_append_right (by omega)]
   simpa [hl] using hx
section
variable {H:Type} {enc:TypeId × Value→H} {W:World} {held:Bool} {base:Nat} {sp:Nat→Bool}

theorem open_ct {fuel:Nat} {cl:List Value} {x:DataW H × List MemPlace} (hcs:cl.length=10) (hf:DataW.trod enc Tryz.prog W base (fun _=>true) held fuel 40 cl=some x):∃ e:Ct,cl=encC e:=by
 obtain ⟨xs,m,_,hx,hlen,hxl,hg⟩:=DataW.trod_struct Tryz.underlying40 hf
 match cl,hcs with
 | [c0,c1,c2,c3,c4,c5,c6,c7,c8,c9],_ =>
  match xs,hxl with
  | [x0,x1,x2,x3,x4,x5,x6,x7],_ =>
   obtain ⟨a0,e0⟩:=open_int_c7 (by simpa [Value.cells,cells_int] using hg 0 _ rfl)
   obtain ⟨a1,e1⟩:=open_int_c7 (by simpa [Value.cells,cells_int] using hg 1 _ rfl)
   obtain ⟨a2,e2⟩:=open_int_c7 (by simpa [Value.cells,cells_int] using hg 2 _ rfl)
   obtain ⟨a3,a4,e3,e4⟩:=open_vec_c7 (by simpa [Value.cells,cells_vec] using hg 3 _ rfl)
   obtain ⟨a5,a6,e5,e6⟩:=open_vec_c7 (by simpa [Value.cells,cells_vec] using hg 4 _ rfl)
   obtain ⟨a7,e7⟩:=open_int_c7 (by simpa [Value.cells,cells_int] using hg 5 _ rfl)
   obtain ⟨a8,e8⟩:=open_int_c7 (by simpa [Value.cells,cells_int] using hg 6 _ rfl)
   obtain ⟨a9,e9⟩:=open_int_c7 (by simpa [Value.cells,cells_int] using hg 7 _ rfl)
   subst e0 e1 e2 e3 e4 e5 e6 e7 e8 e9
   exact ⟨⟨a0,a1,a2,a3,a4,a5,a6,a7,a8,a9⟩,rfl⟩

theorem open_contacts {r:Reach} {b0:Nat} {v:Value} {d:DataW H} {p:List MemPlace} (hv:Value.okWide Tryz.prog W r b0 25 v) (h:DataW.Trod enc Tryz.prog W base (fun _=>true) held 25 v d p) :
  ∃ A n c L,v = .slice A n c∧SlE layC W A n c L:=by
 obtain ⟨A,n,c,rfl⟩:=okWide_slice Tryz.underlying25 hv
 obtain ⟨fuel,hf⟩:=h
 rcases open_slice Tryz.underlying25 hf with ⟨hcs,_⟩ | ⟨a,len,cap,m,k,D,Pl,hcs,_,hl,hm,hmm,_,hi⟩
 ·have e : Value.slice A n c = .slice none 0 0 := by simpa [Value.cells] using hcs
  injection e with e1 e2 e3
  subst e1 e2 e3
  exact ⟨none,0,0,[],rfl,SlE.nil _ _⟩
 ·have e : Value.slice A n c = .slice (some a) len cap := by simpa [Value.cells] using hcs
  injection e with e1 e2 e3
  subst e1 e2 e3
  rw [if_pos rfl] at hmm
  subst hmm
  have hcell:∀ i,i<n→∃ x:Ct,∀ j v,(encC x)[j]? = some v→W.cell? (a.add (i*10+j))=some v:=by
   intro i him
   obtain ⟨cs',hc,ht'⟩:=hi i (by omega)
   rw [cells_contact9] at hc
   obtain ⟨_,hcl,hat⟩:=World.cells?_some hc
   obtain ⟨x,hx⟩:=open_ct hcl ht'
   refine ⟨x,fun j v hj=>?_⟩
   have hj13:j<cs'.length:=by
    rcases Nat.lt_or_ge j cs'.length with g | g
    ·exact g
    ·rw [hx] at g;rw [List.getElem?_eq_none g] at hj;cases hj
   have:=hat j (by omega)
   rw [Go.Deep.add_add] at this
   rw [this]
   subst hx
   first | exact hj | (rw [List.getElem?_eq_getElem hj13] at hj;exact hj)
  obtain ⟨L,hll,hlc⟩:=list_ct n hcell
  have hone:L≠[]→∃ b off,a=⟨b,off,none⟩∧b<W.heap.size:=fun hne=>by
   have hn:0<L.length:=by
    rcases Nat.eq_zero_or_pos L.length with h0 | h0
    ·exact absurd (List.length_eq_zero_iff.1 h0) hne
    ·exact h0
   obtain ⟨b,off,spot⟩:=a
   have c0:=hlc 0 hn 0 _ rfl
   have hspot:spot=none:=by
    have:=World.cell?_spot c0
    simpa [Addr.add] using this
   subst hspot
   refine ⟨b,off,rfl,?_⟩
   simp [Addr.add] at c0
   rcases Nat.lt_or_ge b W.heap.size with h1 | h1
   ·exact h1
   ·have e : W.heap[b]? = none := Array.getElem?_eq_none h1
    simp [World.cell?,e] at c0
  refine ⟨_,_,_,L,rfl,⟨hll.symm,hl,by unfold maxLen at hm;omega,fun hne=>?_⟩⟩
  ·obtain ⟨b, off, rfl, hb⟩ := hone hne
   refine ⟨b,off,rfl,hb,fun j hj i v hv=>?_⟩
   have:=hlc j hj i v hv
   rwa [add_plain,← Nat.add_assoc] at this
end
end
end Go.Proofs.YtiaoandbdgdecaaGreat
namespace Go.Proofs.YtiaoandbdgdecaaGreat
section
set_option linter.unusedVariables false
set_option linter.unusedSimpArgs false
open Go.RowKit

def sgK (a b:Int):Int:=if a<b then -1 else if b<a then 1 else 0
theorem sgK_zero {a b:Int}:sgK a b=0↔a=b:=by
 unfold sgK
 split
 ·constructor <;> intro h <;> omega
 ·split
  ·constructor <;> intro h <;> omega
  ·constructor <;> intro h <;> omega

def ordC (x y:Ct):Int:=if sgK x.a y.a≠0 then sgK x.a y.a else if sgK x.b y.b≠0 then sgK x.b y.b else sgK x.id y.id
def sameK (x o:Ct):Bool:=decide (o.a=x.a∧o.b=x.b∧o.id=x.id)
theorem ordC_zero {x y:Ct}:ordC x y=0↔sameK y x=true:=by
 unfold ordC sameK
 rw [decide_eq_true_iff]
 by_cases h1:sgK x.a y.a=0
 ·rw [if_neg (by simp [h1])]
  by_cases h2:sgK x.b y.b=0
  ·rw [if_neg (by simp [h2]), sgK_zero]
   exact ⟨fun h=>⟨sgK_zero.1 h1,sgK_zero.1 h2,h⟩,fun h=>h.2.2⟩
  ·rw [if_pos h2]
   exact ⟨fun h=>absurd h h2,fun h=>absurd (sgK_zero.2 h.2.1) h2⟩
 ·rw [if_pos h1]
  exact ⟨fun h=>absurd h h1,fun h=>absurd (sgK_zero.2 h.1) h1⟩

def carC (old:List Ct) (x:Ct):Ct:=match old.find? (sameK x) with
 | some o=>{ x with push:=o.push,sli:=o.sli }
 | none=>{ x with push:=0,sli:=0 }
def carL (old fresh:List Ct):List Ct:=fresh.map (carC old)
theorem drop_find {old:List Ct} {p:Ct→Bool} {j:Nat} (hj:j<old.length):(old.drop j).find? p=if p old[j]=true then some old[j] else (old.drop (j+1)).find? p:=by
 rw [List.drop_eq_getElem_cons hj,List.find?_cons]
 cases p old[j] <;> rfl

def carB (old:List Ct) (x:Ct) (j:Nat):Ct:=carC (old.drop j) x
theorem carB_top (old:List Ct) (x:Ct):carB old x old.length={ x with push:=0,sli:=0 }:=by
 unfold carB carC
 rw [List.drop_length]
 rfl
theorem carB_zero (old:List Ct) (x:Ct):carB old x 0=carC old x:=by unfold carB;rw [List.drop_zero]
theorem carB_step {old:List Ct} {x:Ct} {j:Nat} (hj:j<old.length):carB old x j=if sameK x old[j]=true then { x with push:=old[j].push,sli:=old[j].sli } else carB old x (j+1):=by
 unfold carB carC
 rw [drop_find hj]
 by_cases h:sameK x old[j]=true
 ·rw [if_pos h,if_pos h]
 ·rw [if_neg h,if_neg h]

theorem carC_at {old:List Ct} {x:Ct} {k:Nat} (hk:k<old.length) (h:sameK x old[k]=true) (hb:∀ i (hi:i<old.length),i<k→sameK x old[i]=false):carC old x={ x with push:=old[k].push,sli:=old[k].sli }:=by
 have hf:old.find? (sameK x)=some old[k]:=by
  rw [List.find?_eq_some_iff_getElem]
  exact ⟨h,k,hk,rfl,fun i hi=>by rw [hb i (by omega) hi];rfl⟩
 unfold carC
 rw [hf]
theorem carC_none {old:List Ct} {x:Ct} (hb:∀ i (hi:i<old.length),sameK x old[i]=false):carC old x={ x with push:=0,sli:=0 }:=by
 have hf:old.find? (sameK x)=none:=by
  rw [List.find?_eq_none]
  intro o ho
  obtain ⟨i,hi,rfl⟩:=List.mem_iff_getElem.1 ho
  rw [hb i hi]
  simp
 unfold carC
 rw [hf]
end
end Go.Proofs.YtiaoandbdgdecaaGreat
namespace Go.Proofs.YtiaoandbdgdecaaGreat
section
set_option linter.unusedVariables false
set_option linter.unusedSimpArgs false
open Go.Shelf
open Go.RowKit Go.Sort Go.Lib
def layCmpInt_ren:Go.Shelf.Ren:=⟨fun | 5=>39 | 7=>82 | n=>n,fun | 22=>3 | 3=>3 | 4=>4 | n=>n,fun | n=>n⟩
theorem layCmpInt : Go.Proofs.SlLaysC2.n5 Tryz.prog layCmpInt_ren := {
 mixed:=by kernel_rfl
 f5:=⟨Tryz.f39.name,by decide,Tryz.func39.trans (congrArg some (by kernel_rfl))⟩
 f7:=⟨Tryz.f82.name,by decide,Tryz.func82.trans (congrArg some (by kernel_rfl))⟩
 t3:=Tryz.underlying3
 a3:=Tryz.isAgg3
 z3:=Tryz.sizeOf3
 v3:=Tryz.zeroValue3
 t4:=Tryz.underlying4
 a4:=Tryz.isAgg4
 z4:=Tryz.sizeOf4
 v4:=Tryz.zeroValue4
 t22:=Tryz.underlying3
 a22:=Tryz.isAgg3
 z22:=Tryz.sizeOf3
 v22:=Tryz.zeroValue3 }
theorem cmpInt_calls (x y:Int) (w:World):Calls Tryz.prog 39 #[.int .i64 x,.int .i64 y] w fun e w'=>e = .returned (.int .i64 (Lib.compareInt x y))∧w'=w:=AnyG.cmp_Compare_int layCmpInt x y w

abbrev Bx:=(Int × Int) × (Int × Int)
def layBox:Lay Bx:=⟨fun b=>[.int .i64 b.1.1,.int .i64 b.1.2,.int .i64 b.2.1,.int .i64 b.2.2],4,fun _=>rfl,fun x v hv=>by simp at hv;rcases hv with rfl | rfl | rfl | rfl <;> rfl,by omega⟩
def bxAt (l:List Bx) (i:Nat):Bx:=l.getD i ((0,0),(0,0))
theorem CellsE.box {w:World} {b off:Nat} {l:List Bx} (h:CellsE layBox w b off l) {i:Nat} (hi:i<l.length) :
  w.cell? ⟨b,off+i*4,none⟩=some (.int .i64 (bxAt l i).1.1)∧w.cell? ⟨b,off+i*4+1,none⟩=some (.int .i64 (bxAt l i).1.2)∧w.cell? ⟨b,off+i*4+2,none⟩=some (.int .i64 (bxAt l i).2.1)∧w.cell? ⟨b,off+i*4+3,none⟩=some (.int .i64 (bxAt l i).2.2):=by
 have e:bxAt l i=l[i]:=by unfold bxAt;simp [hi]
 rw [e]
 exact ⟨h.at_ i hi 0 _ rfl,h.at_ i hi 1 _ rfl,h.at_ i hi 2 _ rfl,h.at_ i hi 3 _ rfl⟩
end
end Go.Proofs.YtiaoandbdgdecaaGreat
namespace Go.Proofs.YtiaoandbdgdecaaGreat
section
set_option linter.unusedVariables false
set_option linter.unusedSimpArgs false
open Go.RowKit
section
variable {α:Type} {L:Lay α} {e:TypeId}

theorem run_append_S {t : TypeId} {bytes : Nat} (hT : TyE L t e bytes) (ty : TypeId) (w : World) (B : Nat) (v : Value) (l : List α) (hown : OwnE L e w B v l) (A : Option Addr) (n c : Nat) (m : List α) (hS : SlE L w A n c m)
  (hl:l.length+m.length≤8796093022208) (hby:(l.length+m.length)*bytes≤140737488355328) (hB:B≤w.heap.size) :
  ∃ v' w',(Builtin.append_ #[t,t] ty #[v,.slice A n c]).run Tryz.prog w = .ok v' w'∧OwnE L e w' B v' (l ++ m)∧w.grownBy w' v.ownBlock∧(v'.ownBlock=v.ownBlock∨v'.ownBlock=some w.heap.size):=by
 by_cases h0:m=[]
 ·subst h0
  have hn:=hS.len
  simp at hn
  subst hn
  obtain ⟨i0,z,hi,hz0,hz1,hz2,hz3⟩:=hT.hi
  cases A with
  | none =>
   refine ⟨v,w,?_,by simpa using hown,⟨rfl,rfl,rfl,Nat.le_refl _,fun _ _ _=>rfl⟩,.inl rfl⟩
   rcases hown.2 with ⟨rfl,hx⟩ | ⟨g,cap,cur,rfl,_,_,hnc,_⟩
   ·simp [Builtin.append_,run_underlying hT.ht,sizeOf,typeInfo,hi,Builtin.lenOf,Builtin.firstCells]
   ·simp [Builtin.append_,run_underlying hT.ht,sizeOf,typeInfo,hi,Builtin.lenOf,Builtin.firstCells,hnc,storeCells]
  | some ad =>
   obtain ⟨v',w',hr,h2,h3,h4,h5⟩:=run_append_own_at (P:=Tryz.prog) w B t ty e i0 z L.k bytes hT.ht hi hz0 hz1 hz2 hz3 L.pos v l.length (flatE L l) hown ad 0 c [] (by simp) (fun j u hj=>by simp at hj) (by simp) (by unfold maxLen;simp at hl;omega) (by simpa using hby) hB
   refine ⟨v',w',hr,?_,h3,h5⟩
   unfold OwnE
   simpa using h2
 ·obtain ⟨b, off, rfl, hC⟩ := hS.at_ h0
  exact run_append_E hT ty w B v l hown b off n c m hS.len hC hl hby hB
theorem wpList_append_S {t : TypeId} {bytes : Nat} (hT : TyE L t e bytes) {w : World} {ops : Array Oper} {rest : List Oper} {o : Oper} {a : Act} {Q : Exit → Act → World → Prop} (hgd : o.guard = none) (s x : Operand)
  (ho:o.op = .call { callee:=.builtin .append,args:=#[s,x],argTypes:=#[t,t] })
  (B:Nat) (v:Value) (l:List α) (hs:a.eval s=v) (hown:OwnE L e w B v l) (A:Option Addr) (n c:Nat) (m:List α) (hx:a.eval x = .slice A n c) (hS:SlE L w A n c m)
  (hl:l.length+m.length≤8796093022208) (hby:(l.length+m.length)*bytes≤140737488355328) (hB:B≤w.heap.size)
  (h:∀ v' w',OwnE L e w' B v' (l ++ m)→w.grownBy w' v.ownBlock→(v'.ownBlock=v.ownBlock∨v'.ownBlock=some w.heap.size)→wpList Tryz.prog ops Q rest (a.put o.dst v') w'):wpList Tryz.prog ops Q (o :: rest) a w:=by
 obtain ⟨v',w',hr,h2,h3,h5⟩:=run_append_S hT o.type w B v l hown A n c m hS hl hby hB
 refine wpList_plain hgd fun K hK=>?_
 unfold Oper.wp execOp
 simp only [ho,resolve,invoke,builtin,Sem.run_bind,Sem.run_pure,Result.andThen_ok,List.map_toArray,List.map_cons,List.map_nil,hs,hx,hr]
 exact hK _ _ (h v' w' h2 h3 h5)
end
end
end Go.Proofs.YtiaoandbdgdecaaGreat
