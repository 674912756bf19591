/- Parts of a proof: contracts and laws. -/
import Derived.Test.YtokgmcomgflloaaGreatQA04
import Derived.Laws.AppendOwn
import Derived.Laws.AppendOwnNone
import Derived.OwnWalk
import Derived.Test.YtokgmcomgflloaaGreatQA02
set_option maxRecDepth 100000
set_option maxHeartbeats 16000000
namespace Go.Proofs.YtokgmcomgflloaaGreat
section
set_option linter.unusedVariables false
set_option linter.unusedSimpArgs false
open Go.RowKit
open Go.ChangeShapes Go.WideShapes Go.ChangeAt Go.RowKit Go.Deep Go.Joins
variable {w0 w w':World}

def mD (w h:Int) (k:Int) (x:Int):List V :=
 if k=0 then [(-w,-h),(w,-h),(w,h),(-w,h)]
 else if k=1 then [(-w,-h),(w,-h),(x,h)]
 else if k=2 then [(-w,-h),(w-min w h / 2,-h),(w,min w h / 2-h),(w,h),(-w,h)]
 else [(-w,0),(0,-h),(w,0),(0,h)]
theorem iL (w h k x:Int) (hk:k≠1):mD w h k x=mD w h k 0:=by unfold mD;rw [if_neg hk,if_neg hk]

def Made (l:List V):Prop :=
 ∃ a b k x:Int,(a=1∨a=2∨a=3∨a=4)∧(b=1∨b=2∨b=3∨b=4)∧(k=0∨k=1∨k=2∨k=3) ∧ -(65536*a)≤x∧x<65536*a∧l=mD (65536*a) (65536*b) k x
theorem D6 (w h x:Int) (hw:0<w) (hh:0<h) (hw2:w≤65536000) (hh2:h≤65536000) (h1 : -w≤x) (h2:x<w):bH [(-w,-h),(w,-h),(x,h)]=0:=by
 refine Ad (by simp) (by simp) ?_ ?_
 ·simp [aP,aI];omega
 ·have hp := Int.mul_pos hw hh;intro i hi k hk;simp only [List.length_cons,List.length_nil] at hi hk;refine lZ ?_
  match i,hi,k,hk with
  | 0,_,0,_=>exact .inl rfl
  | 0,_,1,_=>exact .inr (.inl rfl)
  | 0,_,2,_=>refine .inr (.inr ?_);simp [mI,iZ,px,py];grind
  | 1,_,0,_=>refine .inr (.inr ?_);simp [mI,iZ,px,py];grind
  | 1,_,1,_=>exact .inl rfl
  | 1,_,2,_=>exact .inr (.inl rfl)
  | 2,_,0,_=>exact .inr (.inl (by simp))
  | 2,_,1,_=>refine .inr (.inr ?_);simp [mI,iZ,px,py];grind
  | 2,_,2,_=>exact .inl rfl
theorem F7 {l:List V} (h:Made l):bH l=0:=by
 obtain ⟨a,b,k,x,ha,hb,hk,h1,h2,rfl⟩:=h
 rcases hk with rfl | rfl | rfl | rfl
 ·rw [iL _ _ _ _ (by decide)];rcases ha with rfl | rfl | rfl | rfl <;> rcases hb with rfl | rfl | rfl | rfl <;> decide
 ·exact D6 _ _ _ (by omega) (by omega) (by omega) (by omega) h1 h2
 ·rw [iL _ _ _ _ (by decide)];rcases ha with rfl | rfl | rfl | rfl <;> rcases hb with rfl | rfl | rfl | rfl <;> decide
 ·rw [iL _ _ _ _ (by decide)];rcases ha with rfl | rfl | rfl | rfl <;> rcases hb with rfl | rfl | rfl | rfl <;> decide
theorem uN {l:List V} (h:Made l):aP 262144 l=true:=by
 obtain ⟨a,b,k,x,ha,hb,hk,h1,h2,rfl⟩:=h
 rcases hk with rfl | rfl | rfl | rfl
 ·simp [mD,aP,aI];omega
 ·simp [mD,aP,aI];omega
 ·simp [mD,aP,aI];omega
 ·simp [mD,aP,aI];omega
theorem xV {l:List V} (h:Made l):3≤l.length∧l.length≤5:=by
 obtain ⟨a,b,k,x,ha,hb,hk,h1,h2,rfl⟩:=h
 rcases hk with rfl | rfl | rfl | rfl <;> simp [mD]


theorem FT (w:World) (row:Option Nat):w.grownBy w row:=⟨rfl,rfl,rfl,Nat.le_refl _,fun _ _ _=>rfl⟩
theorem aS {a b c:World} {row:Option Nat} (h:a.grownBy b row) (k:b.grownBy c row):a.grownBy c row :=
 ⟨k.os.trans h.os,k.tape.trans h.tape,k.output.trans h.output,Nat.le_trans h.size k.size,fun i hi hn=>(k.block i (Nat.lt_of_lt_of_le hi h.size) hn).trans (h.block i hi hn)⟩
theorem bN {a b:World} {row:Option Nat} (h:Below a.heap.size a b):a.grownBy b row:=⟨h.os,h.tape,h.output,h.size,fun i hi _=>h.block i hi⟩
theorem aN (w:World) (g o:Nat) (v:Value):w.grownBy (w.setCell ⟨g,o,none⟩ v) (some g) :=
 ⟨rfl,rfl,rfl,by simp [World.setCell],fun k _ hn=>Below.heap_setCell _ _ _ _ (by intro e;exact hn (by rw [e]))⟩
theorem jF {B:Nat} {a b:World} {g:Nat} (h:a.grownBy b (some g)) (hB:B≤a.heap.size) (hg:B≤g):Below B a b :=
 (Below.refl B a).grown h hB (fun k hk=>by cases hk;exact hg)
theorem dJ {a b:World} {g k o:Nat} (h:a.grownBy b (some g)) (hk:k≠g) (hl:k<a.heap.size):b.cell? ⟨k,o,none⟩=a.cell? ⟨k,o,none⟩ :=
 World.cell?_of_block (h.block k hl (by intro e;cases e;exact hk rfl))
theorem Cells.grown {b off g:Nat} {l:List V} (h:Cells w b off l) (hg:w.grownBy w' (some g)) (hne:b≠g):Cells w' b off l :=
 ⟨Nat.lt_of_lt_of_le h.lt hg.size,fun j hj=>(dJ hg hne h.lt).trans (h.x j hj),fun j hj=>(dJ hg hne h.lt).trans (h.y j hj)⟩
theorem Sl.grown {A:Option Addr} {n c g:Nat} {l:List V} (h:Sl w A n c l) (hg:w.grownBy w' (some g)) (hne:∀ b off,A=some ⟨b,off,none⟩→b≠g):Sl w' A n c l :=
 ⟨h.len,h.cap,h.big,fun hl=>by obtain ⟨b,off,rfl,hc⟩:=h.at_ hl;exact ⟨b,off,rfl,hc.grown hg (hne b off rfl)⟩⟩

def flat (l:List V):List Value:=l.flatMap fun p=>[.int .i64 p.1,.int .i64 p.2]
theorem mZ (l:List V):(flat l).length=l.length*2:=by
 unfold flat
 induction l with
 | nil=>rfl
 | cons a l ih=>simp [List.flatMap_cons,ih];omega
theorem uE (l m:List V):flat (l ++ m)=flat l ++ flat m:=by simp [flat,List.flatMap_append]
theorem sD (l:List V) (j:Nat) (h:j<l.length):(flat l)[j*2]? = some (.int .i64 (px l j))∧(flat l)[j*2+1]? = some (.int .i64 (py l j)):=by
 induction l generalizing j with
 | nil=>simp at h
 | cons a l ih =>
  match j with
  | 0=>exact ⟨by simp [flat,px,List.flatMap_cons],by simp [flat,py,List.flatMap_cons]⟩
  | j+1 =>
   have:=ih j (by simpa using h);have e:flat (a :: l) = .int .i64 a.1 :: .int .i64 a.2 :: flat l:=by simp [flat,List.flatMap_cons]
   rw [e,show (j+1)*2=j*2+1+1 by omega,List.getElem?_cons_succ,List.getElem?_cons_succ,List.getElem?_cons_succ,List.getElem?_cons_succ];simpa [px,py] using this
theorem DF (l:List V):∀ u ∈ flat l,u.oneCell'=true:=by
 intro u hu;simp only [flat,List.mem_flatMap] at hu;obtain ⟨p,_,hp⟩:=hu;simp at hp
 rcases hp with rfl | rfl <;> rfl
theorem yE {b off:Nat} {l:List V} (h:Cells w b off l):∀ j u,(flat l)[j]? = some u→w.cell? ((⟨b,off,none⟩:Addr).add j)=some u:=by
 intro j u hj
 have hlt:j<l.length*2:=by
  have:=(List.getElem?_eq_some_iff.1 hj).1;rwa [mZ] at this
 have hk:j / 2<l.length:=by omega
 have ha:=sD l (j / 2) hk;have hadd:(⟨b,off,none⟩:Addr).add j=⟨b,off+j,none⟩:=by unfold Addr.add;split <;> simp_all
 rw [hadd]
 rcases Nat.mod_two_eq_zero_or_one j with e | e
 ·have ej : j = j / 2 * 2 := by omega
  rw [ej] at hj;rw [ha.1] at hj
  cases hj
  have:=h.x (j / 2) hk;rwa [← ej] at this
 ·have ej : j = j / 2 * 2 + 1 := by omega
  rw [ej] at hj;rw [ha.2] at hj
  cases hj
  have:=h.y (j / 2) hk;rw [Nat.add_assoc,← ej] at this;exact this

def Own (w:World) (B:Nat) (v:Value) (l:List V):Prop:=w.ownsRow B 24 2 v l.length (flat l)
theorem Own.nil (w:World) (B:Nat):Own w B (.slice none 0 0) []:=World.ownsRow_nil _ _ _ _
theorem Own.kept {B:Nat} {v:Value} {l:List V} {row:Option Nat} (h:Own w B v l) (hg:w.grownBy w' row) (hr:∀ k,row=some k→k<B):Own w' B v l:=by
 refine World.ownsRow.kept h hg ?_
 cases hv:v.ownBlock with
 | none=>exact .inl rfl
 | some k =>
  refine .inr fun e=>?_
  have:=(World.ownsRow.lt h k hv).1;have:=hr k e.symm;omega
theorem Own.below {B:Nat} {v:Value} {l:List V} (h:Own w B v l) (hb:Below w.heap.size w w'):Own w' B v l :=
 h.kept (bN (row:=none) hb) (by simp)
theorem Own.alloc {B:Nat} {v:Value} {l:List V} (h:Own w B v l) (o:Obj):Own (w.alloc o) B v l:=World.ownsRow.alloc h o
theorem Own.drew {B:Nat} {v:Value} {l:List V} (h:Own w B v l):Own w.drew B v l:=h
theorem Own.sl {B:Nat} {v:Value} {l:List V} (h:Own w B v l):∃ A n c,v = .slice A n c∧Sl w A n c l∧∀ b off,A=some ⟨b,off,none⟩→B≤b:=by
 have hc:=fun g hg=>World.ownsRow.cells h (g:=g) hg
 obtain ⟨h1,h2 | ⟨g,cap,cur,rfl,hb,hg,hn,hm,hs,ht⟩⟩:=h
 ·obtain ⟨rfl, h0⟩ := h2;refine ⟨none,0,0,rfl,⟨h0.symm,by omega,by omega,fun hl=>?_⟩,by simp⟩;exact absurd (List.length_eq_zero_iff.1 h0) hl
 ·refine ⟨_, _, _, rfl, ⟨rfl, hn, by unfold maxLen at hm; omega, fun _ => ⟨g, 0, rfl, ?_, fun j hj => ?_, fun j hj => ?_⟩⟩, fun b off e => by cases e; exact hb⟩
  ·exact (Array.getElem?_eq_some_iff.1 hg).1
  ·have := hc g rfl (j * 2) _ (sD l j hj).1;have hadd:(⟨g,0,none⟩:Addr).add (j*2)=⟨g,0+j*2,none⟩:=by unfold Addr.add;split <;> simp_all
   rwa [hadd] at this
  ·have := hc g rfl (j * 2 + 1) _ (sD l j hj).2;have hadd:(⟨g,0,none⟩:Addr).add (j*2+1)=⟨g,0+j*2+1,none⟩:=by unfold Addr.add;split <;> simp_all <;> omega
   rwa [hadd] at this
theorem Own.grown {B:Nat} {v:Value} {l:List V} (h:Own w B v l) (hg:w.grownBy w' v.ownBlock) (hB:B≤w.heap.size):Below B w w' :=
 (Below.refl B w).grown hg hB (fun k hk=>(World.ownsRow.lt h k hk).1)
theorem wU:(Tryz.prog.info? 24).map (fun i=>(i.zero,i.size,i.bytes))=some (some (.agg #[.int .i64 0,.int .i64 0]),2,16):=by kernel_rfl

theorem rH {w : World} {ops : Array Oper} {rest : List Oper} {o : Oper} {a : Act} {Q : Exit → Act → World → Prop} (hgd : o.guard = none) (s x : Operand)
  (ho:o.op = .call { callee:=.builtin .append,args:=#[s,x],argTypes:=#[25,25] })
  (B:Nat) (v:Value) (l:List V) (hs:a.eval s=v) (hown:Own w B v l) (b off n c:Nat) (m:List V) (hx:a.eval x = .slice (some ⟨b,off,none⟩) n c) (hn:n=m.length) (hc:Cells w b off m)
  (hl:l.length+m.length≤8796093022208) (hB:B≤w.heap.size)
  (h:∀ v' w',Own w' B v' (l ++ m)→w.grownBy w' v.ownBlock→wpList Tryz.prog ops Q rest (a.put o.dst v') w'):wpList Tryz.prog ops Q (o :: rest) a w:=by
 obtain ⟨i0,hi,hz0,hz1,hz2⟩:=info_parts wU;refine wpList_append_own w hgd s x 25 ho B 24 i0 (.agg #[.int .i64 0,.int .i64 0]) 2 16 Tryz.underlying25 hi hz0 hz1 hz2 rfl (by decide) v l.length (flat l) hs hown ⟨b,off,none⟩ n c (flat m) hx (by rw [mZ,hn]) (yE hc) (DF m) (by unfold maxLen;omega) (by omega) hB ?_;intro v' w' h1 h2 _;refine h v' w' ?_ h2;unfold Own;rw [uE,List.length_append,← hn];exact h1

theorem uh {w : World} {ops : Array Oper} {o : Oper} {a : Act} {K : Act → World → Prop} {Q : Exit → Act → World → Prop} {E : Prop} (hgd : o.guard = none) (s x : Operand)
  (ho:o.op = .call { callee:=.builtin .append,args:=#[s,x],argTypes:=#[25,25] })
  (B:Nat) (v:Value) (l:List V) (hs:a.eval s=v) (hown:Own w B v l) (b off n c:Nat) (m:List V) (hx:a.eval x = .slice (some ⟨b,off,none⟩) n c) (hn:n=m.length) (hc:Cells w b off m)
  (hl:l.length+m.length≤8796093022208) (hB:B≤w.heap.size)
  (h:∀ v' w',Own w' B v' (l ++ m)→w.grownBy w' v.ownBlock→K (a.put o.dst v') w'):if Region.wanted o (yielded ops a.tmps)=true then Oper.wp Tryz.prog o a w K Q else E:=by
 have hw:Region.wanted o (yielded ops a.tmps)=true:=by simp [Region.wanted,hgd]
 rw [if_pos hw];obtain ⟨i0,hi,hz0,hz1,hz2⟩:=info_parts wU;refine wp_append_own w s x 25 ho B 24 i0 (.agg #[.int .i64 0,.int .i64 0]) 2 16 Tryz.underlying25 hi hz0 hz1 hz2 rfl (by decide) v l.length (flat l) hs hown ⟨b,off,none⟩ n c (flat m) hx (by rw [mZ,hn]) (yE hc) (DF m) (by unfold maxLen;omega) (by omega) hB ?_;intro v' w' h1 h2 _;refine h v' w' ?_ h2;unfold Own;rw [uE,List.length_append,← hn];exact h1

theorem Own.lit (w:World) (B:Nat) (l:List V) (hB:B≤w.heap.size) (hl:l.length≤8796093022208):Own (w.alloc (.cells (flat l).toArray 24)) B (.slice (some ⟨w.heap.size,0,none⟩) l.length l.length) l :=
 ⟨mZ l,.inr ⟨w.heap.size,l.length,(flat l).toArray,rfl,hB,heap_alloc_new w _,Nat.le_refl _,by unfold maxLen;omega,by simp [mZ],by simp [mZ,List.take_of_length_le]⟩⟩
theorem Cells.drop {b off:Nat} {l:List V} (h:Cells w b off l) (k:Nat):Cells w b (off+k*2) (l.drop k):=by
 refine ⟨h.lt,fun j hj=>?_,fun j hj=>?_⟩
 ·rw [List.length_drop] at hj;have:=h.x (k+j) (by omega);rw [show off+k*2+j*2=off+(k+j)*2 by omega,this];simp [px]
 ·rw [List.length_drop] at hj;have:=h.y (k+j) (by omega);rw [show off+k*2+j*2+1=off+(k+j)*2+1 by omega,this];simp [py]
theorem Sl.take {A:Option Addr} {n c:Nat} {l:List V} (h:Sl w A n c l) {k:Nat} (hk:k≤n):Sl w A k c (l.take k):=by
 have hn:=h.len;refine ⟨by rw [List.length_take];omega,by have:=h.cap;omega,h.big,fun hl=>?_⟩;obtain ⟨b,off,rfl,hc⟩:=h.at_ (by intro e;subst e;simp at hl);refine ⟨b,off,rfl,hc.lt,fun j hj=>?_,fun j hj=>?_⟩
 ·rw [List.length_take] at hj;rw [hc.x j (by omega)];simp [px,List.getElem?_take,show j<k by omega]
 ·rw [List.length_take] at hj;rw [hc.y j (by omega)];simp [py,List.getElem?_take,show j<k by omega]
theorem cells_one {b off:Nat} {p q:Int} (h0:w.cell? ⟨b,off,none⟩=some (.int .i64 p)) (h1:w.cell? ⟨b,off+1,none⟩=some (.int .i64 q)):Cells w b off [(p,q)] :=
 ⟨lt_of_cell h0,fun j hj=>match j,hj with | 0,_=>by simpa [px] using h0,fun j hj=>match j,hj with | 0,_=>by simpa [py] using h1⟩

structure Jz (w : World) (A : Option Addr) (n c : Nat) (r : List Int) : Prop where
 len:n=r.length
 cap:n≤c
 big:c≤9223372036854775807
 at_:r≠[]→∃ b off,A=some ⟨b,off,none⟩∧b<w.heap.size∧∀ j,j<r.length→w.cell? ⟨b,off+j,none⟩=some (.int .i64 (r.getD j 0))
theorem Jz.below {A:Option Addr} {n c:Nat} {r:List Int} (h:Jz w A n c r) (hb:Below w.heap.size w w'):Jz w' A n c r :=
 ⟨h.len,h.cap,h.big,fun hl=>by
  obtain ⟨b,off,rfl,hlt,hc⟩:=h.at_ hl
  exact ⟨b,off,rfl,Nat.lt_of_lt_of_le hlt hb.size,fun j hj=>((dF hb).1 _ _ hlt).trans (hc j hj)⟩⟩
theorem Hu (x n:Int) (hn:0<n):x % n=if x.tmod n<0 then x.tmod n+n else x.tmod n:=by
 have h1:=Int.tmod_add_mul_tdiv x n;have h2 : -n<x.tmod n:=Int.neg_lt_of_neg_lt (by have:=Int.lt_tmod_of_pos x hn;omega);have h3:=Int.tmod_lt_of_pos x hn;generalize x.tmod n=r at *
 generalize x.tdiv n=q at *
 subst h1;rw [Int.add_mul_emod_self_left]
 split
 ·rw [← Int.add_emod_right,Int.emod_eq_of_lt (by omega) (by omega)]
 ·rw [Int.emod_eq_of_lt (by omega) (by omega)]
theorem sw (x n:Int) (hn:0<n) (hn2:n≤9223372036854775807) (w:World) :
  Calls Tryz.prog 8 #[.int .i64 x,.int .i64 n] w (dG (.int .i64 (x % n)) w):=by
 have h2 : -n<x.tmod n:=by have:=Int.lt_tmod_of_pos x hn;omega
 have h3:=Int.tmod_lt_of_pos x hn;have he:=hid (Hu x n hn);have hnb:(n == 0)=false:=by simp;omega
 go_enter Tryz.func8,Tryz.ntmps8
 go_wp2
 all_goals
  go_returns
  exact aB (by rw [he.out];split <;> go_arith) (Below.refl _ _)
def cK (r:List Int) (n:Int):Int:=r.headD 0 % n
theorem dB (r:List Int) (n:Int) (h:0<n):0≤cK r n∧cK r n<n:=⟨Int.emod_nonneg _ (by omega),Int.emod_lt_of_pos _ h⟩

structure iM (w : World) (g : Nat) (r : List Int) : Prop where
 lt:g<w.heap.size
 free:w.frozen? ⟨g,0,none⟩=false
 at_:∃ A n c,w.cell? ⟨g,0,none⟩=some (.slice A n c)∧Jz w A n c r∧(r≠[]→∀ b off,A=some ⟨b,off,none⟩→b<g)
def ND (g:Nat) (v:Int) (r:List Int) (w:World) (e:Ending) (w':World):Prop:=e = .returned (.int .i64 v)∧iM w' g r∧w.grownBy w' (some g)
theorem iM.below {g:Nat} {r:List Int} (h:iM w g r) (hb:Below w.heap.size w w'):iM w' g r:=by
 obtain ⟨h1,h2,A,n,c,h3,h4,h5⟩:=h;exact ⟨Nat.lt_of_lt_of_le h1 hb.size,((dF hb).2 _ _ h1).trans h2,A,n,c,((dF hb).1 _ _ h1).trans h3,h4.below hb,h5⟩
theorem Jz.setCell {A:Option Addr} {n c g:Nat} {r:List Int} (h:Jz w A n c r) (hA:∀ b off,A=some ⟨b,off,none⟩→b<g) (v:Value):Jz (w.setCell ⟨g,0,none⟩ v) A n c r :=
 ⟨h.len,h.cap,h.big,fun hl=>by
  obtain ⟨b,off,rfl,hlt,hc⟩:=h.at_ hl
  have hb:=hA b off rfl
  exact ⟨b,off,rfl,by simpa [World.setCell] using hlt,fun j hj=>(dJ (aN w g 0 v) (by omega) hlt).trans (hc j hj)⟩⟩
theorem bV (g:Nat) (n:Int) (r:List Int) (hn:0<n) (hn2:n≤9223372036854775807) (w:World) (hS:iM w g r) :
  Calls Tryz.prog 55 #[.pointer (some ⟨g,0,none⟩),.int .i64 n] w (ND g (cK r n) r.tail w):=by
 obtain ⟨hlt,hfr,A,m,c,hc,hI,hA⟩:=hS
 match r,hI with
 | [],hI =>
  obtain rfl:m=0:=hI.len;have HI:=hid hI;have HA:=hid hA;have hcap:=hI.cap;have hbig:=hI.big;clear hI hA
  go_enter Tryz.func55,Tryz.ntmps55
  go_wp2
  go_returns
  exact ⟨rfl,⟨hlt,hfr,_,_,_,hc,HI.out,HA.out⟩,FT _ _⟩
 | x :: t,hI =>
  obtain rfl:m=t.length+1:=hI.len;have hcap:=hI.cap;have hbig:=hI.big;obtain ⟨b,off,rfl,hbl,hcell⟩:=hI.at_ (by simp);have hx:w.cell? ⟨b,off,none⟩=some (.int .i64 x):=by simpa using hcell 0 (by simp)
  have hne:(((t.length:Int)+1) == 0)=false:=by simp;omega
  have hn1:(decide (n<1))=false:=by simp;omega
  have hbg:=hA (by simp) b off rfl;have HC:=hid hcell;have HI:=hid hI;clear hcell hI hA
  have hkey:∀ (A':Option Addr),(t≠[]→A'=some ⟨b,off+1,none⟩)→(A'=some ⟨b,off+1,none⟩∨A'=some ⟨b,off,none⟩)→iM (w.setCell ⟨g,0,none⟩ (.slice A' t.length (c-1))) g t:=by
   intro A' h1 h2
   have hs:Jz w A' t.length (c-1) t:=⟨rfl,by omega,by omega,fun hl=>⟨b,off+1,h1 hl,hbl,fun j hj=>by
    have:=HC.out (j+1) (by simp;omega);rw [Nat.add_assoc,Nat.add_comm 1 j]
    simpa using this⟩⟩
   have hA':∀ b' off',A'=some ⟨b',off',none⟩→b'<g:=by
    intro b' off' e
    rcases h2 with h2 | h2 <;> (rw [h2] at e;cases e;exact hbg)
   refine ⟨by simpa [World.setCell] using hlt,by go_simp,_,_,_,by go_simp,hs.setCell hA' _,fun _=>hA'⟩
  have HK:=hid hkey;clear hkey
  by_cases h1:c=1
  ·subst h1;obtain rfl:t=[]:=List.length_eq_zero_iff.1 (by omega);have HK2:Hid (iM (w.setCell ⟨g,0,none⟩ (.slice (some ⟨b,off,none⟩) 0 0)) g []):=HK.out _ (fun h=>absurd rfl h) (.inr rfl)
   go_enter Tryz.func55,Tryz.ntmps55
   go_wp2_with (go_at_call 8;refine (sw _ _ hn hn2 _).mono ?_;rintro e w1 ⟨rfl,hb⟩)
   go_returns
   exact ⟨by simp [cK],HK2.out.below hb,aS (aN _ _ _ _) (bN hb)⟩
  ·have HK2 : Hid (iM (w.setCell ⟨g, 0, none⟩ (.slice (some ⟨b, off + 1, none⟩) t.length (c - 1))) g t) := HK.out _ (fun _ => rfl) (.inl rfl)
   go_enter Tryz.func55,Tryz.ntmps55
   go_wp2_with (go_at_call 8;refine (sw _ _ hn hn2 _).mono ?_;rintro e w1 ⟨rfl,hb⟩)
   go_returns
   exact ⟨by simp [cK],HK2.out.below hb,aS (aN _ _ _ _) (bN hb)⟩

def Af (r:List Int):List V :=
 mD ((1+cK r 4)*65536) ((1+cK r.tail 4)*65536) (cK r.tail.tail 4) (cK r.tail.tail.tail (2*((1+cK r 4)*65536))-(1+cK r 4)*65536)
def G7 (r:List Int):List Int:=if cK r.tail.tail 4=1 then r.tail.tail.tail.tail else r.tail.tail.tail
theorem Fp (r:List Int):Made (Af r):=by
 have h1:=dB r 4 (by omega);have h2:=dB r.tail 4 (by omega);have h3:=dB r.tail.tail 4 (by omega);have h4:=dB r.tail.tail.tail (2*((1+cK r 4)*65536)) (by omega);refine ⟨1+cK r 4,1+cK r.tail 4,cK r.tail.tail 4,cK r.tail.tail.tail (2*((1+cK r 4)*65536))-(1+cK r 4)*65536,by omega,by omega,by omega,by omega,by omega,?_⟩;rw [Af,Int.mul_comm (1+cK r 4) 65536,Int.mul_comm (1+cK r.tail 4) 65536]

def KE (l:List V) (g:Nat) (r:List Int) (w:World) (e:Ending) (w':World):Prop :=
 ∃ A n c,e = .returned (.slice A n c)∧Sl w' A n c l∧(∀ b off,A=some ⟨b,off,none⟩→w.heap.size≤b)∧iM w' g r∧w.grownBy w' (some g)
theorem Sl.made (w:World) (l:List V) (T:TypeId) (hl:l.length≤9223372036854775807):Sl (w.alloc (.cells (flat l).toArray T)) (some ⟨w.heap.size,0,none⟩) l.length l.length l:=by
 refine ⟨rfl,Nat.le_refl _,hl,fun _=>⟨w.heap.size,0,rfl,by simp,fun j hj=>?_,fun j hj=>?_⟩⟩
 ·rw [cell_of_row _ w.heap.size _ (flat l).toArray T (0, 0) (heap_alloc_new w _)];simpa using (sD l j hj).1
 ·rw [cell_of_row _ w.heap.size _ (flat l).toArray T (0, 0) (heap_alloc_new w _)];simpa using (sD l j hj).2
theorem mH {l:List V} {g:Nat} {r:List Int} {w w3:World} {T:TypeId} (hl:l.length≤9223372036854775807) (h:iM w3 g r) (hg:w.grownBy w3 (some g)):KE l g r w (.returned (.slice (some ⟨w3.heap.size,0,none⟩) l.length l.length)) (w3.alloc (.cells (flat l).toArray T)) :=
 ⟨_,_,_,rfl,Sl.made _ _ _ hl,fun b off e=>by cases e;exact hg.size,h.below (by go_grown),aS hg (World.grownBy_alloc _ _ _)⟩
theorem Dx (g:Nat) (r:List Int) (w:World) (hS:iM w g r) :
  Calls Tryz.prog 127 #[.pointer (some ⟨g,0,none⟩)] w (KE (Af r) g (G7 r) w):=by
 have b1:=dB r 4 (by omega);have b2:=dB r.tail 4 (by omega);have b3:=dB r.tail.tail 4 (by omega);have b4:=dB r.tail.tail.tail (2*((1+cK r 4)*65536)) (by omega);have HP:=hid (show Af r=mD ((1+cK r 4)*65536) ((1+cK r.tail 4)*65536) (cK r.tail.tail 4) (cK r.tail.tail.tail (2*((1+cK r 4)*65536))-(1+cK r 4)*65536) from rfl);have HT:=hid (show G7 r=if cK r.tail.tail 4=1 then r.tail.tail.tail.tail else r.tail.tail.tail from rfl);have H1:=hid hS;clear hS
 go_enter Tryz.func127,Tryz.ntmps127
 go_wp2_with fail
 refine (bV g 4 r (by omega) (by omega) _ H1.out).mono ?_;rintro e w1 ⟨rfl,hS2,hg1⟩;have H2:=hid hS2;clear hS2
 go_wp2_with fail
 refine (bV g 4 r.tail (by omega) (by omega) _ H2.out).mono ?_;rintro e w2 ⟨rfl,hS3,hg2⟩;have H3:=hid hS3;clear hS3
 go_wp2_with fail
 refine (bV g 4 r.tail.tail (by omega) (by omega) _ H3.out).mono ?_;rintro e w3 ⟨rfl,hS4,hg3⟩;have H4:=hid hS4;clear hS4;have hg:w.grownBy w3 (some g):=aS (aS hg1 hg2) hg3;have HG:=hid hg;clear hg hg1 hg2 hg3;generalize cK r 4=a at *
 generalize cK r.tail 4=b at *
 generalize hk:cK r.tail.tail 4=k at *
 have HK:=hid hk;clear hk
 go_wp2_with fail
 ·obtain rfl : k = 0 := by simpa using (show (k == 0) = true by assumption)
  go_returns
  exact HP.out ▸ HT.out ▸ mH (l:=[(-((1+a)*65536),-((1+b)*65536)),((1+a)*65536,-((1+b)*65536)),((1+a)*65536,(1+b)*65536),(-((1+a)*65536),(1+b)*65536)]) (by simp) H4.out HG.out
 ·obtain rfl : k = 1 := by simpa using (show (k == 1) = true by assumption)
  refine (bV g _ _ (by omega) (by omega) _ H4.out).mono ?_;rintro e w4 ⟨rfl,hS5,hg4⟩;generalize cK r.tail.tail.tail (2*((1+a)*65536))=x at *
  have H5:=hid hS5;clear hS5;go_wp2
  go_returns
  exact HP.out ▸ HT.out ▸ mH (l:=[(-((1+a)*65536),-((1+b)*65536)),((1+a)*65536,-((1+b)*65536)),(x-(1+a)*65536,(1+b)*65536)]) (by simp) H5.out (aS HG.out hg4)
 ·obtain rfl : k = 2 := by simpa using (show (k == 2) = true by assumption)
  go_returns
  exact HP.out ▸ HT.out ▸ (show mD ((1+a)*65536) ((1+b)*65536) 2 (cK r.tail.tail.tail (2*((1+a)*65536))-(1+a)*65536)=[(-((1+a)*65536),-((1+b)*65536)),((1+a)*65536-min ((1+a)*65536) ((1+b)*65536) / 2,-((1+b)*65536)),((1+a)*65536,min ((1+a)*65536) ((1+b)*65536) / 2-(1+b)*65536),((1+a)*65536,(1+b)*65536),(-((1+a)*65536),(1+b)*65536)] by simp [mD]) ▸ mH (l:=[(-((1+a)*65536),-((1+b)*65536)),((1+a)*65536-min ((1+a)*65536) ((1+b)*65536) / 2,-((1+b)*65536)),((1+a)*65536,min ((1+a)*65536) ((1+b)*65536) / 2-(1+b)*65536),((1+a)*65536,(1+b)*65536),(-((1+a)*65536),(1+b)*65536)]) (by simp) H4.out HG.out
 ·have h0 : k ≠ 0 := by simpa using (show (k == 0) = false by assumption)
  have h1:k≠1:=by simpa using (show (k == 1)=false by assumption)
  have h2:k≠2:=by simpa using (show (k == 2)=false by assumption)
  have eT:G7 r=r.tail.tail.tail:=by rw [HT.out,if_neg h1]
  have eP:Af r=[(-((1+a)*65536),0),(0,-((1+b)*65536)),((1+a)*65536,0),(0,(1+b)*65536)]:=by rw [HP.out,mD,if_neg h0,if_neg h1,if_neg h2]
  go_returns
  exact eP ▸ eT ▸ mH (l:=[(-((1+a)*65536),0),(0,-((1+b)*65536)),((1+a)*65536,0),(0,(1+b)*65536)]) (by simp) H4.out HG.out

def Gv (l:List V) (w:World) (e:Ending) (w':World):Prop :=
 ∃ A n c,e = .returned (.slice A n c)∧Sl w' A n c l∧(∀ b off,A=some ⟨b,off,none⟩→w.heap.size≤b)∧Below w.heap.size w w'

def Oa (x y h:Int):List V:=[(x*65536-h*65536,y*65536-h*65536),(x*65536+h*65536,y*65536-h*65536),(x*65536+h*65536,y*65536+h*65536),(x*65536-h*65536,y*65536+h*65536)]
theorem LY {P:Nat→Int→Prop} (n:Nat) (h:∀ i,i<n→∃ x,P i x):∃ l:List Int,l.length=n∧∀ i,i<n→P i (l.getD i 0):=by
 induction n with
 | zero=>exact ⟨[],rfl,fun i hi=>absurd hi (by omega)⟩
 | succ n ih =>
  obtain ⟨l,hl,hp⟩:=ih fun i hi=>h i (by omega)
  obtain ⟨x,hx⟩:=h n (by omega);refine ⟨l ++ [x],by simp [hl],fun i hi=>?_⟩
  by_cases e:i=n
  ·subst e;have e1:(l ++ [x]).getD i 0=x:=by simp [← hl]
   rw [e1];exact hx
  ·have hi' : i < l.length := by omega
   have e1:(l ++ [x]).getD i 0=l.getD i 0:=by simp [List.getElem?_append_left hi']
   rw [e1];exact hp i (by omega)
section
variable {w0 w w':World}
variable {H:Type} {enc:TypeId × Value→H} {W:World} {held:Bool} {base:Nat} {sp:Nat→Bool}

theorem JY {r:Reach} {b0:Nat} {v:Value} {d:DataW H} {p:List MemPlace} (hv:Value.okWide Tryz.prog W r b0 45 v) (h:DataW.Trod enc Tryz.prog W base (fun _=>true) held 45 v d p) :
  ∃ A n c l,v = .slice A n c∧Jz W A n c l:=by
 obtain ⟨A,n,c,rfl⟩:=okWide_slice Tryz.underlying45 hv;obtain ⟨fuel,hf⟩:=h
 rcases open_slice Tryz.underlying45 hf with ⟨hcs,_⟩ | ⟨a,len,cap,m,k,D,Pl,hcs,_,hl,hm,hmm,_,hi⟩
 ·have e : Value.slice A n c = .slice none 0 0 := by simpa [Value.cells] using hcs
  injection e with e1 e2 e3
  subst e1 e2 e3;exact ⟨none,0,0,[],rfl,rfl,by omega,by omega,fun hh=>absurd rfl hh⟩
 ·have e : Value.slice A n c = .slice (some a) len cap := by simpa [Value.cells] using hcs
  injection e with e1 e2 e3
  subst e1 e2 e3;rw [if_pos rfl] at hmm;subst hmm
  have hcell:∀ i,i<n→∃ x:Int,W.cell? (a.add i)=some (.int .i64 x):=by
   intro i him;obtain ⟨cs',hc,ht'⟩:=hi i (by omega);rw [Je] at hc;obtain ⟨_,hcl,hat⟩:=World.cells?_some hc
   match cs',hcl with
   | [u0],_ =>
    obtain ⟨x,ex,_,_⟩:=DataW.trod_int Tryz.underlying3 ht';simp at ex;subst ex;refine ⟨x,?_⟩;have:=hat 0 (by omega);rw [Go.Deep.add_add] at this;simpa using this
  obtain ⟨l,hll,hlc⟩:=LY n hcell;refine ⟨_,_,_,l,rfl,hll.symm,hl,by unfold maxLen at hm;omega,fun hne=>?_⟩
  have hn:0<n:=by
   rcases Nat.eq_zero_or_pos n with h0 | h0
   ·exact absurd (List.length_eq_zero_iff.1 (by omega)) hne
   ·exact h0
  obtain ⟨b,off,spot⟩:=a
  have hspot:spot=none:=by
   have:=World.cell?_spot (hlc 0 hn);simpa [Addr.add] using this
  subst hspot;refine ⟨b,off,rfl,?_,fun j hj=>?_⟩
  ·have := hlc 0 hn;simp [Addr.add] at this
   rcases Nat.lt_or_ge b W.heap.size with h1 | h1
   ·exact h1
   ·have e : W.heap[b]? = none := Array.getElem?_eq_none h1;simp [World.cell?,e] at this
  ·rw [← add_plain];exact hlc j (by omega)
end
end
end Go.Proofs.YtokgmcomgflloaaGreat
