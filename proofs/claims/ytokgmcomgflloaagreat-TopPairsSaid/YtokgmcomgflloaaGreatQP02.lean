/- Parts of a proof: contracts and laws. -/
import Derived.Test.YtokgmcomgflloaaGreatQP00
import Derived.ProofKit
import Derived.OpenShut
import Derived.Lib.SmallJoins
import Derived.Deep.Slices
import Derived.Deep.Fields
import Derived.ChangeSame
import Derived.Carry
import Derived.Test.YtokgmcomgflloaaGreatQP01
import Derived.Deep.RegionHeld3
set_option maxRecDepth 100000
set_option maxHeartbeats 16000000
namespace Go.Proofs.YtokgmcomgflloaaGreat
section
set_option linter.unusedVariables false
set_option linter.unusedSimpArgs false
open Go.ChangeShapes Go.WideShapes Go.ChangeAt Go.RowKit Go.Deep Go.Joins
variable {w0 w w':World}
theorem KQ:ownKnob Tryz.prog.godebug=none:=by kernel_rfl
theorem KT:laidOutB Tryz.prog=true:=by kernel_rfl
theorem JI:Tryz.prog.cellsOf 3=1:=by kernel_rfl

section
variable {w0 w w':World}
variable {H:Type} {enc:TypeId × Value→H} {W:World} {held:Bool} {base:Nat} {sp:Nat→Bool}


end
section
variable {w0 w w':World}
variable {H:Type} {enc:TypeId × Value→H} {P:Program}

theorem FT {f : Func} {s : ChangeSpec} {apart fresh handsOn again : Bool} {W W' : World} {args : Array Value} {v : Value} {ds gs : List (DataW H)} {before pa pv : List MemPlace}
  (hW:DataW.Whole enc P f.params.toList s.vars apart W args.toList ds gs before)
  (hres:∀ (b:Nat) (sp:Nat→Bool) (hd:Bool),DataW.TrodAll enc P W' b sp hd f.resultTypes.toList (v.resultList f.resultTypes.size) (s.fn H (ds ++ gs)).results [])
  (hargs:∀ sp:Nat→Bool,(∀ p ∈ before,sp p.block=true)→DataW.TrodAll enc P W' 0 sp true f.params.toList args.toList (s.fn H (ds ++ gs)).args pa)
  (hvars:∀ sp:Nat→Bool,(∀ p ∈ before,sp p.block=true)→DataW.TrodVars enc P W' sp s.vars (s.fn H (ds ++ gs)).vars pv)
  (hps:before=pa ++ pv) (hb:Below W.heap.size W W')
  (hok:∀ (j:Nat) (t:TypeId) (r:Value),f.resultTypes[j]? = some t→(v.resultList f.resultTypes.size)[j]? = some r→Value.okWide P W' .any 0 t r) :
  s.post enc P f apart fresh handsOn again W args v W':=by
 have hlt:∀ p ∈ before,p.block<W.heap.size:=fun p hp=>hW.lt p hp
 refine ⟨ds,gs,before,[],pa,pv,hW,hres _ _ _,hargs _ (fun p hp=>by simpa using hlt p hp),hvars _ (fun p hp=>by simpa using hlt p hp),World.keptBut_mono (fun p hp=>⟨hp,?_⟩) (hb.frame (· ∈ before)),fun _=>?_⟩
 ·rw [hps, List.mem_append] at hp;exact Or.inr hp
 ·obtain ⟨_, _, _, _, _, hz, hn⟩ := hW;refine ⟨hok,_,_,([] ++ pa) ++ pv,⟨[] ++ pa,pv,trodAll_append (hargs _ (fun _ _=>rfl)) (hres _ _ _),hvars _ (fun _ _=>rfl),rfl,?_,?_⟩,?_⟩
  ·intro b off hp;have hin:MemPlace.cell b off ∈ before:=by rw [hps];simpa using hp
   rw [hb.frozen (hlt _ hin)];exact hz b off hin
  ·intro ha;have:=hn ha;rw [hps] at this;simpa using this
  ·intro p hp _;rw [hps];simpa using hp
end
section
variable {w0 w w':World}
variable {H:Type} {enc:TypeId × Value→H} {W:World} {held:Bool} {base:Nat} {sp:Nat→Bool}


end
end
section
set_option linter.unusedVariables false
set_option linter.unusedSimpArgs false
open Go.RowKit
variable {w0 w w':World}
theorem aC {g o o':Nat} {v u:Value} (h:w.cell? ⟨g,o',none⟩=some u) (hne:o≠o'):(w.setCell ⟨g,o,none⟩ v).cell? ⟨g,o',none⟩=some u:=by
 have n1:¬ o=o':=hne;have n2:¬ o'=o:=fun e=>hne e.symm
 go_simp
theorem dZ {g o:Nat} {v u:Value} (h:w.cell? ⟨g,o,none⟩=some u):(w.setCell ⟨g,o,none⟩ v).cell? ⟨g,o,none⟩=some v:=by go_simp
theorem cK {b:Nat} (h:∀ j,w.frozen? ⟨b,j,none⟩=false) (p:Addr) (v:Value):∀ j,(w.setCell p v).frozen? ⟨b,j,none⟩=false:=fun j=>by rw [World.frozen?_setCell];exact h j

structure Out (D : Nat → Prop) (w w' : World) : Prop where
 os:w'.os=w.os
 tape:w'.tape=w.tape
 output:w'.output=w.output
 size:w.heap.size≤w'.heap.size
 block:∀ k,k<w.heap.size→¬ D k→w'.heap[k]? = w.heap[k]?
theorem Out.refl (D:Nat→Prop) (w:World):Out D w w:=⟨rfl,rfl,rfl,Nat.le_refl _,fun _ _ _=>rfl⟩
theorem Out.trans {D D':Nat→Prop} {a b c:World} (h:Out D a b) (k:Out D' b c) (hd:∀ i,i<a.heap.size→D' i→D i):Out D a c :=
 ⟨k.os.trans h.os,k.tape.trans h.tape,k.output.trans h.output,Nat.le_trans h.size k.size,fun i hi hn=>(k.block i (Nat.lt_of_lt_of_le hi h.size) (fun q=>hn (hd i hi q))).trans (h.block i hi hn)⟩
theorem Out.mono {D D':Nat→Prop} {a b:World} (h:Out D a b) (hd:∀ i,i<a.heap.size→D i→D' i):Out D' a b:=⟨h.os,h.tape,h.output,h.size,fun i hi hn=>h.block i hi (fun q=>hn (hd i hi q))⟩
theorem Out.drew {D:Nat→Prop} {a b:World} (h:Out D a b):Out D a b.drew:=⟨h.os,h.tape,h.output,h.size,h.block⟩
theorem Out.below {D:Nat→Prop} {a b:World} (h:Below a.heap.size a b):Out D a b:=⟨h.os,h.tape,h.output,h.size,fun k hk _=>h.block k hk⟩
theorem Out.setCell {D:Nat→Prop} {a b:World} (h:Out D a b) {p:Addr} (hp:a.heap.size≤p.block∨D p.block) (u:Value):Out D a (b.setCell p u) :=
 ⟨h.os,h.tape,h.output,by rw [World.size_setCell];exact h.size,fun k hk hn=>(Below.heap_setCell b p u k (fun e=>hp.elim (fun q=>by omega) (fun q=>hn (e ▸ q)))).trans (h.block k hk hn)⟩
theorem Out.cell {D:Nat→Prop} {a b:World} (h:Out D a b) {g o:Nat} {v:Value} (hc:a.cell? ⟨g,o,none⟩=some v) (hn:¬ D g):b.cell? ⟨g,o,none⟩=some v:=(World.cell?_of_block (h.block _ (lt_of_cell hc) hn)).trans hc
def Ov (mv:Nat→Bool) (f:Nat→Nat) (p:Nat × Nat):Nat→Nat:=if mv p.1=true∧mv p.2=true then (fun j=>if f j=max (f p.1) (f p.2) then min (f p.1) (f p.2) else f j) else f
def Af (mv:Nat→Bool) (l:List (Nat × Nat)):Nat→Nat:=l.foldl (Ov mv) id

theorem Oy {mv:Nat→Bool} {P:(Nat→Nat)→Prop} (h0:P id):∀ l:List (Nat × Nat),(∀ f p,p ∈ l→P f→P (Ov mv f p))→P (Af mv l):=by
 have go:∀ (l:List (Nat × Nat)) (f:Nat→Nat),P f→(∀ f p,p ∈ l→P f→P (Ov mv f p))→P (l.foldl (Ov mv) f):=by
  intro l
  induction l with
  | nil=>intro f hf _;exact hf
  | cons p r ih=>intro f hf h;exact ih _ (h f p (List.mem_cons_self ..) hf) (fun f q hq=>h f q (List.mem_cons_of_mem _ hq))
 exact fun l h=>go l id h0 h

structure OU (f : Nat → Nat) : Prop where
 le:∀ j,f j≤j
 idem:∀ j,f (f j)=f j
theorem Qq {mv:Nat→Bool} {f:Nat→Nat} (h:OU f) (p:Nat × Nat):OU (Ov mv f p):=by
 unfold Ov
 split
 ·refine ⟨fun j => ?_, fun j => ?_⟩
  ·have := h.le j;show (if f j=_ then _ else _)≤j
   split <;> omega
  ·show (if f (if f j = _ then _ else _) = _ then _ else _) = (if f j = _ then _ else _);have i1:=h.idem p.1;have i2:=h.idem p.2;have i3:=h.idem j
   by_cases e:f j=max (f p.1) (f p.2)
   ·rw [if_pos e]
    have:f (min (f p.1) (f p.2))=min (f p.1) (f p.2):=by
     rcases Nat.le_total (f p.1) (f p.2) with q | q
     ·rw [Nat.min_eq_left q];exact i1
     ·rw [Nat.min_eq_right q];exact i2
    rw [this]
    split <;> omega
   ·rw [if_neg e,i3,if_neg e]
 ·exact h
theorem OZ (mv:Nat→Bool) (l:List (Nat × Nat)):OU (Af mv l):=Oy ⟨fun j=>Nat.le_refl j,fun _=>rfl⟩ l (fun f p _ h=>Qq h p)




def gU (up:List Nat) (i:Nat):Nat:=up.getD i i
structure EN (up : List Nat) (f : Nat → Nat) : Prop where
 le:∀ i,gU up i≤i
 fix:∀ i,gU up i=i→f i=i
 step:∀ i,f (gU up i)=f i
theorem jC {up:List Nat} {i:Nat} (hi:i<up.length) (v j:Nat):gU (up.set i v) j=if j=i then v else gU up j:=by
 unfold gU;rw [List.getD_eq_getElem?_getD,List.getD_eq_getElem?_getD]
 split
 ·rename_i e;subst e;rw [List.getElem?_set_self hi];rfl
 ·rename_i e;rw [List.getElem?_set_ne (fun q=>e q.symm)]
theorem EN.new (n:Nat):EN (List.range n) id:=by
 have e:∀ i,gU (List.range n) i=i:=fun i=>by
  unfold gU;rw [List.getD_eq_getElem?_getD]
  rcases Nat.lt_or_ge i n with h | h
  ·rw [List.getElem?_range h];rfl
  ·rw [List.getElem?_eq_none (by simpa using h)];rfl
 exact ⟨fun i=>Nat.le_of_eq (e i),fun i _=>rfl,fun i=>e i⟩
theorem EN.ok {up:List Nat} {f:Nat→Nat} (h:EN up f):OU f∧∀ j,gU up (f j)=f j:=by
 have go:∀ n j,j<n→f j≤j∧gU up (f j)=f j∧f (f j)=f j:=by
  intro n
  induction n with
  | zero=>intro j hj;omega
  | succ n ih =>
   intro j hj;have hl:=h.le j
   by_cases e:gU up j=j
   ·have := h.fix j e;rw [this];exact ⟨Nat.le_refl _,e,this⟩
   ·obtain ⟨a, b, c⟩ := ih (gU up j) (by omega);rw [h.step j] at a b c;exact ⟨by omega,b,c⟩
 exact ⟨⟨fun j=>(go (j+1) j (by omega)).1,fun j=>(go (j+1) j (by omega)).2.2⟩,fun j=>(go (j+1) j (by omega)).2.1⟩

theorem EN.halve {up:List Nat} {f:Nat→Nat} (h:EN up f) {i:Nat} (hi:i<up.length):EN (up.set i (gU up (gU up i))) f:=by
 have a:=h.le i;have b:=h.le (gU up i);refine ⟨fun j=>?_,fun j e=>?_,fun j=>?_⟩
 ·rw [jC hi]; split
  ·omega
  ·exact h.le j
 ·rw [jC hi] at e
  split at e
  ·rename_i q;subst q;exact h.fix j (by omega)
  ·exact h.fix j e
 ·rw [jC hi]; split
  ·rename_i q;subst q;rw [h.step,h.step]
  ·exact h.step j

theorem EN.join {up:List Nat} {f:Nat→Nat} (h:EN up f) {mv:Nat→Bool} {p:Nat × Nat} (hp:mv p.1=true∧mv p.2=true) (h1:p.1<up.length) (h2:p.2<up.length):EN (up.set (max (f p.1) (f p.2)) (min (f p.1) (f p.2))) (Ov mv f p):=by
 obtain ⟨hk,hr⟩:=h.ok;have l1:=hk.le p.1;have l2:=hk.le p.2;have i1:=hk.idem p.1;have i2:=hk.idem p.2;have hi:max (f p.1) (f p.2)<up.length:=by omega
 have fM:f (max (f p.1) (f p.2))=max (f p.1) (f p.2):=by
  rcases Nat.le_total (f p.1) (f p.2) with q | q
  ·rw [Nat.max_eq_right q];exact i2
  ·rw [Nat.max_eq_left q];exact i1
 have fm:f (min (f p.1) (f p.2))=min (f p.1) (f p.2):=by
  rcases Nat.le_total (f p.1) (f p.2) with q | q
  ·rw [Nat.min_eq_left q];exact i1
  ·rw [Nat.min_eq_right q];exact i2
 have ej:Ov mv f p=fun j=>if f j=max (f p.1) (f p.2) then min (f p.1) (f p.2) else f j:=by unfold Ov;rw [if_pos hp]
 generalize hM:max (f p.1) (f p.2)=M at *
 generalize hm:min (f p.1) (f p.2)=m at *
 have hle:m≤M:=by omega
 rw [ej];refine ⟨fun j=>?_,fun j e=>?_,fun j=>?_⟩
 ·rw [jC hi]; split
  ·omega
  ·exact h.le j
 ·rw [jC hi] at e;show (if f j=M then m else f j)=j
  split at e
  ·rename_i q;subst q;rw [fM,if_pos rfl];exact e
  ·rename_i q;have:=h.fix j e;rw [this,if_neg q]
 ·rw [jC hi];show (if f (if j=M then m else gU up j)=M then m else f (if j=M then m else gU up j))=(if f j=M then m else f j)
  by_cases q:j=M
  ·subst q;rw [if_pos rfl,fm,fM,if_pos rfl]
   split <;> omega
  ·rw [if_neg q,h.step]

theorem EN.put {up:List Nat} {f:Nat→Nat} (h:EN up f) {i:Nat} (hi:i<up.length):EN (up.set i (f i)) f:=by
 obtain ⟨hk,hr⟩:=h.ok;refine ⟨fun j=>?_,fun j e=>?_,fun j=>?_⟩
 ·rw [jC hi]; split
  ·rename_i q;subst q;exact hk.le j
  ·exact h.le j
 ·rw [jC hi] at e
  split at e
  ·rename_i q;subst q;exact e
  ·exact h.fix j e
 ·rw [jC hi]; split
  ·rename_i q;subst q;exact hk.idem j
  ·exact h.step j




def S2 (A : World → Prop) : Nat → World → Prop
 | 0,w=>A w
 | _+1,_=>True
def S3 (A B : World → Prop) : Nat → World → Prop
 | 0,w=>A w
 | 1,w=>B w
 | _+2,_=>True
section
variable {w0 w w':World}
variable {A B C:World→Prop} {w:World}
theorem aB (h:S2 A 0 w):A w:=h
theorem aK (h:A w):S2 A 0 w:=h
theorem gV:S2 A 1 w:=trivial
theorem jf (h:S3 A B 0 w):A w:=h
theorem xW (h:S3 A B 1 w):B w:=h
theorem qL (h:A w):S3 A B 0 w:=h
theorem xB (h:B w):S3 A B 1 w:=h
theorem yS:S3 A B 2 w:=trivial
end
section
variable {w0 w w':World}
variable {P:Program} {ops:Array Oper} {Q:Exit→Act→World→Prop} {md:Region.Mode} {S:Nat→World→Prop} {T:Nat→Nat}

def jI (P : Program) (md : Region.Mode) (ops : Array Oper) (Q : Exit → Act → World → Prop) (S : Nat → World → Prop) (T : Nat → Nat) : Nat → Array Bool → Act → World → Prop
 | 0,listed,a,w=>Region.ready md ops listed=[]∧Q .normal a w
 | fuel+1,listed,a,w =>
  (Region.ready md ops listed=[]→Q .normal a w) ∧
  ∀ i ∈ Region.ready md ops listed,wpOp P ops Q i (fun a' w'=>S (T i) w'∧jI P md ops Q S T fuel (listed.setIfInBounds i true) a' w') a w
theorem xg : ∀ (fuel : Nat) (listed : Array Bool) (a : Act) (w : World), jI P md ops Q S T fuel listed a w → wpAny P md ops Q fuel listed a w
 | 0,_,_,_,h=>h
 | fuel+1,_,_,_,h=>⟨h.1,fun i hi=>wpOp_mono (fun a' w' h'=>xg fuel _ a' w' h'.2) (h.2 i hi)⟩

def aG (S:Nat→World→Prop):Prop:=∀ l w,S l w→S (l+1) w
theorem aG.le (h:aG S) {l m:Nat} (hlm:l≤m) {w:World} (hS:S l w):S m w:=by
 obtain ⟨d,rfl⟩:∃ d,m=l+d:=⟨m-l,by omega⟩;clear hlm
 induction d with
 | zero=>exact hS
 | succ d ih=>exact h _ _ ih
theorem aI (A:World→Prop):aG (S2 A):=fun l w h=>trivial
theorem jL {A B:World→Prop} (h1:∀ w,A w→B w):aG (S3 A B):=fun l w h=>match l,h with
 | 0,h=>h1 w h
 | 1,_=>trivial
 | _+2,_=>trivial

def xX (md : Region.Mode) (ops : Array Oper) : Nat → Nat → Nat → Bool
 | 0,_,_=>false
 | f+1,j,i=>match ops[j]? with
  | some o=>o.after.any fun e=>Region.binds md e && (e.on == i || xX md ops f e.on i)
  | none=>false

def jm (md:Region.Mode) (ops:Array Oper) (T:Nat→Nat) (l i:Nat):Bool :=
 (List.range ops.size).all fun j=>decide (T j≤l) || xX md ops ops.size j i

def Closed (md:Region.Mode) (ops:Array Oper) (listed:Array Bool):Prop :=
 ∀ j o,ops[j]? = some o→listed.getD j false=true→∀ e ∈ o.after,Region.binds md e=true→listed.getD e.on false=true
def lF (md:Region.Mode) (ops:Array Oper) (listed:Array Bool):Bool :=
 (List.range ops.size).all fun j => !(listed.getD j false) || (match ops[j]? with | some o=>o.after.all fun e => !Region.binds md e || listed.getD e.on false | none=>true)
theorem uJ {listed:Array Bool} (h:lF md ops listed=true):Closed md ops listed:=by
 intro j o ho hl e he hb;have hjl:j<ops.size:=(Array.getElem?_eq_some_iff.1 ho).1;have:=List.all_eq_true.1 h j (List.mem_range.2 hjl);rw [hl,ho] at this;simp only [Bool.not_true,Bool.false_or,Array.all_eq_true_iff_forall_mem] at this;have:=this e he;rw [hb] at this;simpa using this
theorem pV {listed:Array Bool} (hc:Closed md ops listed) {i:Nat}:∀ (f j:Nat) (o:Oper),ops[j]? = some o→(∀ e ∈ o.after,Region.binds md e=true→listed.getD e.on false=true)→xX md ops f j i=true→listed.getD i false=true:=by
 intro f
 induction f with
 | zero=>intro j o _ _ h;cases h
 | succ f ih =>
  intro j o ho hall h;simp only [xX,ho,Array.any_eq_true,Bool.and_eq_true,Bool.or_eq_true,beq_iff_eq] at h;obtain ⟨k,hk,hb,h | h⟩:=h
  ·rw [← h];exact hall _ (Array.getElem_mem hk) hb
  ·have hl := hall _ (Array.getElem_mem hk) hb
   cases hq:ops[(o.after[k]).on]? with
   | none =>
    cases f with
    | zero=>cases h
    | succ f=>simp [xX,hq] at h
   | some o'=>exact ih _ o' hq (hc _ o' hq hl) h
theorem yL {listed:Array Bool} {j m:Nat} (h:listed.getD m false=true):(listed.setIfInBounds j true).getD m false=true:=by
 rcases Nat.lt_or_ge m listed.size with h1 | h1
 ·simp [h1] at h ⊢;rw [Array.getElem_setIfInBounds (by simpa using h1)]
  split <;> simp [*]
 ·simp [Array.getElem?_eq_none h1] at h
theorem Closed.set {listed:Array Bool} (hc:Closed md ops listed) {j:Nat} {oj:Oper} (hj:ops[j]? = some oj) (hall:∀ e ∈ oj.after,Region.binds md e=true→listed.getD e.on false=true):Closed md ops (listed.setIfInBounds j true):=by
 intro k o ho hl e he hb;refine yL ?_
 by_cases hkj:k=j
 ·subst hkj;rw [ho] at hj
  cases hj
  exact hall e he hb
 ·refine hc k o ho ?_ e he hb
  rcases Nat.lt_or_ge k listed.size with h1 | h1
  ·simp [h1] at hl ⊢;rwa [Array.getElem_setIfInBounds_ne _ (by omega)] at hl
  ·simp [Array.getElem?_eq_none h1] at hl;rw [Array.getElem?_eq_none (by simpa using h1)] at hl;simp at hl
theorem BI {i : Nat} {oi : Oper} {v : Value} (hi : ops[i]? = some oi) (hsel : ∀ (j : Nat) (o : Oper) cs b, ops[j]? = some o → o.op ≠ .select cs b)
  (hQ:∀ c a w,Q (.panic c) (a.put oi.dst v) w→Q (.panic c) a w) (hD:aG S) (l:Nat) (hT:jm md ops T l i=true) (hTi:l≤T i) :
  ∀ (fuel:Nat) (listed:Array Bool) (a:Act) (w:World),
   (∀ j oj,ops[j]? = some oj→j≠i→listed.getD j true=false→(∀ e ∈ oj.after,Region.binds md e=true→e.on≠i)→oi.apart ops oj=true) →
   Closed md ops listed→i ∈ Region.ready md ops listed→YieldsIf P ops (S l) oi v a→S l w →
   jI P md ops Q S T fuel (listed.setIfInBounds i true) (a.put oi.dst v) w→jI P md ops Q S T (fuel+1) listed a w:=by
 intro fuel
 induction fuel with
 | zero =>
  intro listed a w _ _ hr hy hS H;refine ⟨fun h=>(by rw [h] at hr;cases hr),fun j hj=>?_⟩
  by_cases hji:j=i
  ·subst hji;exact hy.wpOp hi hS ⟨hD.le hTi hS,H⟩
  ·have := ready_mono hj hji;rw [H.1] at this
   cases this
 | succ fuel ih =>
  intro listed a w hfree hc hr hy hS H;refine ⟨fun h=>(by rw [h] at hr;cases hr),fun j hj=>?_⟩
  by_cases hji:j=i
  ·subst hji;exact hy.wpOp hi hS ⟨hD.le hTi hS,H⟩
  ·have h1 := H.2 j (ready_mono hj hji);obtain ⟨hjun,oj,hoj,hall⟩:=mem_ready.1 hj
   have hnot:∀ e ∈ oj.after,Region.binds md e=true→e.on≠i:=fun e he hb heq=>by
    have h1:=hall e he hb;have h0:=(mem_ready.1 hr).1;rw [heq] at h1
    rcases Nat.lt_or_ge i listed.size with h' | h'
    ·simp [h'] at h0 h1;rw [h0] at h1;cases h1
    ·simp [Array.getElem?_eq_none h'] at h1
   have hTj:T j≤l:=by
    rcases Nat.lt_or_ge l (T j) with h | h
    ·exfalso;have hjl:j<ops.size:=(Array.getElem?_eq_some_iff.1 hoj).1;have:=List.all_eq_true.1 hT j (List.mem_range.2 hjl);rw [decide_eq_false (by omega)] at this;have hl:=pV hc _ j oj hoj hall (by simpa using this);have h0:=(mem_ready.1 hr).1
     rcases Nat.lt_or_ge i listed.size with h' | h'
     ·simp [h'] at h0 hl;rw [h0] at hl;cases hl
     ·simp [Array.getElem?_eq_none h'] at hl
    ·exact h
   have h2:=wpOp_putIf hoj (hfree j oj hoj hji hjun hnot) (fun cs b=>hsel i oi cs b hi) (fun cs b=>hsel j oj cs b hoj) hQ hy h1
   have hfree' : ∀ k ok, ops[k]? = some ok → k ≠ i → (listed.setIfInBounds j true).getD k true = false →
     (∀ e ∈ ok.after,Region.binds md e=true→e.on≠i)→oi.apart ops ok=true:=fun k ok hk hki hun hno=>by
    refine hfree k ok hk hki ?_ hno
    by_cases hjk:j=k
    ·subst hjk;exact hjun
    ·rw [getD_set_ne true hjk] at hun;exact hun
   refine wpOp_mono (fun a' w' h3=>⟨h3.2.1,ih (listed.setIfInBounds j true) a' w' hfree' (hc.set hoj hall) (ready_mono hr (Ne.symm hji)) h3.1 (hD.le hTj h3.2.1) ?_⟩) h2;rw [Array.setIfInBounds_comm _ _ hji];exact h3.2.2
theorem Ec {i : Nat} {oi : Oper} {v : Value} {fuel : Nat} {listed : Array Bool} {a : Act} {w : World} (hi : ops[i]? = some oi)
  (hs:Region.noSelect ops=true) (hD:aG S) (l:Nat) (hT:jm md ops T l i=true) (hTi:l≤T i) (hC:lF md ops listed=true) (hf:Region.free md ops listed i=true) (hr:(Region.ready md ops listed).contains i=true)
  (hQ:∀ c a w,Q (.panic c) (a.put oi.dst v) w→Q (.panic c) a w) (hy:YieldsIf P ops (S l) oi v a) (hS:S l w)
  (h:jI P md ops Q S T fuel (listed.setIfInBounds i true) (a.put oi.dst v) w):jI P md ops Q S T (fuel+1) listed a w :=
 BI hi (Region.noSelect_spec hs) hQ hD l hT hTi fuel listed a w (Region.free_spec hi hf) (uJ hC) (by simpa using hr) hy hS h

def dJ (P:Program) (md:Region.Mode) (ops:Array Oper) (Q:Exit→Act→World→Prop) (S:Nat→World→Prop) (T:Nat→Nat) (fuel:Nat) (listed:Array Bool) (a:Act) (w:World) (rs:List Nat):Prop :=
 ∀ i ∈ rs,wpOp P ops Q i (fun a' w'=>S (T i) w'∧jI P md ops Q S T fuel (listed.setIfInBounds i true) a' w') a w
theorem dJ.nil {fuel:Nat} {listed:Array Bool} {a:Act} {w:World}:dJ P md ops Q S T fuel listed a w []:=fun _ h=>by cases h
theorem dJ.cons {fuel : Nat} {listed : Array Bool} {a : Act} {w : World} {i : Nat} {o : Oper} {rs : List Nat} (l : Nat) (hl : T i = l) (ho : ops[i]? = some o)
  (h:∀ K':Act→World→Prop,Shut (∀ a w,S l w→(S l w→jI P md ops Q S T fuel (listed.setIfInBounds i true) a w)→K' a w)→if Region.wanted o (yielded ops a.tmps)=true then Oper.wp P o a w K' Q else K' (a.put o.dst undef) w)
  (hs:dJ P md ops Q S T fuel listed a w rs):dJ P md ops Q S T fuel listed a w (i :: rs):=fun j hj=>by
 subst hl
 rcases List.mem_cons.1 hj with rfl | hj
 ·exact wpOp_step ho (fun K' hK=>h K' (fun a w hS hW=>hK a w ⟨hS,hW hS⟩))
 ·exact hs j hj
theorem iQ {rs : List Nat} {fuel : Nat} {listed : Array Bool} {a : Act} {w : World} (hr : Region.ready md ops listed = rs) (hne : rs ≠ [])
  (h:dJ P md ops Q S T fuel listed a w rs):jI P md ops Q S T (fuel+1) listed a w :=
 ⟨fun h0=>absurd (hr ▸ h0) hne,hr ▸ h⟩
theorem Eh {listed : Array Bool} {a : Act} {w : World} (hr : Region.ready md ops listed = []) (h : Q .normal a w) : ∀ fuel, jI P md ops Q S T fuel listed a w
 | 0=>⟨hr,h⟩
 | _+1=>⟨fun _=>h,by rw [hr];simp⟩
theorem EG {id : Nat} {a : Act} {w : World} (hm : P.follows .mixedOrders = true) (hS : S 0 w.drew)
  (h:S 0 w.drew→jI P .any ops Q S T ops.size (Array.replicate ops.size false) a w.drew):(Code.region id ops true).wp P Q a w :=
 wp_region_any hm (xg _ _ _ _ (h hS))
theorem sV (L:List Value) (df:List Deferred) (k:Nat) (v:Value):Act.put ⟨L.toArray,df⟩ (some k) v=⟨(L.set k v).toArray,df⟩:=by simp [Act.put]

def Hz : List (Nat × Nat) → Array Bool → Array Bool
 | [],listed=>listed
 | (i,_) :: r,listed=>Hz r (listed.setIfInBounds i true)
def dV : List (Nat × Nat) → List Value → List Value
 | [],L=>L
 | (_,k) :: r,L=>dV r (L.set k undef)

theorem jB {fuel' : Nat} {listed : Array Bool} {L : List Value} {df : List Deferred} {w : World} (i k fuel l : Nat) {oi : Oper} {v : Value} (hi : ops[i]? = some oi) (hd : oi.dst = some k)
  (hs:Region.noSelect ops=true) (hD:aG S) (hT:jm md ops T l i=true) (hTi:decide (l≤T i)=true) (hC:lF md ops listed=true) (hf:Region.free md ops listed i=true) (hr:(Region.ready md ops listed).contains i=true) (hfu:fuel'=fuel+1) (hQ:∀ c a a' w,Q (.panic c) a' w→Q (.panic c) a w)
  (hw:Region.wanted oi (yielded ops L.toArray)=true) (hy:∀ w,S l w→(execOp (Act.eval ⟨L.toArray,df⟩) oi).run P w = .ok (.value v) w) (hS:S l w)
  (h:jI P md ops Q S T fuel (listed.setIfInBounds i true) ⟨(L.set k v).toArray,df⟩ w):jI P md ops Q S T fuel' listed ⟨L.toArray,df⟩ w:=by
 subst hfu;exact Ec (v:=v) hi hs hD l hT (of_decide_eq_true hTi) hC hf hr (fun c a w hq=>hQ c a _ w hq) (Or.inl ⟨hw,hy⟩) hS (by rw [hd,sV];exact h)
end
section
variable {w0 w w':World}
variable {P:Program} {ops:Array Oper} {Q:Exit→Act→World→Prop} {md:Region.Mode} {S:Nat→World→Prop} {T:Nat→Nat}

def eH (P : Program) (md : Region.Mode) (ops : Array Oper) (Q : Exit → Act → World → Prop) (S : Nat → World → Prop) (T : Nat → Nat) : Nat → Nat → Array Bool → Act → World → Prop
 | 0,_,listed,a,w=>Region.ready md ops listed=[]∧Q .normal a w
 | fuel+1,lev,listed,a,w =>
  (Region.ready md ops listed=[]→Q .normal a w) ∧
  ∀ i ∈ Region.ready md ops listed,wpOp P ops Q i (fun a' w'=>S (max lev (T i)) w'∧eH P md ops Q S T fuel (max lev (T i)) (listed.setIfInBounds i true) a' w') a w
theorem vY : ∀ (fuel lev : Nat) (listed : Array Bool) (a : Act) (w : World), eH P md ops Q S T fuel lev listed a w → wpAny P md ops Q fuel listed a w
 | 0,_,_,_,_,h=>h
 | fuel+1,_,_,_,_,h=>⟨h.1,fun i hi=>wpOp_mono (fun a' w' h'=>vY fuel _ _ a' w' h'.2) (h.2 i hi)⟩
theorem BN {i : Nat} {oi : Oper} {v : Value} (hi : ops[i]? = some oi) (hsel : ∀ (j : Nat) (o : Oper) cs b, ops[j]? = some o → o.op ≠ .select cs b)
  (hQ:∀ c a w,Q (.panic c) (a.put oi.dst v) w→Q (.panic c) a w) (hD:aG S) (l:Nat) (hT:jm md ops T l i=true) (hTi:T i=0) :
  ∀ (fuel lev:Nat) (listed:Array Bool) (a:Act) (w:World),
   (∀ j oj,ops[j]? = some oj→j≠i→listed.getD j true=false→(∀ e ∈ oj.after,Region.binds md e=true→e.on≠i)→oi.apart ops oj=true) →
   Closed md ops listed→i ∈ Region.ready md ops listed→YieldsIf P ops (S l) oi v a→lev≤l→S lev w →
   eH P md ops Q S T fuel lev (listed.setIfInBounds i true) (a.put oi.dst v) w→eH P md ops Q S T (fuel+1) lev listed a w:=by
 intro fuel
 induction fuel with
 | zero =>
  intro lev listed a w _ _ hr hy hl hS H;refine ⟨fun h=>(by rw [h] at hr;cases hr),fun j hj=>?_⟩
  by_cases hji:j=i
  ·subst hji;rw [hTi,Nat.max_zero];exact hy.wpOp hi (hD.le hl hS) ⟨hS,H⟩
  ·have := ready_mono hj hji;rw [H.1] at this
   cases this
 | succ fuel ih =>
  intro lev listed a w hfree hc hr hy hl hS H;refine ⟨fun h=>(by rw [h] at hr;cases hr),fun j hj=>?_⟩
  by_cases hji:j=i
  ·subst hji;rw [hTi,Nat.max_zero];exact hy.wpOp hi (hD.le hl hS) ⟨hS,H⟩
  ·have h1 := H.2 j (ready_mono hj hji);obtain ⟨hjun,oj,hoj,hall⟩:=mem_ready.1 hj
   have hnot:∀ e ∈ oj.after,Region.binds md e=true→e.on≠i:=fun e he hb heq=>by
    have h1:=hall e he hb;have h0:=(mem_ready.1 hr).1;rw [heq] at h1
    rcases Nat.lt_or_ge i listed.size with h' | h'
    ·simp [h'] at h0 h1;rw [h0] at h1;cases h1
    ·simp [Array.getElem?_eq_none h'] at h1
   have hTj:T j≤l:=by
    rcases Nat.lt_or_ge l (T j) with h | h
    ·exfalso;have hjl:j<ops.size:=(Array.getElem?_eq_some_iff.1 hoj).1;have:=List.all_eq_true.1 hT j (List.mem_range.2 hjl);rw [decide_eq_false (by omega)] at this;have hli:=pV hc _ j oj hoj hall (by simpa using this);have h0:=(mem_ready.1 hr).1
     rcases Nat.lt_or_ge i listed.size with h' | h'
     ·simp [h'] at h0 hli;rw [h0] at hli;cases hli
     ·simp [Array.getElem?_eq_none h'] at hli
    ·exact h
   have h2:=wpOp_putIf hoj (hfree j oj hoj hji hjun hnot) (fun cs b=>hsel i oi cs b hi) (fun cs b=>hsel j oj cs b hoj) hQ hy h1
   have hfree' : ∀ k ok, ops[k]? = some ok → k ≠ i → (listed.setIfInBounds j true).getD k true = false →
     (∀ e ∈ ok.after,Region.binds md e=true→e.on≠i)→oi.apart ops ok=true:=fun k ok hk hki hun hno=>by
    refine hfree k ok hk hki ?_ hno
    by_cases hjk:j=k
    ·subst hjk;exact hjun
    ·rw [getD_set_ne true hjk] at hun;exact hun
   refine wpOp_mono (fun a' w' h3=>⟨h3.2.1,ih (max lev (T j)) (listed.setIfInBounds j true) a' w' hfree' (hc.set hoj hall) (ready_mono hr (Ne.symm hji)) h3.1 (Nat.max_le.2 ⟨hl,hTj⟩) h3.2.1 ?_⟩) h2;rw [Array.setIfInBounds_comm _ _ hji];exact h3.2.2
theorem uM {i : Nat} {oi : Oper} {v : Value} {fuel lev : Nat} {listed : Array Bool} {a : Act} {w : World} (hi : ops[i]? = some oi)
  (hs:Region.noSelect ops=true) (hD:aG S) (l:Nat) (hT:jm md ops T l i=true) (hTi:T i=0) (hC:lF md ops listed=true) (hf:Region.free md ops listed i=true) (hr:(Region.ready md ops listed).contains i=true)
  (hQ:∀ c a w,Q (.panic c) (a.put oi.dst v) w→Q (.panic c) a w) (hy:YieldsIf P ops (S l) oi v a) (hl:lev≤l) (hS:S lev w)
  (h:eH P md ops Q S T fuel lev (listed.setIfInBounds i true) (a.put oi.dst v) w):eH P md ops Q S T (fuel+1) lev listed a w :=
 BN hi (Region.noSelect_spec hs) hQ hD l hT hTi fuel lev listed a w (Region.free_spec hi hf) (uJ hC) (by simpa using hr) hy hl hS h

def dO (P:Program) (md:Region.Mode) (ops:Array Oper) (Q:Exit→Act→World→Prop) (S:Nat→World→Prop) (T:Nat→Nat) (fuel lev:Nat) (listed:Array Bool) (a:Act) (w:World) (rs:List Nat):Prop :=
 ∀ i ∈ rs,wpOp P ops Q i (fun a' w'=>S (max lev (T i)) w'∧eH P md ops Q S T fuel (max lev (T i)) (listed.setIfInBounds i true) a' w') a w
theorem dO.nil {fuel lev:Nat} {listed:Array Bool} {a:Act} {w:World}:dO P md ops Q S T fuel lev listed a w []:=fun _ h=>by cases h
theorem dO.cons {fuel lev : Nat} {listed : Array Bool} {a : Act} {w : World} {i : Nat} {o : Oper} {rs : List Nat} (l : Nat) (hl : max lev (T i) = l) (ho : ops[i]? = some o)
  (h:∀ K':Act→World→Prop,Shut (∀ a w,S l w→(S l w→eH P md ops Q S T fuel l (listed.setIfInBounds i true) a w)→K' a w)→if Region.wanted o (yielded ops a.tmps)=true then Oper.wp P o a w K' Q else K' (a.put o.dst undef) w)
  (hs:dO P md ops Q S T fuel lev listed a w rs):dO P md ops Q S T fuel lev listed a w (i :: rs):=fun j hj=>by
 subst hl
 rcases List.mem_cons.1 hj with rfl | hj
 ·exact wpOp_step ho (fun K' hK=>h K' (fun a w hS hW=>hK a w ⟨hS,hW hS⟩))
 ·exact hs j hj
theorem sI {rs : List Nat} {fuel lev : Nat} {listed : Array Bool} {a : Act} {w : World} (hr : Region.ready md ops listed = rs) (hne : rs ≠ [])
  (h:dO P md ops Q S T fuel lev listed a w rs):eH P md ops Q S T (fuel+1) lev listed a w :=
 ⟨fun h0=>absurd (hr ▸ h0) hne,hr ▸ h⟩
theorem ak {listed : Array Bool} {a : Act} {w : World} (hr : Region.ready md ops listed = []) (h : Q .normal a w) (lev : Nat) : ∀ fuel, eH P md ops Q S T fuel lev listed a w
 | 0=>⟨hr,h⟩
 | _+1=>⟨fun _=>h,by rw [hr];simp⟩
theorem au {id : Nat} {a : Act} {w : World} (hm : P.follows .mixedOrders = true) (hS : S 0 w.drew)
  (h:S 0 w.drew→eH P .any ops Q S T ops.size 0 (Array.replicate ops.size false) a w.drew):(Code.region id ops true).wp P Q a w :=
 wp_region_any hm (vY _ _ _ _ _ (h hS))

def BR (md : Region.Mode) (ops : Array Oper) (T : Nat → Nat) (l : Nat) : List (Nat × Nat) → Array Bool → List Value → Bool
 | [],_,_=>true
 | (i,k) :: r,listed,L=>(match ops[i]? with
   | some o=>(match o.dst with | some d=>d == k | none=>false) && jm md ops T l i && decide (T i=0) && lF md ops listed && Region.free md ops listed i && (Region.ready md ops listed).contains i && !Region.wanted o (yielded ops L.toArray)
   | none=>false) && BR md ops T l r (listed.setIfInBounds i true) (L.set k undef)
theorem iD {df:List Deferred} {w:World} (hs:Region.noSelect ops=true) (hQ:∀ c a a' w,Q (.panic c) a' w→Q (.panic c) a w) (hD:aG S) (l lev:Nat) (hl:lev≤l) (hS:S lev w) :
  ∀ (is : List (Nat × Nat)) (fuel fuel' : Nat) (listed : Array Bool) (L : List Value), BR md ops T l is listed L = true → fuel' = fuel + is.length →
   eH P md ops Q S T fuel lev (Hz is listed) ⟨(dV is L).toArray,df⟩ w→eH P md ops Q S T fuel' lev listed ⟨L.toArray,df⟩ w:=by
 intro is
 induction is with
 | nil=>intro fuel fuel' listed L _ hf h;rw [hf];exact h
 | cons x r ih =>
  obtain ⟨i,k⟩:=x;intro fuel fuel' listed L hok hf h;simp only [BR,Bool.and_eq_true] at hok;obtain ⟨h1,h2⟩:=hok
  split at h1
  ·rename_i o ho;simp only [Bool.and_eq_true,Bool.not_eq_true',decide_eq_true_iff] at h1;obtain ⟨⟨⟨⟨⟨⟨a,t1⟩,t2⟩,t3⟩,b⟩,c⟩,d⟩:=h1
   have hd:o.dst=some k:=by
    split at a
    ·rename_i e he;rw [he];exact congrArg some (by simpa using a)
    ·cases a
   rw [hf,List.length_cons,← Nat.add_assoc];refine uM (v:=undef) ho hs hD l t1 t2 t3 b c (fun c a w hq=>hQ c a _ w hq) (Or.inr ⟨d,rfl⟩) hl hS ?_;rw [hd,sV];exact ih fuel _ _ _ h2 rfl h
  ·cases h1

theorem NQ {fuel' : Nat} {listed : Array Bool} {L : List Value} {df : List Deferred} {w : World} (i k fuel l lev : Nat) {oi : Oper} {v : Value} (hi : ops[i]? = some oi) (hd : oi.dst = some k)
  (hs:Region.noSelect ops=true) (hD:aG S) (hT:jm md ops T l i=true) (hTi:decide (T i=0)=true) (hC:lF md ops listed=true) (hf:Region.free md ops listed i=true) (hr:(Region.ready md ops listed).contains i=true) (hfu:fuel'=fuel+1) (hQ:∀ c a a' w,Q (.panic c) a' w→Q (.panic c) a w)
  (hw:Region.wanted oi (yielded ops L.toArray)=true) (hy:∀ w,S l w→(execOp (Act.eval ⟨L.toArray,df⟩) oi).run P w = .ok (.value v) w) (hl:lev≤l) (hS:S lev w)
  (h:eH P md ops Q S T fuel lev (listed.setIfInBounds i true) ⟨(L.set k v).toArray,df⟩ w):eH P md ops Q S T fuel' lev listed ⟨L.toArray,df⟩ w:=by
 subst hfu;exact uM (v:=v) hi hs hD l hT (of_decide_eq_true hTi) hC hf hr (fun c a w hq=>hQ c a _ w hq) (Or.inl ⟨hw,hy⟩) hl hS (by rw [hd,sV];exact h)
end
theorem Sl.alloc {A:Option Addr} {n c:Nat} {l:List V} (h:Sl w A n c l) (o:Obj):Sl (w.alloc o) A n c l:=h.below ((Below.refl _ _).alloc (Nat.le_refl _) _)
theorem There.alloc {g n:Nat} (h:There w g n) (o:Obj):There (w.alloc o) g n:=There.below ((Below.refl _ _).alloc (Nat.le_refl _) _) h
theorem There.fresh2 {u v:Value} {t:TypeId} (hu:u.oneCell'=true) (hv:v.oneCell'=true):There (w.alloc (.cells #[u,v] t)) w.heap.size 2:=fun j hj=>by
 match j,hj with
 | 0,_ | 1,_=>exact ⟨⟨_,by go_simp;rfl⟩,by go_simp⟩
theorem FL {m:Int} {l:List V} (h:∀ j,j<l.length→aL m (px l j) (py l j)=true):aF m l=true:=by
 unfold aF;rw [List.all_eq_true];intro x hx;obtain ⟨j,hj,rfl⟩:=List.mem_iff_getElem.1 hx;have:=h j hj;rw [wu hj];exact this
theorem NG {P:Program} (ts:Array TypeId) (t:TypeId) (x y z u:Int) (w:World):(Builtin.max_ ts t #[.int .i64 x,.int .i64 y,.int .i64 z,.int .i64 u]).run P w = .ok (.int .i64 (max (max (max x y) z) u)) w:=by
 have e:∀ a b:Int,max a b=if b > a then b else a:=fun a b=>by rw [Int.max_def];split <;> split <;> omega
 simp only [e];simp [Builtin.max_,Builtin.max2]
theorem yB (g:Nat) (f:V→Bool) (hcf:∀ (args:Array Value) (w:World),(callFunc g args).run Tryz.prog w = .ok (.enter g args) w) (hg:∀ a b w,Calls Tryz.prog g #[cZ a b] w (dS (.bool (f (a,b))) w)) (A:Option Addr) (n c:Nat) (l:List V) (w:World) (hS:Sl w A n c l) :
  Calls Tryz.prog 240 #[.slice A n c,.func (.func g) #[] #[]] w (dS (.int .i64 (firstIdx f l)) w):=by
 obtain ⟨hn,hcap,hbig,hat⟩:=hS;subst hn
 go_enter Tryz.func240,Tryz.ntmps240
 go_wp2
 go_loopw [8] (fun i wr=>∃ k:Nat,k≤l.length∧i = .int .i64 k∧qF f l k∧Below w.heap.size w wr) (fun i _=>l.length-(intOf i).toNat)
 case atStart=>exact ⟨0,Nat.zero_le _,rfl,uQ _ _,Below.refl _ _⟩
 case round =>
  obtain ⟨k,hk,rfl,hno,hB⟩:=hrel
  by_cases hlt:k<l.length
  ·obtain ⟨b, off, rfl, hC⟩ := hat (by intro h; subst h; simp at hlt);have hC':=hC.below hB;have hx:=hC'.x k hlt;have hy:=hC'.y k hlt;have HN:=hid hno;have HG:=hid hg;clear hno hat hC hC' hg
   cases hv:f (px l k,py l k) with
   | true =>
    have HV:=hid hv;clear hv
    go_wp2_with fail
    refine (HG.out _ _ _).mono ?_;rintro e w1 ⟨rfl,hb1⟩;rw [HV.out];go_wp2
    go_returns
    exact aH (qU hlt HN.out HV.out).symm (hB.trans (hb1.mono hB.size))
   | false =>
    have HV:=hid hv;clear hv
    go_wp2_with fail
    refine (HG.out _ _ _).mono ?_;rintro e w1 ⟨rfl,hb1⟩;rw [HV.out];go_wp2;exact ⟨⟨k+1,hlt,by go_num,ug HN.out HV.out,hB.trans (hb1.mono hB.size)⟩,by simp [intOf];omega⟩
  ·have hge : l.length ≤ k := by omega
   have HN:=hid hno;clear hno hat hlt hg;go_wp2
   go_returns
   exact aH (firstIdx_none (by have:=HN.out;rwa [show k=l.length by omega] at this)).symm hB
theorem tu (g:Nat) (f:V→Bool) (hcf:∀ (args:Array Value) (w:World),(callFunc g args).run Tryz.prog w = .ok (.enter g args) w) (hg:∀ a b w,Calls Tryz.prog g #[cZ a b] w (dS (.bool (f (a,b))) w)) (A:Option Addr) (n c:Nat) (l:List V) (w:World) (hS:Sl w A n c l) :
  Calls Tryz.prog 209 #[.slice A n c,.func (.func g) #[] #[]] w (dS (.bool (l.any f)) w):=by
 have HG:=hid hg;clear hg
 go_enter Tryz.func209,Tryz.ntmps209
 go_wp2_with (go_at_call 240;refine (yB g f hcf HG.out _ _ _ l _ hS).mono ?_;rintro e w1 ⟨rfl,hb⟩)
 go_returns
 exact bg (by
  have h:=rQ f l;simp only [ge_iff_le] at h
  rw [h]) hb
end
end Go.Proofs.YtokgmcomgflloaaGreat
