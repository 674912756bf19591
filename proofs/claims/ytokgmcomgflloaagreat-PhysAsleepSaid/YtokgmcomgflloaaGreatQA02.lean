/- Parts of a proof: contracts and laws. -/
import Derived.Test.YtokgmcomgflloaaGreatQA00
import Derived.ProofKit
import Derived.OpenShut
import Derived.Lib.SmallJoins
import Derived.Deep.Slices
import Derived.Deep.Fields
import Derived.ChangeSame
import Derived.Carry
import Derived.Test.YtokgmcomgflloaaGreatQA01
import Derived.Deep.RegionHeld3
import Derived.Deep.DeepCutAuto
set_option maxRecDepth 100000
set_option maxHeartbeats 16000000
namespace Go.Proofs.YtokgmcomgflloaaGreat
section
set_option linter.unusedVariables false
set_option linter.unusedSimpArgs false
open Go.ChangeShapes Go.WideShapes Go.ChangeAt Go.RowKit Go.Deep Go.Joins
variable {w0 w w':World}
theorem KZ:ownKnob Tryz.prog.godebug=none:=by kernel_rfl
theorem JU:laidOutB Tryz.prog=true:=by kernel_rfl
theorem Je:Tryz.prog.cellsOf 3=1:=by kernel_rfl

section
variable {w0 w w':World}
variable {H:Type} {enc:TypeId × Value→H} {W:World} {held:Bool} {base:Nat} {sp:Nat→Bool}


end
section
variable {w0 w w':World}
variable {H:Type} {enc:TypeId × Value→H} {P:Program}

theorem FC {f : Func} {s : ChangeSpec} {apart fresh handsOn again : Bool} {W W' : World} {args : Array Value} {v : Value} {ds gs : List (DataW H)} {before pa pv : List MemPlace}
  (hW:DataW.Whole enc P f.params.toList s.vars apart W args.toList ds gs before)
  (hres:∀ (b:Nat) (sp:Nat→Bool) (hd:Bool),DataW.TrodAll enc P W' b sp hd f.resultTypes.toList (v.resultList f.resultTypes.size) (s.fn H (ds ++ gs)).results [])
  (hargs:∀ sp:Nat→Bool,(∀ p ∈ before,sp p.block=true)→DataW.TrodAll enc P W' 0 sp true f.params.toList args.toList (s.fn H (ds ++ gs)).args pa)
  (hvars:∀ sp:Nat→Bool,(∀ p ∈ before,sp p.block=true)→DataW.TrodVars enc P W' sp s.vars (s.fn H (ds ++ gs)).vars pv)
  (hps:before=pa ++ pv) (hb:Below W.heap.size W W')
  (hok:∀ (j:Nat) (t:TypeId) (r:Value),f.resultTypes[j]? = some t→(v.resultList f.resultTypes.size)[j]? = some r→Value.okWide P W' .any 0 t r) :
  s.post enc P f apart fresh handsOn again W args v W':=by
 have hlt:∀ p ∈ before,p.block<W.heap.size:=fun p hp=>hW.lt p hp
 refine ⟨ds,gs,before,[],pa,pv,hW,hres _ _ _,hargs _ (fun p hp=>by simpa using hlt p hp),hvars _ (fun p hp=>by simpa using hlt p hp),World.keptBut_mono (fun p hp=>⟨hp,?_⟩) (hb.frame (· ∈ before)),fun _=>?_⟩
 ·rw [hps, List.mem_append] at hp;exact Or.inr hp
 ·obtain ⟨_, _, _, _, _, hz, hn⟩ := hW;refine ⟨hok,_,_,([] ++ pa) ++ pv,⟨[] ++ pa,pv,trodAll_append (hargs _ (fun _ _=>rfl)) (hres _ _ _),hvars _ (fun _ _=>rfl),rfl,?_,?_⟩,?_⟩
  ·intro b off hp;have hin:MemPlace.cell b off ∈ before:=by rw [hps];simpa using hp
   rw [hb.frozen (hlt _ hin)];exact hz b off hin
  ·intro ha;have:=hn ha;rw [hps] at this;simpa using this
  ·intro p hp _;rw [hps];simpa using hp
end
section
variable {w0 w w':World}
variable {H:Type} {enc:TypeId × Value→H} {W:World} {held:Bool} {base:Nat} {sp:Nat→Bool}


end
end
section
set_option linter.unusedVariables false
set_option linter.unusedSimpArgs false
open Go.RowKit
variable {w0 w w':World}

def S2 (A : World → Prop) : Nat → World → Prop
 | 0,w=>A w
 | _+1,_=>True
def S3 (A B : World → Prop) : Nat → World → Prop
 | 0,w=>A w
 | 1,w=>B w
 | _+2,_=>True
section
variable {w0 w w':World}
variable {A B C:World→Prop} {w:World}
theorem aA (h:S2 A 0 w):A w:=h
theorem aC (h:A w):S2 A 0 w:=h
theorem dY:S2 A 1 w:=trivial
theorem dR (h:S3 A B 0 w):A w:=h
theorem rV (h:S3 A B 1 w):B w:=h
theorem iC (h:A w):S3 A B 0 w:=h
theorem rF (h:B w):S3 A B 1 w:=h
theorem vR:S3 A B 2 w:=trivial
end
section
variable {w0 w w':World}
variable {P:Program} {ops:Array Oper} {Q:Exit→Act→World→Prop} {md:Region.Mode} {S:Nat→World→Prop} {T:Nat→Nat}

def Fv (P : Program) (md : Region.Mode) (ops : Array Oper) (Q : Exit → Act → World → Prop) (S : Nat → World → Prop) (T : Nat → Nat) : Nat → Array Bool → Act → World → Prop
 | 0,listed,a,w=>Region.ready md ops listed=[]∧Q .normal a w
 | fuel+1,listed,a,w =>
  (Region.ready md ops listed=[]→Q .normal a w) ∧
  ∀ i ∈ Region.ready md ops listed,wpOp P ops Q i (fun a' w'=>S (T i) w'∧Fv P md ops Q S T fuel (listed.setIfInBounds i true) a' w') a w

def aH (S:Nat→World→Prop):Prop:=∀ l w,S l w→S (l+1) w
theorem aH.le (h:aH S) {l m:Nat} (hlm:l≤m) {w:World} (hS:S l w):S m w:=by
 obtain ⟨d,rfl⟩:∃ d,m=l+d:=⟨m-l,by omega⟩;clear hlm
 induction d with
 | zero=>exact hS
 | succ d ih=>exact h _ _ ih
theorem aK (A:World→Prop):aH (S2 A):=fun l w h=>trivial
theorem fP {A B:World→Prop} (h1:∀ w,A w→B w):aH (S3 A B):=fun l w h=>match l,h with
 | 0,h=>h1 w h
 | 1,_=>trivial
 | _+2,_=>trivial

def xU (md : Region.Mode) (ops : Array Oper) : Nat → Nat → Nat → Bool
 | 0,_,_=>false
 | f+1,j,i=>match ops[j]? with
  | some o=>o.after.any fun e=>Region.binds md e && (e.on == i || xU md ops f e.on i)
  | none=>false

def nI (md:Region.Mode) (ops:Array Oper) (T:Nat→Nat) (l i:Nat):Bool :=
 (List.range ops.size).all fun j=>decide (T j≤l) || xU md ops ops.size j i

def Closed (md:Region.Mode) (ops:Array Oper) (listed:Array Bool):Prop :=
 ∀ j o,ops[j]? = some o→listed.getD j false=true→∀ e ∈ o.after,Region.binds md e=true→listed.getD e.on false=true
def qC (md:Region.Mode) (ops:Array Oper) (listed:Array Bool):Bool :=
 (List.range ops.size).all fun j => !(listed.getD j false) || (match ops[j]? with | some o=>o.after.all fun e => !Region.binds md e || listed.getD e.on false | none=>true)
theorem Ed {listed:Array Bool} (h:qC md ops listed=true):Closed md ops listed:=by
 intro j o ho hl e he hb;have hjl:j<ops.size:=(Array.getElem?_eq_some_iff.1 ho).1;have:=List.all_eq_true.1 h j (List.mem_range.2 hjl);rw [hl,ho] at this;simp only [Bool.not_true,Bool.false_or,Array.all_eq_true_iff_forall_mem] at this;have:=this e he;rw [hb] at this;simpa using this
theorem yS {listed:Array Bool} (hc:Closed md ops listed) {i:Nat}:∀ (f j:Nat) (o:Oper),ops[j]? = some o→(∀ e ∈ o.after,Region.binds md e=true→listed.getD e.on false=true)→xU md ops f j i=true→listed.getD i false=true:=by
 intro f
 induction f with
 | zero=>intro j o _ _ h;cases h
 | succ f ih =>
  intro j o ho hall h;simp only [xU,ho,Array.any_eq_true,Bool.and_eq_true,Bool.or_eq_true,beq_iff_eq] at h;obtain ⟨k,hk,hb,h | h⟩:=h
  ·rw [← h];exact hall _ (Array.getElem_mem hk) hb
  ·have hl := hall _ (Array.getElem_mem hk) hb
   cases hq:ops[(o.after[k]).on]? with
   | none =>
    cases f with
    | zero=>cases h
    | succ f=>simp [xU,hq] at h
   | some o'=>exact ih _ o' hq (hc _ o' hq hl) h
theorem yY {listed:Array Bool} {j m:Nat} (h:listed.getD m false=true):(listed.setIfInBounds j true).getD m false=true:=by
 rcases Nat.lt_or_ge m listed.size with h1 | h1
 ·simp [h1] at h ⊢;rw [Array.getElem_setIfInBounds (by simpa using h1)]
  split <;> simp [*]
 ·simp [Array.getElem?_eq_none h1] at h
theorem Closed.set {listed:Array Bool} (hc:Closed md ops listed) {j:Nat} {oj:Oper} (hj:ops[j]? = some oj) (hall:∀ e ∈ oj.after,Region.binds md e=true→listed.getD e.on false=true):Closed md ops (listed.setIfInBounds j true):=by
 intro k o ho hl e he hb;refine yY ?_
 by_cases hkj:k=j
 ·subst hkj;rw [ho] at hj
  cases hj
  exact hall e he hb
 ·refine hc k o ho ?_ e he hb
  rcases Nat.lt_or_ge k listed.size with h1 | h1
  ·simp [h1] at hl ⊢;rwa [Array.getElem_setIfInBounds_ne _ (by omega)] at hl
  ·simp [Array.getElem?_eq_none h1] at hl;rw [Array.getElem?_eq_none (by simpa using h1)] at hl;simp at hl

def mR (P:Program) (md:Region.Mode) (ops:Array Oper) (Q:Exit→Act→World→Prop) (S:Nat→World→Prop) (T:Nat→Nat) (fuel:Nat) (listed:Array Bool) (a:Act) (w:World) (rs:List Nat):Prop :=
 ∀ i ∈ rs,wpOp P ops Q i (fun a' w'=>S (T i) w'∧Fv P md ops Q S T fuel (listed.setIfInBounds i true) a' w') a w
theorem mR.nil {fuel:Nat} {listed:Array Bool} {a:Act} {w:World}:mR P md ops Q S T fuel listed a w []:=fun _ h=>by cases h
theorem mR.cons {fuel : Nat} {listed : Array Bool} {a : Act} {w : World} {i : Nat} {o : Oper} {rs : List Nat} (l : Nat) (hl : T i = l) (ho : ops[i]? = some o)
  (h:∀ K':Act→World→Prop,Shut (∀ a w,S l w→(S l w→Fv P md ops Q S T fuel (listed.setIfInBounds i true) a w)→K' a w)→if Region.wanted o (yielded ops a.tmps)=true then Oper.wp P o a w K' Q else K' (a.put o.dst undef) w)
  (hs:mR P md ops Q S T fuel listed a w rs):mR P md ops Q S T fuel listed a w (i :: rs):=fun j hj=>by
 subst hl
 rcases List.mem_cons.1 hj with rfl | hj
 ·exact wpOp_step ho (fun K' hK=>h K' (fun a w hS hW=>hK a w ⟨hS,hW hS⟩))
 ·exact hs j hj
theorem Ah (L:List Value) (df:List Deferred) (k:Nat) (v:Value):Act.put ⟨L.toArray,df⟩ (some k) v=⟨(L.set k v).toArray,df⟩:=by simp [Act.put]

def GR : List (Nat × Nat) → Array Bool → Array Bool
 | [],listed=>listed
 | (i,_) :: r,listed=>GR r (listed.setIfInBounds i true)
def fZ : List (Nat × Nat) → List Value → List Value
 | [],L=>L
 | (_,k) :: r,L=>fZ r (L.set k undef)

end
section
variable {w0 w w':World}
variable {P:Program} {ops:Array Oper} {Q:Exit→Act→World→Prop} {md:Region.Mode} {S:Nat→World→Prop} {T:Nat→Nat}

def eG (P : Program) (md : Region.Mode) (ops : Array Oper) (Q : Exit → Act → World → Prop) (S : Nat → World → Prop) (T : Nat → Nat) : Nat → Nat → Array Bool → Act → World → Prop
 | 0,_,listed,a,w=>Region.ready md ops listed=[]∧Q .normal a w
 | fuel+1,lev,listed,a,w =>
  (Region.ready md ops listed=[]→Q .normal a w) ∧
  ∀ i ∈ Region.ready md ops listed,wpOp P ops Q i (fun a' w'=>S (max lev (T i)) w'∧eG P md ops Q S T fuel (max lev (T i)) (listed.setIfInBounds i true) a' w') a w
theorem wR : ∀ (fuel lev : Nat) (listed : Array Bool) (a : Act) (w : World), eG P md ops Q S T fuel lev listed a w → wpAny P md ops Q fuel listed a w
 | 0,_,_,_,_,h=>h
 | fuel+1,_,_,_,_,h=>⟨h.1,fun i hi=>wpOp_mono (fun a' w' h'=>wR fuel _ _ a' w' h'.2) (h.2 i hi)⟩
theorem Au {i : Nat} {oi : Oper} {v : Value} (hi : ops[i]? = some oi) (hsel : ∀ (j : Nat) (o : Oper) cs b, ops[j]? = some o → o.op ≠ .select cs b)
  (hQ:∀ c a w,Q (.panic c) (a.put oi.dst v) w→Q (.panic c) a w) (hD:aH S) (l:Nat) (hT:nI md ops T l i=true) (hTi:T i=0) :
  ∀ (fuel lev:Nat) (listed:Array Bool) (a:Act) (w:World),
   (∀ j oj,ops[j]? = some oj→j≠i→listed.getD j true=false→(∀ e ∈ oj.after,Region.binds md e=true→e.on≠i)→oi.apart ops oj=true) →
   Closed md ops listed→i ∈ Region.ready md ops listed→YieldsIf P ops (S l) oi v a→lev≤l→S lev w →
   eG P md ops Q S T fuel lev (listed.setIfInBounds i true) (a.put oi.dst v) w→eG P md ops Q S T (fuel+1) lev listed a w:=by
 intro fuel
 induction fuel with
 | zero =>
  intro lev listed a w _ _ hr hy hl hS H;refine ⟨fun h=>(by rw [h] at hr;cases hr),fun j hj=>?_⟩
  by_cases hji:j=i
  ·subst hji;rw [hTi,Nat.max_zero];exact hy.wpOp hi (hD.le hl hS) ⟨hS,H⟩
  ·have := ready_mono hj hji;rw [H.1] at this
   cases this
 | succ fuel ih =>
  intro lev listed a w hfree hc hr hy hl hS H;refine ⟨fun h=>(by rw [h] at hr;cases hr),fun j hj=>?_⟩
  by_cases hji:j=i
  ·subst hji;rw [hTi,Nat.max_zero];exact hy.wpOp hi (hD.le hl hS) ⟨hS,H⟩
  ·have h1 := H.2 j (ready_mono hj hji);obtain ⟨hjun,oj,hoj,hall⟩:=mem_ready.1 hj
   have hnot:∀ e ∈ oj.after,Region.binds md e=true→e.on≠i:=fun e he hb heq=>by
    have h1:=hall e he hb;have h0:=(mem_ready.1 hr).1;rw [heq] at h1
    rcases Nat.lt_or_ge i listed.size with h' | h'
    ·simp [h'] at h0 h1;rw [h0] at h1;cases h1
    ·simp [Array.getElem?_eq_none h'] at h1
   have hTj:T j≤l:=by
    rcases Nat.lt_or_ge l (T j) with h | h
    ·exfalso;have hjl:j<ops.size:=(Array.getElem?_eq_some_iff.1 hoj).1;have:=List.all_eq_true.1 hT j (List.mem_range.2 hjl);rw [decide_eq_false (by omega)] at this;have hli:=yS hc _ j oj hoj hall (by simpa using this);have h0:=(mem_ready.1 hr).1
     rcases Nat.lt_or_ge i listed.size with h' | h'
     ·simp [h'] at h0 hli;rw [h0] at hli;cases hli
     ·simp [Array.getElem?_eq_none h'] at hli
    ·exact h
   have h2:=wpOp_putIf hoj (hfree j oj hoj hji hjun hnot) (fun cs b=>hsel i oi cs b hi) (fun cs b=>hsel j oj cs b hoj) hQ hy h1
   have hfree' : ∀ k ok, ops[k]? = some ok → k ≠ i → (listed.setIfInBounds j true).getD k true = false →
     (∀ e ∈ ok.after,Region.binds md e=true→e.on≠i)→oi.apart ops ok=true:=fun k ok hk hki hun hno=>by
    refine hfree k ok hk hki ?_ hno
    by_cases hjk:j=k
    ·subst hjk;exact hjun
    ·rw [getD_set_ne true hjk] at hun;exact hun
   refine wpOp_mono (fun a' w' h3=>⟨h3.2.1,ih (max lev (T j)) (listed.setIfInBounds j true) a' w' hfree' (hc.set hoj hall) (ready_mono hr (Ne.symm hji)) h3.1 (Nat.max_le.2 ⟨hl,hTj⟩) h3.2.1 ?_⟩) h2;rw [Array.setIfInBounds_comm _ _ hji];exact h3.2.2
theorem vo {i : Nat} {oi : Oper} {v : Value} {fuel lev : Nat} {listed : Array Bool} {a : Act} {w : World} (hi : ops[i]? = some oi)
  (hs:Region.noSelect ops=true) (hD:aH S) (l:Nat) (hT:nI md ops T l i=true) (hTi:T i=0) (hC:qC md ops listed=true) (hf:Region.free md ops listed i=true) (hr:(Region.ready md ops listed).contains i=true)
  (hQ:∀ c a w,Q (.panic c) (a.put oi.dst v) w→Q (.panic c) a w) (hy:YieldsIf P ops (S l) oi v a) (hl:lev≤l) (hS:S lev w)
  (h:eG P md ops Q S T fuel lev (listed.setIfInBounds i true) (a.put oi.dst v) w):eG P md ops Q S T (fuel+1) lev listed a w :=
 Au hi (Region.noSelect_spec hs) hQ hD l hT hTi fuel lev listed a w (Region.free_spec hi hf) (Ed hC) (by simpa using hr) hy hl hS h

def bC (P:Program) (md:Region.Mode) (ops:Array Oper) (Q:Exit→Act→World→Prop) (S:Nat→World→Prop) (T:Nat→Nat) (fuel lev:Nat) (listed:Array Bool) (a:Act) (w:World) (rs:List Nat):Prop :=
 ∀ i ∈ rs,wpOp P ops Q i (fun a' w'=>S (max lev (T i)) w'∧eG P md ops Q S T fuel (max lev (T i)) (listed.setIfInBounds i true) a' w') a w
theorem bC.nil {fuel lev:Nat} {listed:Array Bool} {a:Act} {w:World}:bC P md ops Q S T fuel lev listed a w []:=fun _ h=>by cases h
theorem bC.cons {fuel lev : Nat} {listed : Array Bool} {a : Act} {w : World} {i : Nat} {o : Oper} {rs : List Nat} (l : Nat) (hl : max lev (T i) = l) (ho : ops[i]? = some o)
  (h:∀ K':Act→World→Prop,Shut (∀ a w,S l w→(S l w→eG P md ops Q S T fuel l (listed.setIfInBounds i true) a w)→K' a w)→if Region.wanted o (yielded ops a.tmps)=true then Oper.wp P o a w K' Q else K' (a.put o.dst undef) w)
  (hs:bC P md ops Q S T fuel lev listed a w rs):bC P md ops Q S T fuel lev listed a w (i :: rs):=fun j hj=>by
 subst hl
 rcases List.mem_cons.1 hj with rfl | hj
 ·exact wpOp_step ho (fun K' hK=>h K' (fun a w hS hW=>hK a w ⟨hS,hW hS⟩))
 ·exact hs j hj
theorem sF {rs : List Nat} {fuel lev : Nat} {listed : Array Bool} {a : Act} {w : World} (hr : Region.ready md ops listed = rs) (hne : rs ≠ [])
  (h:bC P md ops Q S T fuel lev listed a w rs):eG P md ops Q S T (fuel+1) lev listed a w :=
 ⟨fun h0=>absurd (hr ▸ h0) hne,hr ▸ h⟩
theorem ak {listed : Array Bool} {a : Act} {w : World} (hr : Region.ready md ops listed = []) (h : Q .normal a w) (lev : Nat) : ∀ fuel, eG P md ops Q S T fuel lev listed a w
 | 0=>⟨hr,h⟩
 | _+1=>⟨fun _=>h,by rw [hr];simp⟩
theorem au {id : Nat} {a : Act} {w : World} (hm : P.follows .mixedOrders = true) (hS : S 0 w.drew)
  (h:S 0 w.drew→eG P .any ops Q S T ops.size 0 (Array.replicate ops.size false) a w.drew):(Code.region id ops true).wp P Q a w :=
 wp_region_any hm (wR _ _ _ _ _ (h hS))

def AX (md : Region.Mode) (ops : Array Oper) (T : Nat → Nat) (l : Nat) : List (Nat × Nat) → Array Bool → List Value → Bool
 | [],_,_=>true
 | (i,k) :: r,listed,L=>(match ops[i]? with
   | some o=>(match o.dst with | some d=>d == k | none=>false) && nI md ops T l i && decide (T i=0) && qC md ops listed && Region.free md ops listed i && (Region.ready md ops listed).contains i && !Region.wanted o (yielded ops L.toArray)
   | none=>false) && AX md ops T l r (listed.setIfInBounds i true) (L.set k undef)
theorem kX {df:List Deferred} {w:World} (hs:Region.noSelect ops=true) (hQ:∀ c a a' w,Q (.panic c) a' w→Q (.panic c) a w) (hD:aH S) (l lev:Nat) (hl:lev≤l) (hS:S lev w) :
  ∀ (is : List (Nat × Nat)) (fuel fuel' : Nat) (listed : Array Bool) (L : List Value), AX md ops T l is listed L = true → fuel' = fuel + is.length →
   eG P md ops Q S T fuel lev (GR is listed) ⟨(fZ is L).toArray,df⟩ w→eG P md ops Q S T fuel' lev listed ⟨L.toArray,df⟩ w:=by
 intro is
 induction is with
 | nil=>intro fuel fuel' listed L _ hf h;rw [hf];exact h
 | cons x r ih =>
  obtain ⟨i,k⟩:=x;intro fuel fuel' listed L hok hf h;simp only [AX,Bool.and_eq_true] at hok;obtain ⟨h1,h2⟩:=hok
  split at h1
  ·rename_i o ho;simp only [Bool.and_eq_true,Bool.not_eq_true',decide_eq_true_iff] at h1;obtain ⟨⟨⟨⟨⟨⟨a,t1⟩,t2⟩,t3⟩,b⟩,c⟩,d⟩:=h1
   have hd:o.dst=some k:=by
    split at a
    ·rename_i e he;rw [he];exact congrArg some (by simpa using a)
    ·cases a
   rw [hf,List.length_cons,← Nat.add_assoc];refine vo (v:=undef) ho hs hD l t1 t2 t3 b c (fun c a w hq=>hQ c a _ w hq) (Or.inr ⟨d,rfl⟩) hl hS ?_;rw [hd,Ah];exact ih fuel _ _ _ h2 rfl h
  ·cases h1

theorem J8 {fuel' : Nat} {listed : Array Bool} {L : List Value} {df : List Deferred} {w : World} (i k fuel l lev : Nat) {oi : Oper} {v : Value} (hi : ops[i]? = some oi) (hd : oi.dst = some k)
  (hs:Region.noSelect ops=true) (hD:aH S) (hT:nI md ops T l i=true) (hTi:decide (T i=0)=true) (hC:qC md ops listed=true) (hf:Region.free md ops listed i=true) (hr:(Region.ready md ops listed).contains i=true) (hfu:fuel'=fuel+1) (hQ:∀ c a a' w,Q (.panic c) a' w→Q (.panic c) a w)
  (hw:Region.wanted oi (yielded ops L.toArray)=true) (hy:∀ w,S l w→(execOp (Act.eval ⟨L.toArray,df⟩) oi).run P w = .ok (.value v) w) (hl:lev≤l) (hS:S lev w)
  (h:eG P md ops Q S T fuel lev (listed.setIfInBounds i true) ⟨(L.set k v).toArray,df⟩ w):eG P md ops Q S T fuel' lev listed ⟨L.toArray,df⟩ w:=by
 subst hfu;exact vo (v:=v) hi hs hD l hT (of_decide_eq_true hTi) hC hf hr (fun c a w hq=>hQ c a _ w hq) (Or.inl ⟨hw,hy⟩) hl hS (by rw [hd,Ah];exact h)
end
theorem Sl.alloc {A:Option Addr} {n c:Nat} {l:List V} (h:Sl w A n c l) (o:Obj):Sl (w.alloc o) A n c l:=h.below ((Below.refl _ _).alloc (Nat.le_refl _) _)
theorem There.alloc {g n:Nat} (h:There w g n) (o:Obj):There (w.alloc o) g n:=There.below ((Below.refl _ _).alloc (Nat.le_refl _) _) h
theorem yT (g:Nat) (f:V→Bool) (hcf:∀ (args:Array Value) (w:World),(callFunc g args).run Tryz.prog w = .ok (.enter g args) w) (hg:∀ a b w,Calls Tryz.prog g #[aR a b] w (dG (.bool (f (a,b))) w)) (A:Option Addr) (n c:Nat) (l:List V) (w:World) (hS:Sl w A n c l) :
  Calls Tryz.prog 240 #[.slice A n c,.func (.func g) #[] #[]] w (dG (.int .i64 (firstIdx f l)) w):=by
 obtain ⟨hn,hcap,hbig,hat⟩:=hS;subst hn
 go_enter Tryz.func240,Tryz.ntmps240
 go_wp2
 go_loopw [8] (fun i wr=>∃ k:Nat,k≤l.length∧i = .int .i64 k∧rO f l k∧Below w.heap.size w wr) (fun i _=>l.length-(intOf i).toNat)
 case atStart=>exact ⟨0,Nat.zero_le _,rfl,uG _ _,Below.refl _ _⟩
 case round =>
  obtain ⟨k,hk,rfl,hno,hB⟩:=hrel
  by_cases hlt:k<l.length
  ·obtain ⟨b, off, rfl, hC⟩ := hat (by intro h; subst h; simp at hlt);have hC':=hC.below hB;have hx:=hC'.x k hlt;have hy:=hC'.y k hlt;have HN:=hid hno;have HG:=hid hg;clear hno hat hC hC' hg
   cases hv:f (px l k,py l k) with
   | true =>
    have HV:=hid hv;clear hv
    go_wp2_with fail
    refine (HG.out _ _ _).mono ?_;rintro e w1 ⟨rfl,hb1⟩;rw [HV.out];go_wp2
    go_returns
    exact aB (sJ hlt HN.out HV.out).symm (hB.trans (hb1.mono hB.size))
   | false =>
    have HV:=hid hv;clear hv
    go_wp2_with fail
    refine (HG.out _ _ _).mono ?_;rintro e w1 ⟨rfl,hb1⟩;rw [HV.out];go_wp2;exact ⟨⟨k+1,hlt,by go_num,uI HN.out HV.out,hB.trans (hb1.mono hB.size)⟩,by simp [intOf];omega⟩
  ·have hge : l.length ≤ k := by omega
   have HN:=hid hno;clear hno hat hlt hg;go_wp2
   go_returns
   exact aB (firstIdx_none (by have:=HN.out;rwa [show k=l.length by omega] at this)).symm hB
theorem ug (g:Nat) (f:V→Bool) (hcf:∀ (args:Array Value) (w:World),(callFunc g args).run Tryz.prog w = .ok (.enter g args) w) (hg:∀ a b w,Calls Tryz.prog g #[aR a b] w (dG (.bool (f (a,b))) w)) (A:Option Addr) (n c:Nat) (l:List V) (w:World) (hS:Sl w A n c l) :
  Calls Tryz.prog 209 #[.slice A n c,.func (.func g) #[] #[]] w (dG (.bool (l.any f)) w):=by
 have HG:=hid hg;clear hg
 go_enter Tryz.func209,Tryz.ntmps209
 go_wp2_with (go_at_call 240;refine (yT g f hcf HG.out _ _ _ l _ hS).mono ?_;rintro e w1 ⟨rfl,hb⟩)
 go_returns
 exact bR (by
  have h:=sZ f l;simp only [ge_iff_le] at h
  rw [h]) hb
theorem sA {α:Type} {l:List α} {i:Nat} {a:α}:l.toArray.setIfInBounds i a=(l.set i a).toArray:=by simp
theorem sB {α:Type} {l:List α} {a b:α}:(a :: l).set 0 b=b :: l:=rfl
theorem sC {α:Type} {l:List α} {n:Nat} {a b:α}:(a :: l).set (n+1) b=a :: l.set n b:=rfl
section
variable {w0 w w':World}
variable {P:Program} {ops:Array Oper} {Q:Exit→Act→World→Prop} {md:Region.Mode} {S:Nat→World→Prop} {T:Nat→Nat}
theorem Ut {fuel' : Nat} {listed : Array Bool} {L : List Value} {df : List Deferred} {w : World} (i k fuel l lev : Nat) {oi : Oper} {v : Value} (hi : ops[i]? = some oi) (hD : aH S) (hS : S lev w)
  (hy:∀ w,S l w→(execOp (Act.eval ⟨L.toArray,df⟩) oi).run P w = .ok (.value v) w)
  (h:eG P md ops Q S T fuel lev (listed.setIfInBounds i true) ⟨(L.set k v).toArray,df⟩ w)
  (hd:oi.dst=some k:=by kernel_rfl) (hs:Region.noSelect ops=true:=by kernel_rfl) (hT:nI md ops T l i=true:=by kernel_rfl) (hTi:decide (T i=0)=true:=by kernel_rfl) (hC:qC md ops listed=true:=by kernel_rfl) (hf:Region.free md ops listed i=true:=by kernel_rfl) (hr:(Region.ready md ops listed).contains i=true:=by kernel_rfl) (hfu:fuel'=fuel+1:=by kernel_rfl)
  (hQ:∀ c a a' w,Q (.panic c) a' w→Q (.panic c) a w:=by exact fun _ _ _ _ h=>h) (hw:Region.wanted oi (yielded ops L.toArray)=true:=by kernel_rfl) (hl:lev≤l:=by omega):eG P md ops Q S T fuel' lev listed ⟨L.toArray,df⟩ w :=
 J8 i k fuel l lev hi hd hs hD hT hTi hC hf hr hfu hQ hw hy hl hS h

def Aw (md : Region.Mode) (ops : Array Oper) (T : Nat → Nat) (l : Nat) : List (Nat × Nat) → Array Bool → Bool
 | [],_=>true
 | (i,k) :: r,d=>(match ops[i]? with | some o=>o.dst == some k | none=>false) && (nI md ops T l i && (decide (T i=0) && (qC md ops d && (Region.free md ops d i && ((Region.ready md ops d).contains i && Aw md ops T l r (d.setIfInBounds i true))))))
def LH : List (Nat × Nat) → Array Bool → Array Bool
 | [],d=>d
 | (i,_) :: r,d=>LH r (d.setIfInBounds i true)
def Iu (P : Program) (ops : Array Oper) (S : World → Prop) (df : List Deferred) : List (Nat × Nat) → List Value → List Value → Prop
 | [],L,L'=>L'=L
 | (i,k) :: r,L,L'=>∃ v,∃ oi,ops[i]? = some oi∧Region.wanted oi (yielded ops L.toArray)=true∧(∀ w,S w→(execOp (Act.eval ⟨L.toArray,df⟩) oi).run P w = .ok (.value v) w)∧Iu P ops S df r (L.set k v) L'
theorem dw {S:World→Prop} {df:List Deferred} {L:List Value}:Iu P ops S df [] L L:=rfl
theorem dA {S:World→Prop} {df:List Deferred} {i k:Nat} {r:List (Nat × Nat)} {L L':List Value} {v:Value} {oi:Oper} (hi:ops[i]? = some oi) (hw:Region.wanted oi (yielded ops L.toArray)=true) (hy:∀ w,S w→(execOp (Act.eval ⟨L.toArray,df⟩) oi).run P w = .ok (.value v) w) (h:Iu P ops S df r (L.set k v) L'):Iu P ops S df ((i,k) :: r) L L':=⟨v,oi,hi,hw,hy,h⟩
theorem Dt (hD : aH S) (hs : Region.noSelect ops = true) (hQ : ∀ c a a' w, Q (.panic c) a' w → Q (.panic c) a w) {l lev fuel : Nat} (hl : lev ≤ l) {df : List Deferred} {w : World} (hS : S lev w) : ∀ (xs : List (Nat × Nat)) (listed : Array Bool) (L L' : List Value), Aw md ops T l xs listed = true → Iu P ops (S l) df xs L L' →
  eG P md ops Q S T fuel lev (LH xs listed) ⟨L'.toArray,df⟩ w→eG P md ops Q S T (fuel+xs.length) lev listed ⟨L.toArray,df⟩ w
 | [],listed,L,L',_,hv,h=>by
  have e:L'=L:=hv
  subst e
  exact h
 | (i,k) :: r,listed,L,L',hx,hv,h=>by
  obtain ⟨v,oi,hi,hw,hy,hr⟩:=hv
  unfold Aw at hx
  rw [hi] at hx
  simp only [Bool.and_eq_true,decide_eq_true_iff,beq_iff_eq] at hx
  obtain ⟨hd,hT,hTi,hC,hf,hrd,hrest⟩:=hx
  exact J8 i k (fuel+r.length) l lev hi hd hs hD hT (decide_eq_true hTi) hC hf hrd rfl hQ hw hy hl hS (Dt hD hs hQ hl hS r (listed.setIfInBounds i true) (L.set k v) L' hrest hr h)
theorem dn {fuel' : Nat} {listed : Array Bool} {L L' : List Value} {df : List Deferred} {w : World} (xs : List (Nat × Nat)) (fuel l lev : Nat) (hD : aH S) (hS : S lev w) (hv : Iu P ops (S l) df xs L L')
  (h:eG P md ops Q S T fuel lev (LH xs listed) ⟨L'.toArray,df⟩ w)
  (hx:Aw md ops T l xs listed=true:=by kernel_rfl) (hs:Region.noSelect ops=true:=by kernel_rfl) (hfu:fuel'=fuel+xs.length:=by kernel_rfl)
  (hQ:∀ c a a' w,Q (.panic c) a' w→Q (.panic c) a w:=by exact fun _ _ _ _ h=>h) (hl:lev≤l:=by omega):eG P md ops Q S T fuel' lev listed ⟨L.toArray,df⟩ w:=by
 subst hfu;exact Dt hD hs hQ hl hS xs listed L L' hx hv h
theorem U1 {fuel lev : Nat} {listed : Array Bool} {a : Act} {w : World} (i l : Nat) {o : Oper} (ho : ops[i]? = some o)
  (h:∀ K':Act→World→Prop,Shut (∀ a w,S l w→(S l w→eG P md ops Q S T fuel l (listed.setIfInBounds i true) a w)→K' a w)→if Region.wanted o (yielded ops a.tmps)=true then Oper.wp P o a w K' Q else K' (a.put o.dst undef) w)
  (hr:Region.ready md ops listed=[i]:=by kernel_rfl) (hl:max lev (T i)=l:=by kernel_rfl):eG P md ops Q S T (fuel+1) lev listed a w :=
 sF hr (by simp) (bC.cons l hl ho h bC.nil)
theorem Ur {fuel lev:Nat} {listed:Array Bool} {a:Act} {w:World} (rs:List Nat) (h:bC P md ops Q S T fuel lev listed a w rs) (hr:Region.ready md ops listed=rs:=by kernel_rfl) (hne:rs≠[]:=by simp):eG P md ops Q S T (fuel+1) lev listed a w:=sF hr hne h
theorem Uc {fuel lev : Nat} {listed : Array Bool} {a : Act} {w : World} {i : Nat} {o : Oper} {rs : List Nat} (l : Nat) (ho : ops[i]? = some o)
  (h:∀ K':Act→World→Prop,Shut (∀ a w,S l w→(S l w→eG P md ops Q S T fuel l (listed.setIfInBounds i true) a w)→K' a w)→if Region.wanted o (yielded ops a.tmps)=true then Oper.wp P o a w K' Q else K' (a.put o.dst undef) w)
  (hs:bC P md ops Q S T fuel lev listed a w rs) (hl:max lev (T i)=l:=by kernel_rfl):bC P md ops Q S T fuel lev listed a w (i :: rs):=bC.cons l hl ho h hs
end
theorem Ba {o:Obj}:Below w.heap.size w (w.alloc o):=(Below.refl _ _).alloc (Nat.le_refl _) _
def tf (k n:Nat):Array Bool:=((List.range k).map (Nat.testBit n)).toArray
def aO (a:Int):Int:=if a < -1099511627776 then -1099511627776 else if 1099511627776<a then 1099511627776 else a
theorem eD (a:Int) : -1099511627776≤aO a∧aO a≤1099511627776:=by unfold aO;split <;> (try split) <;> omega
theorem gK {a:Int} (h1 : -1099511627776≤a) (h2:a≤1099511627776):aO a=a:=by unfold aO;rw [if_neg (by omega),if_neg (by omega)]
theorem Ae {a:Int} (h1:a ≤ -1099511627776):aO a = -1099511627776:=by unfold aO;split <;> (try split) <;> omega
theorem Aa {a:Int} (h1:1099511627776≤a):aO a=1099511627776:=by unfold aO;split <;> (try split) <;> omega
theorem bU (a:Int) (w:World):Calls Tryz.prog 38 #[.int .i64 a] w (dG (.int .i64 (aO a)) w):=by
 go_enter Tryz.func38,Tryz.ntmps38
 go_wp2
 all_goals
  go_returns
  exact aB (by unfold aO;(repeat' split) <;> omega) (Below.refl _ _)
def bT (a b:Int):Int:=aO (aO a+aO b)
def dI (a b:Int):Int:=aO (aO a-aO b)
theorem eH (a b:Int) (w:World):Calls Tryz.prog 153 #[.int .i64 a,.int .i64 b] w (dG (.int .i64 (bT a b)) w):=by
 obtain ⟨p,hp⟩:∃ p,p=aO a:=⟨_,rfl⟩;obtain ⟨q,hq⟩:∃ q,q=aO b:=⟨_,rfl⟩;have h1:=eD a;have h2:=eD b;rw [← hp] at h1;rw [← hq] at h2;have HP:=hid hp;have HQ:=hid hq;have hwr:IntKind.i64.wrap (p+q)=p+q:=IntWalk.i64_in _ (by omega);clear hp hq
 go_enter Tryz.func153,Tryz.ntmps153
 go_wp2_with fail
 refine (bU a _).mono ?_;rintro e w1 ⟨rfl,hb1⟩;rw [← HP.out]
 go_wp2_with fail
 refine (bU b _).mono ?_;rintro e w2 ⟨rfl,hb2⟩;rw [← HQ.out];have hB2:=aj hb2 hb1
 go_wp2_with fail
 refine (bU (p+q) _).mono ?_;rintro e w3 ⟨rfl,hb3⟩;have hB3:=aj hb3 hB2;go_wp2
 go_returns
 exact aB (by rw [HP.out,HQ.out];rfl) hB3
theorem lH (a b:Int) (w:World):Calls Tryz.prog 40 #[.int .i64 a,.int .i64 b] w (dG (.int .i64 (dI a b)) w):=by
 obtain ⟨p,hp⟩:∃ p,p=aO a:=⟨_,rfl⟩;obtain ⟨q,hq⟩:∃ q,q=aO b:=⟨_,rfl⟩;have h1:=eD a;have h2:=eD b;rw [← hp] at h1;rw [← hq] at h2;have HP:=hid hp;have HQ:=hid hq;have hwr:IntKind.i64.wrap (p-q)=p-q:=IntWalk.i64_in _ (by omega);clear hp hq
 go_enter Tryz.func40,Tryz.ntmps40
 go_wp2_with fail
 refine (bU a _).mono ?_;rintro e w1 ⟨rfl,hb1⟩;rw [← HP.out]
 go_wp2_with fail
 refine (bU b _).mono ?_;rintro e w2 ⟨rfl,hb2⟩;rw [← HQ.out];have hB2:=aj hb2 hb1
 go_wp2_with fail
 refine (bU (p-q) _).mono ?_;rintro e w3 ⟨rfl,hb3⟩;have hB3:=aj hb3 hB2;go_wp2
 go_returns
 exact aB (by rw [HP.out,HQ.out];rfl) hB3
def aV (a:Int):Int:=if a<0 then -a else a
theorem tO (a:Int) (h1 : -1099511627776≤a) (h2:a≤1099511627776) (w:World):Calls Tryz.prog 186 #[.int .i64 a] w (dG (.int .u64 (aV a)) w):=by
 by_cases h:a<0
 ·have hw1 : IntKind.i64.wrap (-a) = -a := IntWalk.i64_in _ (by omega);have hw2:IntKind.u64.wrap (-a) = -a:=bF (by omega) (by omega)
  go_enter Tryz.func186,Tryz.ntmps186
  go_wp2
  go_returns
  exact aB (by unfold aV;rw [if_pos h]) (Below.refl _ _)
 ·have hw2 : IntKind.u64.wrap a = a := bF (by omega) (by omega)
  go_enter Tryz.func186,Tryz.ntmps186
  go_wp2
  go_returns
  exact aB (by unfold aV;rw [if_neg (by omega)]) (Below.refl _ _)

def IL (a b c:Int):Int:=if aO c=0 then 0 else aO (kM (aO a*aO b) (aO c))
theorem Lr {A B C:Int} (hA : -1099511627776≤A∧A≤1099511627776) (hB : -1099511627776≤B∧B≤1099511627776) (hC : -1099511627776≤C∧C≤1099511627776) (h0:C≠0) :
  uF (A*B) C ((decide (A<0) != decide (B<0)) != decide (C<0)) (aV A*aV B) (aV C):=by
 have a0:0≤aV A∧aV A≤1099511627776:=by unfold aV;split <;> omega
 have b0:0≤aV B∧aV B≤1099511627776:=by unfold aV;split <;> omega
 have m:=dh (x:=aV A) (y:=aV B) (M:=1099511627776) (N:=1099511627776) (by omega) (by omega) (by omega) (by omega);have m0:=Int.mul_nonneg a0.1 b0.1;refine ⟨by unfold aV;split <;> omega,by unfold aV;split <;> omega,m0,by omega,h0,?_⟩;unfold aV
 by_cases c1:A<0 <;> by_cases c2:B<0 <;> by_cases c3:C<0 <;> simp [c1,c2,c3,Int.neg_mul,Int.mul_neg]
theorem sG (a b c:Int) (w:World):Calls Tryz.prog 125 #[.int .i64 a,.int .i64 b,.int .i64 c] w (dG (.int .i64 (IL a b c)) w):=by
 obtain ⟨A,hA⟩:∃ A,A=aO a:=⟨_,rfl⟩;obtain ⟨B,hB⟩:∃ B,B=aO b:=⟨_,rfl⟩;obtain ⟨C,hC⟩:∃ C,C=aO c:=⟨_,rfl⟩;have a1:=eD a;have b1:=eD b;have c1:=eD c;rw [← hA] at a1;rw [← hB] at b1;rw [← hC] at c1;have HA:=hid hA;have HB:=hid hB;have HC:=hid hC;have HMD:Hid (IL a b c=if C=0 then 0 else aO (kM (A*B) C)):=by show IL a b c=_;unfold IL;rw [hA,hB,hC]
 clear hA hB hC
 go_enter Tryz.func125,Tryz.ntmps125
 go_wp2_with fail
 refine (bU a _).mono ?_;rintro e w1 ⟨rfl,hb1⟩;rw [← HA.out]
 go_wp2_with fail
 refine (bU b _).mono ?_;rintro e w2 ⟨rfl,hb2⟩;rw [← HB.out];have hB2:=aj hb2 hb1
 go_wp2_with fail
 refine (bU c _).mono ?_;rintro e w3 ⟨rfl,hb3⟩;rw [← HC.out];have hB3:=aj hb3 hB2;clear hb1 hb2 hb3 hB2 HA HB HC
 by_cases h0:C=0
 ·have HR : Hid (IL a b c = 0) := by rw [h0, if_pos rfl] at HMD; exact HMD
  subst h0;go_wp2
  go_returns
  exact aB HR.out.symm hB3
 ·have HR : Hid (IL a b c = aO (kM (A * B) C)) := by rw [if_neg h0] at HMD; exact HMD
  have HSG:=hid (Lr a1 b1 c1 h0);have h0b:(C == 0)=false:=by simp [h0]
  clear HMD h0
  go_upto_if 25 with fail
  generalize hs1:decide (A<0)=s1 at HSG ⊢;generalize hs2:decide (B<0)=s2 at HSG ⊢
  go_cut [7] from 26 to 27 (fun t wx=>t = .bool (s1 != s2)∧wx=w3)
  case first =>
   clear hs1 hs2
   cases s2 with
   | true =>
    go_wp2
    go_meet
    exact ⟨by simp,rfl⟩
   | false =>
    go_wp2
    go_meet
    exact ⟨by simp,rfl⟩
  case rest =>
   obtain ⟨rfl,hw⟩:=hcut;rw [hw];clear hw wc hs1 hs2
   go_upto_if 29 with fail
   generalize hs3:decide (C<0)=s3 at HSG ⊢;clear hs3
   go_cut [7] from 30 to 31 (fun t wx=>t = .bool ((s1 != s2) != s3)∧wx=w3)
   case first =>
    cases s3 with
    | true =>
     go_wp2
     go_meet
     exact ⟨by simp,rfl⟩
    | false =>
     go_wp2
     go_meet
     exact ⟨by simp,rfl⟩
   case rest =>
    obtain ⟨rfl,hw⟩:=hcut;rw [hw];clear hw wc;generalize ((s1 != s2) != s3)=ng at HSG ⊢
    go_wp2_with fail
    refine (tO C c1.1 c1.2 _).mono ?_;rintro e w4 ⟨rfl,hb4⟩;have hB4:=aj hb4 hB3
    go_wp2_with fail
    refine (tO A a1.1 a1.2 _).mono ?_;rintro e w5 ⟨rfl,hb5⟩;have hB5:=aj hb5 hB4
    go_wp2_with fail
    refine (tO B b1.1 b1.2 _).mono ?_;rintro e w6 ⟨rfl,hb6⟩;have hB6:=aj hb6 hB5;clear hb4 hb5 hb6 hB3 hB4 hB5;have x0:0≤aV A∧aV A≤1099511627776:=by unfold aV;split <;> omega
    have y0:0≤aV B∧aV B≤1099511627776:=by unfold aV;split <;> omega
    have d0:0<aV C∧aV C≤1099511627776:=⟨HSG.out.d0,by unfold aV;split <;> omega⟩;have mb:=dh (x:=aV A) (y:=aV B) (M:=1099511627776) (N:=1099511627776) (by omega) (by omega) (by omega) (by omega);have m0:=Int.mul_nonneg x0.1 y0.1;generalize aV C=d at *
    generalize aV A=x at *
    generalize aV B=y at *
    go_wp2_with fail
    refine (mU x y x0.1 (by omega) y0.1 (by omega) _).mono ?_;rintro e w7 ⟨rfl,rfl⟩;generalize x*y=M at *
    generalize A*B=W at *
    have hM2:M / 18446744073709551616*18446744073709551616+M % 18446744073709551616=M:=by omega
    have hi0:0≤M / 18446744073709551616:=by omega
    have lo0:0≤M % 18446744073709551616:=by omega
    have lo1:M % 18446744073709551616<18446744073709551616:=by omega
    have e:=Int.emod_add_mul_ediv M d;have r0:=Int.emod_nonneg M (show d≠0 by omega);have r1:=Int.emod_lt_of_pos M d0.1;have q0:=Int.ediv_nonneg m0 (show 0≤d by omega);have E:=hid (show M=M / d*d+M % d by rw [Int.mul_comm];omega)
    by_cases hlarge:d≤M / 18446744073709551616
    ·have hq : 18446744073709551616 ≤ M / d := Int.le_ediv_of_mul_le d0.1 (by have := Int.mul_comm 18446744073709551616 d; omega);generalize M / 18446744073709551616=hi at *
     generalize M % 18446744073709551616=lo at *
     cases ng with
     | false =>
      have HF:Hid (aO (kM W C)=1099511627776):=Aa (by rw [HSG.out.rnd_f E.out r0 r1];split <;> omega);clear e hq;go_wp2
      go_returns
      exact aB (by rw [HR.out,HF.out]) hB6
     | true =>
      have HF:Hid (aO (kM W C) = -1099511627776):=Ae (by rw [HSG.out.rnd_t E.out r0 r1];split <;> omega);clear e hq;go_wp2
      go_returns
      exact aB (by rw [HR.out,HF.out]) hB6
    ·have q1 : M / d < 18446744073709551616 := Int.ediv_lt_of_lt_mul d0.1 (by have := Int.mul_comm 18446744073709551616 d; omega);have HM2:=hid hM2;obtain ⟨hi,hhi⟩:∃ hi,hi=M / 18446744073709551616:=⟨_,rfl⟩;obtain ⟨lo,hlo⟩:∃ lo,lo=M % 18446744073709551616:=⟨_,rfl⟩;rw [← hhi] at hi0 hlarge HM2 ⊢;rw [← hlo] at lo0 lo1 HM2 ⊢;clear hhi hlo hM2 e;generalize hqq:M / d=q at *
     generalize hrr:M % d=r at *
     have HQ:=hid hqq;have HRR:=hid hrr;have hdr:IntKind.u64.wrap (d-r)=d-r:=bF (by omega) (by omega);clear hqq hrr
     go_wp2_with fail
     refine (dV hi lo d hi0 (by omega) (by omega) lo0 lo1 _).mono ?_;rintro e w8 ⟨rfl,hb8⟩;rw [HM2.out,HQ.out,HRR.out];have hB8:=aj hb8 hB6;clear hb8 hB6
     by_cases hq:1099511627776<q
     ·cases ng with
      | false =>
       have HF:Hid (aO (kM W C)=1099511627776):=Aa (by rw [HSG.out.rnd_f E.out r0 r1];split <;> omega);have hd:IntKind.u64.wrap d=d:=bF (x:=d) (by omega) (by omega);have HK:Hid (aO 1099511627777=1099511627776):=by show _=_;decide
       go_wp2_with fail
       refine (bU 1099511627777 _).mono ?_;rintro e w9 ⟨rfl,hb9⟩;rw [HK.out];have hB9:=aj hb9 hB8;go_wp2
       go_returns
       exact aB (by rw [HR.out,HF.out]) hB9
      | true =>
       have HF:Hid (aO (kM W C) = -1099511627776):=Ae (by rw [HSG.out.rnd_t E.out r0 r1];split <;> omega);have hd:IntKind.u64.wrap d=d:=bF (x:=d) (by omega) (by omega);have HK:Hid (aO (-1099511627777) = -1099511627776):=by show _=_;decide
       go_wp2_with fail
       refine (bU (-1099511627777) _).mono ?_;rintro e w9 ⟨rfl,hb9⟩;rw [HK.out];have hB9:=aj hb9 hB8;go_wp2
       go_returns
       exact aB (by rw [HR.out,HF.out]) hB9
     ·have kq : IntKind.i64.wrap q = q := IntWalk.i64_in _ (by omega);have kq1:IntKind.i64.wrap (q+1)=q+1:=IntWalk.i64_in _ (by omega);have kn:IntKind.i64.wrap (-q) = -q:=IntWalk.i64_in _ (by omega);have kn1:IntKind.i64.wrap (-(q+1)) = -(q+1):=IntWalk.i64_in _ (by omega)
      cases ng with
      | false =>
       by_cases hr:d-r≤r
       ·have HF : Hid (kM W C = q + 1) := by show _ = _; rw [HSG.out.rnd_f E.out r0 r1, if_pos (by omega)]
        go_wp2_with fail
        refine (bU (q+1) _).mono ?_;rintro e w9 ⟨rfl,hb9⟩;have hB9:=aj hb9 hB8;go_wp2
        go_returns
        exact aB (by rw [HR.out,HF.out]) hB9
       ·have HF : Hid (kM W C = q) := by show _ = _; rw [HSG.out.rnd_f E.out r0 r1, if_neg (by omega)]; omega
        go_wp2_with fail
        refine (bU q _).mono ?_;rintro e w9 ⟨rfl,hb9⟩;have hB9:=aj hb9 hB8;go_wp2
        go_returns
        exact aB (by rw [HR.out,HF.out]) hB9
      | true =>
       by_cases hr:d-r<r
       ·have HF : Hid (kM W C = -(q + 1)) := by show _ = _; rw [HSG.out.rnd_t E.out r0 r1, if_pos (by omega)]
        go_wp2_with fail
        refine (bU (-(q+1)) _).mono ?_;rintro e w9 ⟨rfl,hb9⟩;have hB9:=aj hb9 hB8;go_wp2
        go_returns
        exact aB (by rw [HR.out,HF.out]) hB9
       ·have HF : Hid (kM W C = -q) := by show _ = _; rw [HSG.out.rnd_t E.out r0 r1, if_neg (by omega)]; omega
        go_wp2_with fail
        refine (bU (-q) _).mono ?_;rintro e w9 ⟨rfl,hb9⟩;have hB9:=aj hb9 hB8;go_wp2
        go_returns
        exact aB (by rw [HR.out,HF.out]) hB9
def aX (a b:Int):Int:=IL a b 65536
def J4 (b:Int):Int:=if b=0 then 17 else 0
def dX (a b:Int):Int:=if b=0 then 0 else IL a 65536 b
theorem bM (a b:Int) (w:World):Calls Tryz.prog 52 #[.int .i64 a,.int .i64 b] w (dG (.int .i64 (aX a b)) w):=by
 go_enter Tryz.func52,Tryz.ntmps52
 go_wp2_with fail
 refine (sG a b 65536 _).mono ?_;rintro e w1 ⟨rfl,hb1⟩;go_wp2
 go_returns
 exact aB rfl hb1
theorem xO (a b:Int) (w:World):Calls Tryz.prog 226 #[.int .i64 a,.int .i64 b] w (dG (.tuple #[.int .i64 (dX a b),.int .i64 (J4 b)]) w):=by
 by_cases h:b=0
 ·have hd : dX a b = 0 := by unfold dX; rw [if_pos h]
  have he:J4 b=17:=by unfold J4;rw [if_pos h]
  rw [hd,he];subst h
  go_enter Tryz.func226,Tryz.ntmps226
  go_wp2
  go_returns
  exact ⟨rfl,Below.refl _ _⟩
 ·have hd : dX a b = IL a 65536 b := by unfold dX; rw [if_neg h]
  have hb:(b == 0)=false:=by simp [h]
  have he:J4 b=0:=by unfold J4;rw [if_neg h]
  rw [hd,he];clear hd he h
  go_enter Tryz.func226,Tryz.ntmps226
  go_wp2_with fail
  refine (sG a 65536 b _).mono ?_;rintro e w1 ⟨rfl,hb1⟩;go_wp2
  go_returns
  exact ⟨rfl,hb1⟩
end
end Go.Proofs.YtokgmcomgflloaaGreat
