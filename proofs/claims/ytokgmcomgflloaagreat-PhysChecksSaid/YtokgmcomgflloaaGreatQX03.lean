/- Parts of a proof: contracts and laws. -/
import Derived.Test.YtokgmcomgflloaaGreatQX00
import Derived.ProofKit
import Derived.OpenShut
import Derived.Lib.SmallJoins
import Derived.Deep.Slices
import Derived.Deep.Fields
import Derived.ChangeSame
import Derived.Carry
import Derived.Test.YtokgmcomgflloaaGreatQX02
import Derived.Deep.RegionHeld3
import Derived.Test.YtokgmcomgflloaaGreatQX01
set_option maxRecDepth 100000
set_option maxHeartbeats 16000000
namespace Go.Proofs.YtokgmcomgflloaaGreat
section
set_option linter.unusedVariables false
set_option linter.unusedSimpArgs false
open Go.ChangeShapes Go.WideShapes Go.ChangeAt Go.RowKit Go.Deep Go.Joins
variable {w0 w w':World}
theorem Eh:ownKnob Tryz.prog.godebug=none:=by kernel_rfl
theorem ES:laidOutB Tryz.prog=true:=by kernel_rfl
theorem fE:Tryz.prog.cellsOf 24=2:=by kernel_rfl
theorem bR:Tryz.prog.cellsOf 3=1:=by kernel_rfl

theorem FL {P:Nat→Int→Int→Prop} (n:Nat) (h:∀ i,i<n→∃ x y,P i x y):∃ l:List V,l.length=n∧∀ i,i<n→P i (px l i) (py l i):=by
 induction n with
 | zero=>exact ⟨[],rfl,fun i hi=>absurd hi (by omega)⟩
 | succ n ih =>
  obtain ⟨l,hl,hp⟩:=ih fun i hi=>h i (by omega)
  obtain ⟨x,y,hxy⟩:=h n (by omega);refine ⟨l ++ [(x,y)],by simp [hl],fun i hi=>?_⟩
  by_cases e:i=n
  ·subst e;have e1:px (l ++ [(x,y)]) i=x:=by simp [px,← hl]
   have e2:py (l ++ [(x,y)]) i=y:=by simp [py,← hl]
   rw [e1,e2];exact hxy
  ·have hi' : i < l.length := by omega
   have e1:px (l ++ [(x,y)]) i=px l i:=by simp [px,List.getElem?_append_left hi']
   have e2:py (l ++ [(x,y)]) i=py l i:=by simp [py,List.getElem?_append_left hi']
   rw [e1,e2];exact hp i (by omega)
section
variable {w0 w w':World}
variable {H:Type} {enc:TypeId × Value→H} {W:World} {held:Bool} {base:Nat} {sp:Nat→Bool}


end
section
variable {w0 w w':World}
variable {H:Type} {enc:TypeId × Value→H} {P:Program}

theorem zP {f : Func} {s : ChangeSpec} {apart fresh handsOn again : Bool} {W W' : World} {args : Array Value} {v : Value} {ds gs : List (DataW H)} {before pa pv : List MemPlace}
  (hW:DataW.Whole enc P f.params.toList s.vars apart W args.toList ds gs before)
  (hres:∀ (b:Nat) (sp:Nat→Bool) (hd:Bool),DataW.TrodAll enc P W' b sp hd f.resultTypes.toList (v.resultList f.resultTypes.size) (s.fn H (ds ++ gs)).results [])
  (hargs:∀ sp:Nat→Bool,(∀ p ∈ before,sp p.block=true)→DataW.TrodAll enc P W' 0 sp true f.params.toList args.toList (s.fn H (ds ++ gs)).args pa)
  (hvars:∀ sp:Nat→Bool,(∀ p ∈ before,sp p.block=true)→DataW.TrodVars enc P W' sp s.vars (s.fn H (ds ++ gs)).vars pv)
  (hps:before=pa ++ pv) (hb:Below W.heap.size W W')
  (hok:∀ (j:Nat) (t:TypeId) (r:Value),f.resultTypes[j]? = some t→(v.resultList f.resultTypes.size)[j]? = some r→Value.okWide P W' .any 0 t r) :
  s.post enc P f apart fresh handsOn again W args v W':=by
 have hlt:∀ p ∈ before,p.block<W.heap.size:=fun p hp=>hW.lt p hp
 refine ⟨ds,gs,before,[],pa,pv,hW,hres _ _ _,hargs _ (fun p hp=>by simpa using hlt p hp),hvars _ (fun p hp=>by simpa using hlt p hp),World.keptBut_mono (fun p hp=>⟨hp,?_⟩) (hb.frame (· ∈ before)),fun _=>?_⟩
 ·rw [hps, List.mem_append] at hp;exact Or.inr hp
 ·obtain ⟨_, _, _, _, _, hz, hn⟩ := hW;refine ⟨hok,_,_,([] ++ pa) ++ pv,⟨[] ++ pa,pv,trodAll_append (hargs _ (fun _ _=>rfl)) (hres _ _ _),hvars _ (fun _ _=>rfl),rfl,?_,?_⟩,?_⟩
  ·intro b off hp;have hin:MemPlace.cell b off ∈ before:=by rw [hps];simpa using hp
   rw [hb.frozen (hlt _ hin)];exact hz b off hin
  ·intro ha;have:=hn ha;rw [hps] at this;simpa using this
  ·intro p hp _;rw [hps];simpa using hp
end
section
variable {w0 w w':World}
variable {H:Type} {enc:TypeId × Value→H} {W:World} {held:Bool} {base:Nat} {sp:Nat→Bool}


end
end
section
set_option linter.unusedVariables false
set_option linter.unusedSimpArgs false
open Go.RowKit
variable {w0 w w':World}

def S2 (A : World → Prop) : Nat → World → Prop
 | 0,w=>A w
 | _+1,_=>True
def S3 (A B : World → Prop) : Nat → World → Prop
 | 0,w=>A w
 | 1,w=>B w
 | _+2,_=>True
section
variable {w0 w w':World}
variable {A B C:World→Prop} {w:World}
theorem aC (h:S2 A 0 w):A w:=h
theorem aM (h:A w):S2 A 0 w:=h
theorem fZ:S2 A 1 w:=trivial
theorem yT (h:S3 A B 0 w):A w:=h
theorem Gs (h:S3 A B 1 w):B w:=h
theorem D9 (h:A w):S3 A B 0 w:=h
theorem GN (h:B w):S3 A B 1 w:=h
theorem Jh:S3 A B 2 w:=trivial
end
section
variable {w0 w w':World}
variable {P:Program} {ops:Array Oper} {Q:Exit→Act→World→Prop} {md:Region.Mode} {S:Nat→World→Prop} {T:Nat→Nat}

def zF (P : Program) (md : Region.Mode) (ops : Array Oper) (Q : Exit → Act → World → Prop) (S : Nat → World → Prop) (T : Nat → Nat) : Nat → Array Bool → Act → World → Prop
 | 0,listed,a,w=>Region.ready md ops listed=[]∧Q .normal a w
 | fuel+1,listed,a,w =>
  (Region.ready md ops listed=[]→Q .normal a w) ∧
  ∀ i ∈ Region.ready md ops listed,wpOp P ops Q i (fun a' w'=>S (T i) w'∧zF P md ops Q S T fuel (listed.setIfInBounds i true) a' w') a w

def aO (S:Nat→World→Prop):Prop:=∀ l w,S l w→S (l+1) w
theorem aO.le (h:aO S) {l m:Nat} (hlm:l≤m) {w:World} (hS:S l w):S m w:=by
 obtain ⟨d,rfl⟩:∃ d,m=l+d:=⟨m-l,by omega⟩;clear hlm
 induction d with
 | zero=>exact hS
 | succ d ih=>exact h _ _ ih
theorem aR (A:World→Prop):aO (S2 A):=fun l w h=>trivial
theorem Bl {A B:World→Prop} (h1:∀ w,A w→B w):aO (S3 A B):=fun l w h=>match l,h with
 | 0,h=>h1 w h
 | 1,_=>trivial
 | _+2,_=>trivial

def rO (md : Region.Mode) (ops : Array Oper) : Nat → Nat → Nat → Bool
 | 0,_,_=>false
 | f+1,j,i=>match ops[j]? with
  | some o=>o.after.any fun e=>Region.binds md e && (e.on == i || rO md ops f e.on i)
  | none=>false

def jS (md:Region.Mode) (ops:Array Oper) (T:Nat→Nat) (l i:Nat):Bool :=
 (List.range ops.size).all fun j=>decide (T j≤l) || rO md ops ops.size j i

def Closed (md:Region.Mode) (ops:Array Oper) (listed:Array Bool):Prop :=
 ∀ j o,ops[j]? = some o→listed.getD j false=true→∀ e ∈ o.after,Region.binds md e=true→listed.getD e.on false=true
def lJ (md:Region.Mode) (ops:Array Oper) (listed:Array Bool):Bool :=
 (List.range ops.size).all fun j => !(listed.getD j false) || (match ops[j]? with | some o=>o.after.all fun e => !Region.binds md e || listed.getD e.on false | none=>true)
theorem wK {listed:Array Bool} (h:lJ md ops listed=true):Closed md ops listed:=by
 intro j o ho hl e he hb;have hjl:j<ops.size:=(Array.getElem?_eq_some_iff.1 ho).1;have:=List.all_eq_true.1 h j (List.mem_range.2 hjl);rw [hl,ho] at this;simp only [Bool.not_true,Bool.false_or,Array.all_eq_true_iff_forall_mem] at this;have:=this e he;rw [hb] at this;simpa using this
theorem sQ {listed:Array Bool} (hc:Closed md ops listed) {i:Nat}:∀ (f j:Nat) (o:Oper),ops[j]? = some o→(∀ e ∈ o.after,Region.binds md e=true→listed.getD e.on false=true)→rO md ops f j i=true→listed.getD i false=true:=by
 intro f
 induction f with
 | zero=>intro j o _ _ h;cases h
 | succ f ih =>
  intro j o ho hall h;simp only [rO,ho,Array.any_eq_true,Bool.and_eq_true,Bool.or_eq_true,beq_iff_eq] at h;obtain ⟨k,hk,hb,h | h⟩:=h
  ·rw [← h];exact hall _ (Array.getElem_mem hk) hb
  ·have hl := hall _ (Array.getElem_mem hk) hb
   cases hq:ops[(o.after[k]).on]? with
   | none =>
    cases f with
    | zero=>cases h
    | succ f=>simp [rO,hq] at h
   | some o'=>exact ih _ o' hq (hc _ o' hq hl) h
theorem sJ {listed:Array Bool} {j m:Nat} (h:listed.getD m false=true):(listed.setIfInBounds j true).getD m false=true:=by
 rcases Nat.lt_or_ge m listed.size with h1 | h1
 ·simp [h1] at h ⊢;rw [Array.getElem_setIfInBounds (by simpa using h1)]
  split <;> simp [*]
 ·simp [Array.getElem?_eq_none h1] at h
theorem Closed.set {listed:Array Bool} (hc:Closed md ops listed) {j:Nat} {oj:Oper} (hj:ops[j]? = some oj) (hall:∀ e ∈ oj.after,Region.binds md e=true→listed.getD e.on false=true):Closed md ops (listed.setIfInBounds j true):=by
 intro k o ho hl e he hb;refine sJ ?_
 by_cases hkj:k=j
 ·subst hkj;rw [ho] at hj
  cases hj
  exact hall e he hb
 ·refine hc k o ho ?_ e he hb
  rcases Nat.lt_or_ge k listed.size with h1 | h1
  ·simp [h1] at hl ⊢;rwa [Array.getElem_setIfInBounds_ne _ (by omega)] at hl
  ·simp [Array.getElem?_eq_none h1] at hl;rw [Array.getElem?_eq_none (by simpa using h1)] at hl;simp at hl

def jO (P:Program) (md:Region.Mode) (ops:Array Oper) (Q:Exit→Act→World→Prop) (S:Nat→World→Prop) (T:Nat→Nat) (fuel:Nat) (listed:Array Bool) (a:Act) (w:World) (rs:List Nat):Prop :=
 ∀ i ∈ rs,wpOp P ops Q i (fun a' w'=>S (T i) w'∧zF P md ops Q S T fuel (listed.setIfInBounds i true) a' w') a w
theorem jO.nil {fuel:Nat} {listed:Array Bool} {a:Act} {w:World}:jO P md ops Q S T fuel listed a w []:=fun _ h=>by cases h
theorem jO.cons {fuel : Nat} {listed : Array Bool} {a : Act} {w : World} {i : Nat} {o : Oper} {rs : List Nat} (l : Nat) (hl : T i = l) (ho : ops[i]? = some o)
  (h:∀ K':Act→World→Prop,Shut (∀ a w,S l w→(S l w→zF P md ops Q S T fuel (listed.setIfInBounds i true) a w)→K' a w)→if Region.wanted o (yielded ops a.tmps)=true then Oper.wp P o a w K' Q else K' (a.put o.dst undef) w)
  (hs:jO P md ops Q S T fuel listed a w rs):jO P md ops Q S T fuel listed a w (i :: rs):=fun j hj=>by
 subst hl
 rcases List.mem_cons.1 hj with rfl | hj
 ·exact wpOp_step ho (fun K' hK=>h K' (fun a w hS hW=>hK a w ⟨hS,hW hS⟩))
 ·exact hs j hj
theorem tL (L:List Value) (df:List Deferred) (k:Nat) (v:Value):Act.put ⟨L.toArray,df⟩ (some k) v=⟨(L.set k v).toArray,df⟩:=by simp [Act.put]

def AU : List (Nat × Nat) → Array Bool → Array Bool
 | [],listed=>listed
 | (i,_) :: r,listed=>AU r (listed.setIfInBounds i true)
def jc : List (Nat × Nat) → List Value → List Value
 | [],L=>L
 | (_,k) :: r,L=>jc r (L.set k undef)

end
section
variable {w0 w w':World}
variable {P:Program} {ops:Array Oper} {Q:Exit→Act→World→Prop} {md:Region.Mode} {S:Nat→World→Prop} {T:Nat→Nat}

def dh (P : Program) (md : Region.Mode) (ops : Array Oper) (Q : Exit → Act → World → Prop) (S : Nat → World → Prop) (T : Nat → Nat) : Nat → Nat → Array Bool → Act → World → Prop
 | 0,_,listed,a,w=>Region.ready md ops listed=[]∧Q .normal a w
 | fuel+1,lev,listed,a,w =>
  (Region.ready md ops listed=[]→Q .normal a w) ∧
  ∀ i ∈ Region.ready md ops listed,wpOp P ops Q i (fun a' w'=>S (max lev (T i)) w'∧dh P md ops Q S T fuel (max lev (T i)) (listed.setIfInBounds i true) a' w') a w
theorem rC : ∀ (fuel lev : Nat) (listed : Array Bool) (a : Act) (w : World), dh P md ops Q S T fuel lev listed a w → wpAny P md ops Q fuel listed a w
 | 0,_,_,_,_,h=>h
 | fuel+1,_,_,_,_,h=>⟨h.1,fun i hi=>wpOp_mono (fun a' w' h'=>rC fuel _ _ a' w' h'.2) (h.2 i hi)⟩
theorem vS {i : Nat} {oi : Oper} {v : Value} (hi : ops[i]? = some oi) (hsel : ∀ (j : Nat) (o : Oper) cs b, ops[j]? = some o → o.op ≠ .select cs b)
  (hQ:∀ c a w,Q (.panic c) (a.put oi.dst v) w→Q (.panic c) a w) (hD:aO S) (l:Nat) (hT:jS md ops T l i=true) (hTi:T i=0) :
  ∀ (fuel lev:Nat) (listed:Array Bool) (a:Act) (w:World),
   (∀ j oj,ops[j]? = some oj→j≠i→listed.getD j true=false→(∀ e ∈ oj.after,Region.binds md e=true→e.on≠i)→oi.apart ops oj=true) →
   Closed md ops listed→i ∈ Region.ready md ops listed→YieldsIf P ops (S l) oi v a→lev≤l→S lev w →
   dh P md ops Q S T fuel lev (listed.setIfInBounds i true) (a.put oi.dst v) w→dh P md ops Q S T (fuel+1) lev listed a w:=by
 intro fuel
 induction fuel with
 | zero =>
  intro lev listed a w _ _ hr hy hl hS H;refine ⟨fun h=>(by rw [h] at hr;cases hr),fun j hj=>?_⟩
  by_cases hji:j=i
  ·subst hji;rw [hTi,Nat.max_zero];exact hy.wpOp hi (hD.le hl hS) ⟨hS,H⟩
  ·have := ready_mono hj hji;rw [H.1] at this
   cases this
 | succ fuel ih =>
  intro lev listed a w hfree hc hr hy hl hS H;refine ⟨fun h=>(by rw [h] at hr;cases hr),fun j hj=>?_⟩
  by_cases hji:j=i
  ·subst hji;rw [hTi,Nat.max_zero];exact hy.wpOp hi (hD.le hl hS) ⟨hS,H⟩
  ·have h1 := H.2 j (ready_mono hj hji);obtain ⟨hjun,oj,hoj,hall⟩:=mem_ready.1 hj
   have hnot:∀ e ∈ oj.after,Region.binds md e=true→e.on≠i:=fun e he hb heq=>by
    have h1:=hall e he hb;have h0:=(mem_ready.1 hr).1;rw [heq] at h1
    rcases Nat.lt_or_ge i listed.size with h' | h'
    ·simp [h'] at h0 h1;rw [h0] at h1;cases h1
    ·simp [Array.getElem?_eq_none h'] at h1
   have hTj:T j≤l:=by
    rcases Nat.lt_or_ge l (T j) with h | h
    ·exfalso;have hjl:j<ops.size:=(Array.getElem?_eq_some_iff.1 hoj).1;have:=List.all_eq_true.1 hT j (List.mem_range.2 hjl);rw [decide_eq_false (by omega)] at this;have hli:=sQ hc _ j oj hoj hall (by simpa using this);have h0:=(mem_ready.1 hr).1
     rcases Nat.lt_or_ge i listed.size with h' | h'
     ·simp [h'] at h0 hli;rw [h0] at hli;cases hli
     ·simp [Array.getElem?_eq_none h'] at hli
    ·exact h
   have h2:=wpOp_putIf hoj (hfree j oj hoj hji hjun hnot) (fun cs b=>hsel i oi cs b hi) (fun cs b=>hsel j oj cs b hoj) hQ hy h1
   have hfree' : ∀ k ok, ops[k]? = some ok → k ≠ i → (listed.setIfInBounds j true).getD k true = false →
     (∀ e ∈ ok.after,Region.binds md e=true→e.on≠i)→oi.apart ops ok=true:=fun k ok hk hki hun hno=>by
    refine hfree k ok hk hki ?_ hno
    by_cases hjk:j=k
    ·subst hjk;exact hjun
    ·rw [getD_set_ne true hjk] at hun;exact hun
   refine wpOp_mono (fun a' w' h3=>⟨h3.2.1,ih (max lev (T j)) (listed.setIfInBounds j true) a' w' hfree' (hc.set hoj hall) (ready_mono hr (Ne.symm hji)) h3.1 (Nat.max_le.2 ⟨hl,hTj⟩) h3.2.1 ?_⟩) h2;rw [Array.setIfInBounds_comm _ _ hji];exact h3.2.2
theorem oK {i : Nat} {oi : Oper} {v : Value} {fuel lev : Nat} {listed : Array Bool} {a : Act} {w : World} (hi : ops[i]? = some oi)
  (hs:Region.noSelect ops=true) (hD:aO S) (l:Nat) (hT:jS md ops T l i=true) (hTi:T i=0) (hC:lJ md ops listed=true) (hf:Region.free md ops listed i=true) (hr:(Region.ready md ops listed).contains i=true)
  (hQ:∀ c a w,Q (.panic c) (a.put oi.dst v) w→Q (.panic c) a w) (hy:YieldsIf P ops (S l) oi v a) (hl:lev≤l) (hS:S lev w)
  (h:dh P md ops Q S T fuel lev (listed.setIfInBounds i true) (a.put oi.dst v) w):dh P md ops Q S T (fuel+1) lev listed a w :=
 vS hi (Region.noSelect_spec hs) hQ hD l hT hTi fuel lev listed a w (Region.free_spec hi hf) (wK hC) (by simpa using hr) hy hl hS h

def bQ (P:Program) (md:Region.Mode) (ops:Array Oper) (Q:Exit→Act→World→Prop) (S:Nat→World→Prop) (T:Nat→Nat) (fuel lev:Nat) (listed:Array Bool) (a:Act) (w:World) (rs:List Nat):Prop :=
 ∀ i ∈ rs,wpOp P ops Q i (fun a' w'=>S (max lev (T i)) w'∧dh P md ops Q S T fuel (max lev (T i)) (listed.setIfInBounds i true) a' w') a w
theorem bQ.nil {fuel lev:Nat} {listed:Array Bool} {a:Act} {w:World}:bQ P md ops Q S T fuel lev listed a w []:=fun _ h=>by cases h
theorem bQ.cons {fuel lev : Nat} {listed : Array Bool} {a : Act} {w : World} {i : Nat} {o : Oper} {rs : List Nat} (l : Nat) (hl : max lev (T i) = l) (ho : ops[i]? = some o)
  (h:∀ K':Act→World→Prop,Shut (∀ a w,S l w→(S l w→dh P md ops Q S T fuel l (listed.setIfInBounds i true) a w)→K' a w)→if Region.wanted o (yielded ops a.tmps)=true then Oper.wp P o a w K' Q else K' (a.put o.dst undef) w)
  (hs:bQ P md ops Q S T fuel lev listed a w rs):bQ P md ops Q S T fuel lev listed a w (i :: rs):=fun j hj=>by
 subst hl
 rcases List.mem_cons.1 hj with rfl | hj
 ·exact wpOp_step ho (fun K' hK=>h K' (fun a w hS hW=>hK a w ⟨hS,hW hS⟩))
 ·exact hs j hj
theorem nJ {rs : List Nat} {fuel lev : Nat} {listed : Array Bool} {a : Act} {w : World} (hr : Region.ready md ops listed = rs) (hne : rs ≠ [])
  (h:bQ P md ops Q S T fuel lev listed a w rs):dh P md ops Q S T (fuel+1) lev listed a w :=
 ⟨fun h0=>absurd (hr ▸ h0) hne,hr ▸ h⟩
theorem ak {listed : Array Bool} {a : Act} {w : World} (hr : Region.ready md ops listed = []) (h : Q .normal a w) (lev : Nat) : ∀ fuel, dh P md ops Q S T fuel lev listed a w
 | 0=>⟨hr,h⟩
 | _+1=>⟨fun _=>h,by rw [hr];simp⟩
theorem au {id : Nat} {a : Act} {w : World} (hm : P.follows .mixedOrders = true) (hS : S 0 w.drew)
  (h:S 0 w.drew→dh P .any ops Q S T ops.size 0 (Array.replicate ops.size false) a w.drew):(Code.region id ops true).wp P Q a w :=
 wp_region_any hm (rC _ _ _ _ _ (h hS))

def uX (md : Region.Mode) (ops : Array Oper) (T : Nat → Nat) (l : Nat) : List (Nat × Nat) → Array Bool → List Value → Bool
 | [],_,_=>true
 | (i,k) :: r,listed,L=>(match ops[i]? with
   | some o=>(match o.dst with | some d=>d == k | none=>false) && jS md ops T l i && decide (T i=0) && lJ md ops listed && Region.free md ops listed i && (Region.ready md ops listed).contains i && !Region.wanted o (yielded ops L.toArray)
   | none=>false) && uX md ops T l r (listed.setIfInBounds i true) (L.set k undef)
theorem qm {df:List Deferred} {w:World} (hs:Region.noSelect ops=true) (hQ:∀ c a a' w,Q (.panic c) a' w→Q (.panic c) a w) (hD:aO S) (l lev:Nat) (hl:lev≤l) (hS:S lev w) :
  ∀ (is : List (Nat × Nat)) (fuel fuel' : Nat) (listed : Array Bool) (L : List Value), uX md ops T l is listed L = true → fuel' = fuel + is.length →
   dh P md ops Q S T fuel lev (AU is listed) ⟨(jc is L).toArray,df⟩ w→dh P md ops Q S T fuel' lev listed ⟨L.toArray,df⟩ w:=by
 intro is
 induction is with
 | nil=>intro fuel fuel' listed L _ hf h;rw [hf];exact h
 | cons x r ih =>
  obtain ⟨i,k⟩:=x;intro fuel fuel' listed L hok hf h;simp only [uX,Bool.and_eq_true] at hok;obtain ⟨h1,h2⟩:=hok
  split at h1
  ·rename_i o ho;simp only [Bool.and_eq_true,Bool.not_eq_true',decide_eq_true_iff] at h1;obtain ⟨⟨⟨⟨⟨⟨a,t1⟩,t2⟩,t3⟩,b⟩,c⟩,d⟩:=h1
   have hd:o.dst=some k:=by
    split at a
    ·rename_i e he;rw [he];exact congrArg some (by simpa using a)
    ·cases a
   rw [hf,List.length_cons,← Nat.add_assoc];refine oK (v:=undef) ho hs hD l t1 t2 t3 b c (fun c a w hq=>hQ c a _ w hq) (Or.inr ⟨d,rfl⟩) hl hS ?_;rw [hd,tL];exact ih fuel _ _ _ h2 rfl h
  ·cases h1

theorem DZ {fuel' : Nat} {listed : Array Bool} {L : List Value} {df : List Deferred} {w : World} (i k fuel l lev : Nat) {oi : Oper} {v : Value} (hi : ops[i]? = some oi) (hd : oi.dst = some k)
  (hs:Region.noSelect ops=true) (hD:aO S) (hT:jS md ops T l i=true) (hTi:decide (T i=0)=true) (hC:lJ md ops listed=true) (hf:Region.free md ops listed i=true) (hr:(Region.ready md ops listed).contains i=true) (hfu:fuel'=fuel+1) (hQ:∀ c a a' w,Q (.panic c) a' w→Q (.panic c) a w)
  (hw:Region.wanted oi (yielded ops L.toArray)=true) (hy:∀ w,S l w→(execOp (Act.eval ⟨L.toArray,df⟩) oi).run P w = .ok (.value v) w) (hl:lev≤l) (hS:S lev w)
  (h:dh P md ops Q S T fuel lev (listed.setIfInBounds i true) ⟨(L.set k v).toArray,df⟩ w):dh P md ops Q S T fuel' lev listed ⟨L.toArray,df⟩ w:=by
 subst hfu;exact oK (v:=v) hi hs hD l hT (of_decide_eq_true hTi) hC hf hr (fun c a w hq=>hQ c a _ w hq) (Or.inl ⟨hw,hy⟩) hl hS (by rw [hd,tL];exact h)
end
theorem Sl.alloc {A:Option Addr} {n c:Nat} {l:List V} (h:Sl w A n c l) (o:Obj):Sl (w.alloc o) A n c l:=h.below ((Below.refl _ _).alloc (Nat.le_refl _) _)
theorem There.alloc {g n:Nat} (h:There w g n) (o:Obj):There (w.alloc o) g n:=There.below ((Below.refl _ _).alloc (Nat.le_refl _) _) h
theorem su (g:Nat) (f:V→Bool) (hcf:∀ (args:Array Value) (w:World),(callFunc g args).run Tryz.prog w = .ok (.enter g args) w) (hg:∀ a b w,Calls Tryz.prog g #[bV a b] w (dw (.bool (f (a,b))) w)) (A:Option Addr) (n c:Nat) (l:List V) (w:World) (hS:Sl w A n c l) :
  Calls Tryz.prog 240 #[.slice A n c,.func (.func g) #[] #[]] w (dw (.int .i64 (firstIdx f l)) w):=by
 obtain ⟨hn,hcap,hbig,hat⟩:=hS;subst hn
 go_enter Tryz.func240,Tryz.ntmps240
 go_wp2
 go_loopw [8] (fun i wr=>∃ k:Nat,k≤l.length∧i = .int .i64 k∧mH f l k∧Below w.heap.size w wr) (fun i _=>l.length-(intOf i).toNat)
 case atStart=>exact ⟨0,Nat.zero_le _,rfl,oM _ _,Below.refl _ _⟩
 case round =>
  obtain ⟨k,hk,rfl,hno,hB⟩:=hrel
  by_cases hlt:k<l.length
  ·obtain ⟨b, off, rfl, hC⟩ := hat (by intro h; subst h; simp at hlt);have hC':=hC.below hB;have hx:=hC'.x k hlt;have hy:=hC'.y k hlt;have HN:=hid hno;have HG:=hid hg;clear hno hat hC hC' hg
   cases hv:f (px l k,py l k) with
   | true =>
    have HV:=hid hv;clear hv
    go_wp2_with fail
    refine (HG.out _ _ _).mono ?_;rintro e w1 ⟨rfl,hb1⟩;rw [HV.out];go_wp2
    go_returns
    exact aj (nK hlt HN.out HV.out).symm (hB.trans (hb1.mono hB.size))
   | false =>
    have HV:=hid hv;clear hv
    go_wp2_with fail
    refine (HG.out _ _ _).mono ?_;rintro e w1 ⟨rfl,hb1⟩;rw [HV.out];go_wp2;exact ⟨⟨k+1,hlt,by go_num,pO HN.out HV.out,hB.trans (hb1.mono hB.size)⟩,by simp [intOf];omega⟩
  ·have hge : l.length ≤ k := by omega
   have HN:=hid hno;clear hno hat hlt hg;go_wp2
   go_returns
   exact aj (firstIdx_none (by have:=HN.out;rwa [show k=l.length by omega] at this)).symm hB
theorem ou (g:Nat) (f:V→Bool) (hcf:∀ (args:Array Value) (w:World),(callFunc g args).run Tryz.prog w = .ok (.enter g args) w) (hg:∀ a b w,Calls Tryz.prog g #[bV a b] w (dw (.bool (f (a,b))) w)) (A:Option Addr) (n c:Nat) (l:List V) (w:World) (hS:Sl w A n c l) :
  Calls Tryz.prog 209 #[.slice A n c,.func (.func g) #[] #[]] w (dw (.bool (l.any f)) w):=by
 have HG:=hid hg;clear hg
 go_enter Tryz.func209,Tryz.ntmps209
 go_wp2_with (go_at_call 240;refine (su g f hcf HG.out _ _ _ l _ hS).mono ?_;rintro e w1 ⟨rfl,hb⟩)
 go_returns
 exact aY (by
  have h:=nT f l;simp only [ge_iff_le] at h
  rw [h]) hb
end
end Go.Proofs.YtokgmcomgflloaaGreat
