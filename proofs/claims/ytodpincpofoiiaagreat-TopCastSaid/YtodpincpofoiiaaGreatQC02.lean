/- Parts of a proof: contracts and laws. -/
import Derived.Test.YtodpincpofoiiaaGreatQC00
import Derived.ProofKit
import Derived.OpenShut
import Derived.Lib.SmallJoins
import Derived.Deep.Slices
import Derived.Deep.Fields
import Derived.ChangeSame
import Derived.Carry
import Derived.Test.YtodpincpofoiiaaGreatQC01
set_option maxRecDepth 100000
set_option maxHeartbeats 16000000
namespace Go.Proofs.YtodpincpofoiiaaGreat
section
set_option linter.unusedVariables false
set_option linter.unusedSimpArgs false
open Go.ChangeShapes Go.WideShapes Go.ChangeAt Go.RowKit Go.Deep Go.Joins
theorem own_knob:ownKnob Tryz.prog.godebug=none:=by kernel_rfl
theorem laid_out:laidOutB Tryz.prog=true:=by kernel_rfl
theorem cells_int:Tryz.prog.cellsOf 3=1:=by kernel_rfl

section
variable {H:Type} {enc:TypeId × Value→H} {W:World} {held:Bool} {base:Nat} {sp:Nat→Bool}
theorem int_bd {n:Int} (h:(Lit.int .i64 n).wf=true) : -9223372036854775808≤n∧n≤9223372036854775807:=by
 have:=bounds_i64 h
 omega


end
section
variable {H:Type} {enc:TypeId × Value→H} {P:Program}

theorem post_below {f : Func} {s : ChangeSpec} {apart fresh handsOn again : Bool} {W W' : World} {args : Array Value} {v : Value} {ds gs : List (DataW H)} {before pa pv : List MemPlace}
  (hW:DataW.Whole enc P f.params.toList s.vars apart W args.toList ds gs before)
  (hres:∀ (b:Nat) (sp:Nat→Bool) (hd:Bool),DataW.TrodAll enc P W' b sp hd f.resultTypes.toList (v.resultList f.resultTypes.size) (s.fn H (ds ++ gs)).results [])
  (hargs:∀ sp:Nat→Bool,(∀ p ∈ before,sp p.block=true)→DataW.TrodAll enc P W' 0 sp true f.params.toList args.toList (s.fn H (ds ++ gs)).args pa)
  (hvars:∀ sp:Nat→Bool,(∀ p ∈ before,sp p.block=true)→DataW.TrodVars enc P W' sp s.vars (s.fn H (ds ++ gs)).vars pv)
  (hps:before=pa ++ pv) (hb:Below W.heap.size W W')
  (hok:∀ (j:Nat) (t:TypeId) (r:Value),f.resultTypes[j]? = some t→(v.resultList f.resultTypes.size)[j]? = some r→Value.okWide P W' .any 0 t r) :
  s.post enc P f apart fresh handsOn again W args v W':=by
 have hlt:∀ p ∈ before,p.block<W.heap.size:=fun p hp=>hW.lt p hp
 refine ⟨ds,gs,before,[],pa,pv,hW,hres _ _ _,hargs _ (fun p hp=>by simpa using hlt p hp),hvars _ (fun p hp=>by simpa using hlt p hp),World.keptBut_mono (fun p hp=>⟨hp,?_⟩) (hb.frame (· ∈ before)),fun _=>?_⟩
 ·rw [hps, List.mem_append] at hp
  exact Or.inr hp
 ·obtain ⟨_, _, _, _, _, hz, hn⟩ := hW
  refine ⟨hok,_,_,([] ++ pa) ++ pv,⟨[] ++ pa,pv,trodAll_append (hargs _ (fun _ _=>rfl)) (hres _ _ _),hvars _ (fun _ _=>rfl),rfl,?_,?_⟩,?_⟩
  ·intro b off hp
   have hin:MemPlace.cell b off ∈ before:=by rw [hps];simpa using hp
   rw [hb.frozen (hlt _ hin)]
   exact hz b off hin
  ·intro ha
   have:=hn ha
   rw [hps] at this
   simpa using this
  ·intro p hp _
   rw [hps]
   simpa using hp
end
section
variable {H:Type} {enc:TypeId × Value→H} {W:World} {held:Bool} {base:Nat} {sp:Nat→Bool}


theorem open_num {r:Reach} {b0:Nat} {v:Value} {d:DataW H} {p:List MemPlace} (hv:Value.okWide Tryz.prog W r b0 3 v) (h:DataW.Trod enc Tryz.prog W base sp held 3 v d p) :
  ∃ z:Int,v = .int .i64 z ∧ -9223372036854775808≤z∧z≤9223372036854775807:=by
 obtain ⟨z,e,_,_,hz⟩:=open_int Tryz.underlying3 hv h
 exact ⟨z,e,int_bd hz⟩
end
end
end Go.Proofs.YtodpincpofoiiaaGreat
namespace Go.Proofs.YtodpincpofoiiaaGreat
section
set_option linter.unusedVariables false
set_option linter.unusedSimpArgs false
open Go.RowKit
theorem cell_neB {w:World} {g o o':Nat} {v u:Value} (h:w.cell? ⟨g,o',none⟩=some u) (hne:o≠o'):(w.setCell ⟨g,o,none⟩ v).cell? ⟨g,o',none⟩=some u:=by
 have n1:¬ o=o':=hne
 have n2:¬ o'=o:=fun e=>hne e.symm
 go_simp
theorem cell_eqB {w:World} {g o:Nat} {v u:Value} (h:w.cell? ⟨g,o,none⟩=some u):(w.setCell ⟨g,o,none⟩ v).cell? ⟨g,o,none⟩=some v:=by go_simp
theorem frz_set {w:World} {b:Nat} (h:∀ j,w.frozen? ⟨b,j,none⟩=false) (p:Addr) (v:Value):∀ j,(w.setCell p v).frozen? ⟨b,j,none⟩=false:=fun j=>by rw [World.frozen?_setCell];exact h j

structure Out (D : Nat → Prop) (w w' : World) : Prop where
 os:w'.os=w.os
 tape:w'.tape=w.tape
 output:w'.output=w.output
 size:w.heap.size≤w'.heap.size
 block:∀ k,k<w.heap.size→¬ D k→w'.heap[k]? = w.heap[k]?
theorem Out.refl (D:Nat→Prop) (w:World):Out D w w:=⟨rfl,rfl,rfl,Nat.le_refl _,fun _ _ _=>rfl⟩
theorem Out.trans {D D':Nat→Prop} {a b c:World} (h:Out D a b) (k:Out D' b c) (hd:∀ i,i<a.heap.size→D' i→D i):Out D a c :=
 ⟨k.os.trans h.os,k.tape.trans h.tape,k.output.trans h.output,Nat.le_trans h.size k.size,fun i hi hn=>(k.block i (Nat.lt_of_lt_of_le hi h.size) (fun q=>hn (hd i hi q))).trans (h.block i hi hn)⟩
theorem Out.mono {D D':Nat→Prop} {a b:World} (h:Out D a b) (hd:∀ i,i<a.heap.size→D i→D' i):Out D' a b:=⟨h.os,h.tape,h.output,h.size,fun i hi hn=>h.block i hi (fun q=>hn (hd i hi q))⟩
theorem Out.drew {D:Nat→Prop} {a b:World} (h:Out D a b):Out D a b.drew:=⟨h.os,h.tape,h.output,h.size,h.block⟩
theorem Out.below {D:Nat→Prop} {a b:World} (h:Below a.heap.size a b):Out D a b:=⟨h.os,h.tape,h.output,h.size,fun k hk _=>h.block k hk⟩
theorem Out.setCell {D:Nat→Prop} {a b:World} (h:Out D a b) {p:Addr} (hp:a.heap.size≤p.block∨D p.block) (u:Value):Out D a (b.setCell p u) :=
 ⟨h.os,h.tape,h.output,by rw [World.size_setCell];exact h.size,fun k hk hn=>(Below.heap_setCell b p u k (fun e=>hp.elim (fun q=>by omega) (fun q=>hn (e ▸ q)))).trans (h.block k hk hn)⟩
theorem Out.cell {D:Nat→Prop} {a b:World} (h:Out D a b) {g o:Nat} {v:Value} (hc:a.cell? ⟨g,o,none⟩=some v) (hn:¬ D g):b.cell? ⟨g,o,none⟩=some v:=(World.cell?_of_block (h.block _ (lt_of_cell hc) hn)).trans hc
end
end Go.Proofs.YtodpincpofoiiaaGreat
namespace Go.Proofs.YtodpincpofoiiaaGreat
section
set_option linter.unusedVariables false
set_option linter.unusedSimpArgs false
open Go.RowKit

def jnR (mv:Nat→Bool) (f:Nat→Nat) (p:Nat × Nat):Nat→Nat:=if mv p.1=true∧mv p.2=true then (fun j=>if f j=max (f p.1) (f p.2) then min (f p.1) (f p.2) else f j) else f
def islR (mv:Nat→Bool) (l:List (Nat × Nat)):Nat→Nat:=l.foldl (jnR mv) id
theorem islR_append (mv:Nat→Bool) (l:List (Nat × Nat)) (p:Nat × Nat):islR mv (l ++ [p])=jnR mv (islR mv l) p:=by unfold islR;rw [List.foldl_append];rfl

theorem isl_ind {mv:Nat→Bool} {P:(Nat→Nat)→Prop} (h0:P id):∀ l:List (Nat × Nat),(∀ f p,p ∈ l→P f→P (jnR mv f p))→P (islR mv l):=by
 have go:∀ (l:List (Nat × Nat)) (f:Nat→Nat),P f→(∀ f p,p ∈ l→P f→P (jnR mv f p))→P (l.foldl (jnR mv) f):=by
  intro l
  induction l with
  | nil=>intro f hf _;exact hf
  | cons p r ih=>intro f hf h;exact ih _ (h f p (List.mem_cons_self ..) hf) (fun f q hq=>h f q (List.mem_cons_of_mem _ hq))
 exact fun l h=>go l id h0 h

structure RtOk (f : Nat → Nat) : Prop where
 le:∀ j,f j≤j
 idem:∀ j,f (f j)=f j
theorem jnR_ok {mv:Nat→Bool} {f:Nat→Nat} (h:RtOk f) (p:Nat × Nat):RtOk (jnR mv f p):=by
 unfold jnR
 split
 ·refine ⟨fun j => ?_, fun j => ?_⟩
  ·have := h.le j
   show (if f j=_ then _ else _)≤j
   split <;> omega
  ·show (if f (if f j = _ then _ else _) = _ then _ else _) = (if f j = _ then _ else _)
   have i1:=h.idem p.1
   have i2:=h.idem p.2
   have i3:=h.idem j
   by_cases e:f j=max (f p.1) (f p.2)
   ·rw [if_pos e]
    have:f (min (f p.1) (f p.2))=min (f p.1) (f p.2):=by
     rcases Nat.le_total (f p.1) (f p.2) with q | q
     ·rw [Nat.min_eq_left q];exact i1
     ·rw [Nat.min_eq_right q];exact i2
    rw [this]
    split <;> omega
   ·rw [if_neg e,i3,if_neg e]
 ·exact h
theorem islR_ok (mv:Nat→Bool) (l:List (Nat × Nat)):RtOk (islR mv l):=isl_ind ⟨fun j=>Nat.le_refl j,fun _=>rfl⟩ l (fun f p _ h=>jnR_ok h p)




def gU (up:List Nat) (i:Nat):Nat:=up.getD i i
structure Upt (up : List Nat) (f : Nat → Nat) : Prop where
 le:∀ i,gU up i≤i
 fix:∀ i,gU up i=i→f i=i
 step:∀ i,f (gU up i)=f i
theorem gU_set {up:List Nat} {i:Nat} (hi:i<up.length) (v j:Nat):gU (up.set i v) j=if j=i then v else gU up j:=by
 unfold gU
 rw [List.getD_eq_getElem?_getD,List.getD_eq_getElem?_getD]
 split
 ·rename_i e;subst e;rw [List.getElem?_set_self hi];rfl
 ·rename_i e;rw [List.getElem?_set_ne (fun q=>e q.symm)]
theorem Upt.new (n:Nat):Upt (List.range n) id:=by
 have e:∀ i,gU (List.range n) i=i:=fun i=>by
  unfold gU
  rw [List.getD_eq_getElem?_getD]
  rcases Nat.lt_or_ge i n with h | h
  ·rw [List.getElem?_range h];rfl
  ·rw [List.getElem?_eq_none (by simpa using h)];rfl
 exact ⟨fun i=>Nat.le_of_eq (e i),fun i _=>rfl,fun i=>e i⟩
theorem Upt.ok {up:List Nat} {f:Nat→Nat} (h:Upt up f):RtOk f∧∀ j,gU up (f j)=f j:=by
 have go:∀ n j,j<n→f j≤j∧gU up (f j)=f j∧f (f j)=f j:=by
  intro n
  induction n with
  | zero=>intro j hj;omega
  | succ n ih =>
   intro j hj
   have hl:=h.le j
   by_cases e:gU up j=j
   ·have := h.fix j e
    rw [this]
    exact ⟨Nat.le_refl _,e,this⟩
   ·obtain ⟨a, b, c⟩ := ih (gU up j) (by omega)
    rw [h.step j] at a b c
    exact ⟨by omega,b,c⟩
 exact ⟨⟨fun j=>(go (j+1) j (by omega)).1,fun j=>(go (j+1) j (by omega)).2.2⟩,fun j=>(go (j+1) j (by omega)).2.1⟩

theorem Upt.halve {up:List Nat} {f:Nat→Nat} (h:Upt up f) {i:Nat} (hi:i<up.length):Upt (up.set i (gU up (gU up i))) f:=by
 have a:=h.le i
 have b:=h.le (gU up i)
 refine ⟨fun j=>?_,fun j e=>?_,fun j=>?_⟩
 ·rw [gU_set hi]; split
  ·omega
  ·exact h.le j
 ·rw [gU_set hi] at e
  split at e
  ·rename_i q;subst q;exact h.fix j (by omega)
  ·exact h.fix j e
 ·rw [gU_set hi]; split
  ·rename_i q;subst q;rw [h.step,h.step]
  ·exact h.step j

theorem Upt.join {up:List Nat} {f:Nat→Nat} (h:Upt up f) {mv:Nat→Bool} {p:Nat × Nat} (hp:mv p.1=true∧mv p.2=true) (h1:p.1<up.length) (h2:p.2<up.length):Upt (up.set (max (f p.1) (f p.2)) (min (f p.1) (f p.2))) (jnR mv f p):=by
 obtain ⟨hk,hr⟩:=h.ok
 have l1:=hk.le p.1
 have l2:=hk.le p.2
 have i1:=hk.idem p.1
 have i2:=hk.idem p.2
 have hi:max (f p.1) (f p.2)<up.length:=by omega
 have fM:f (max (f p.1) (f p.2))=max (f p.1) (f p.2):=by
  rcases Nat.le_total (f p.1) (f p.2) with q | q
  ·rw [Nat.max_eq_right q];exact i2
  ·rw [Nat.max_eq_left q];exact i1
 have fm:f (min (f p.1) (f p.2))=min (f p.1) (f p.2):=by
  rcases Nat.le_total (f p.1) (f p.2) with q | q
  ·rw [Nat.min_eq_left q];exact i1
  ·rw [Nat.min_eq_right q];exact i2
 have ej:jnR mv f p=fun j=>if f j=max (f p.1) (f p.2) then min (f p.1) (f p.2) else f j:=by unfold jnR;rw [if_pos hp]
 generalize hM:max (f p.1) (f p.2)=M at *
 generalize hm:min (f p.1) (f p.2)=m at *
 have hle:m≤M:=by omega
 rw [ej]
 refine ⟨fun j=>?_,fun j e=>?_,fun j=>?_⟩
 ·rw [gU_set hi]; split
  ·omega
  ·exact h.le j
 ·rw [gU_set hi] at e
  show (if f j=M then m else f j)=j
  split at e
  ·rename_i q;subst q;rw [fM,if_pos rfl];exact e
  ·rename_i q
   have:=h.fix j e
   rw [this,if_neg q]
 ·rw [gU_set hi]
  show (if f (if j=M then m else gU up j)=M then m else f (if j=M then m else gU up j))=(if f j=M then m else f j)
  by_cases q:j=M
  ·subst q
   rw [if_pos rfl,fm,fM,if_pos rfl]
   split <;> omega
  ·rw [if_neg q,h.step]

theorem Upt.put {up:List Nat} {f:Nat→Nat} (h:Upt up f) {i:Nat} (hi:i<up.length):Upt (up.set i (f i)) f:=by
 obtain ⟨hk,hr⟩:=h.ok
 refine ⟨fun j=>?_,fun j e=>?_,fun j=>?_⟩
 ·rw [gU_set hi]; split
  ·rename_i q;subst q;exact hk.le j
  ·exact h.le j
 ·rw [gU_set hi] at e
  split at e
  ·rename_i q;subst q;exact e
  ·exact h.fix j e
 ·rw [gU_set hi]; split
  ·rename_i q;subst q;exact hk.idem j
  ·exact h.step j




end
end Go.Proofs.YtodpincpofoiiaaGreat
