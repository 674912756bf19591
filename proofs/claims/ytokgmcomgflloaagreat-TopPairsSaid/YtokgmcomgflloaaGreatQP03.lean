/- Parts of a proof: contracts and laws. -/
import Derived.Test.YtokgmcomgflloaaGreatQP02
set_option maxRecDepth 100000
set_option maxHeartbeats 16000000
namespace Go.Proofs.YtokgmcomgflloaaGreat
section
set_option linter.unusedVariables false
set_option linter.unusedSimpArgs false
open Go.RowKit
variable {w0 w w':World}
theorem sA {α:Type} {l:List α} {i:Nat} {a:α}:l.toArray.setIfInBounds i a=(l.set i a).toArray:=by simp
theorem sB {α:Type} {l:List α} {a b:α}:(a :: l).set 0 b=b :: l:=rfl
theorem sC {α:Type} {l:List α} {n:Nat} {a b:α}:(a :: l).set (n+1) b=a :: l.set n b:=rfl
section
variable {w0 w w':World}
variable {P:Program} {ops:Array Oper} {Q:Exit→Act→World→Prop} {md:Region.Mode} {S:Nat→World→Prop} {T:Nat→Nat}
theorem Ut {fuel' : Nat} {listed : Array Bool} {L : List Value} {df : List Deferred} {w : World} (i k fuel l lev : Nat) {oi : Oper} {v : Value} (hi : ops[i]? = some oi) (hD : aG S) (hS : S lev w)
  (hy:∀ w,S l w→(execOp (Act.eval ⟨L.toArray,df⟩) oi).run P w = .ok (.value v) w)
  (h:eH P md ops Q S T fuel lev (listed.setIfInBounds i true) ⟨(L.set k v).toArray,df⟩ w)
  (hd:oi.dst=some k:=by kernel_rfl) (hs:Region.noSelect ops=true:=by kernel_rfl) (hT:jm md ops T l i=true:=by kernel_rfl) (hTi:decide (T i=0)=true:=by kernel_rfl) (hC:lF md ops listed=true:=by kernel_rfl) (hf:Region.free md ops listed i=true:=by kernel_rfl) (hr:(Region.ready md ops listed).contains i=true:=by kernel_rfl) (hfu:fuel'=fuel+1:=by kernel_rfl)
  (hQ:∀ c a a' w,Q (.panic c) a' w→Q (.panic c) a w:=by exact fun _ _ _ _ h=>h) (hw:Region.wanted oi (yielded ops L.toArray)=true:=by kernel_rfl) (hl:lev≤l:=by omega):eH P md ops Q S T fuel' lev listed ⟨L.toArray,df⟩ w :=
 NQ i k fuel l lev hi hd hs hD hT hTi hC hf hr hfu hQ hw hy hl hS h

def AX (md : Region.Mode) (ops : Array Oper) (T : Nat → Nat) (l : Nat) : List (Nat × Nat) → Array Bool → Bool
 | [],_=>true
 | (i,k) :: r,d=>(match ops[i]? with | some o=>o.dst == some k | none=>false) && (jm md ops T l i && (decide (T i=0) && (lF md ops d && (Region.free md ops d i && ((Region.ready md ops d).contains i && AX md ops T l r (d.setIfInBounds i true))))))
def Md : List (Nat × Nat) → Array Bool → Array Bool
 | [],d=>d
 | (i,_) :: r,d=>Md r (d.setIfInBounds i true)
def JU (P : Program) (ops : Array Oper) (S : World → Prop) (df : List Deferred) : List (Nat × Nat) → List Value → List Value → Prop
 | [],L,L'=>L'=L
 | (i,k) :: r,L,L'=>∃ v,∃ oi,ops[i]? = some oi∧Region.wanted oi (yielded ops L.toArray)=true∧(∀ w,S w→(execOp (Act.eval ⟨L.toArray,df⟩) oi).run P w = .ok (.value v) w)∧JU P ops S df r (L.set k v) L'
theorem dD {S:World→Prop} {df:List Deferred} {L:List Value}:JU P ops S df [] L L:=rfl
theorem dF {S:World→Prop} {df:List Deferred} {i k:Nat} {r:List (Nat × Nat)} {L L':List Value} {v:Value} {oi:Oper} (hi:ops[i]? = some oi) (hw:Region.wanted oi (yielded ops L.toArray)=true) (hy:∀ w,S w→(execOp (Act.eval ⟨L.toArray,df⟩) oi).run P w = .ok (.value v) w) (h:JU P ops S df r (L.set k v) L'):JU P ops S df ((i,k) :: r) L L':=⟨v,oi,hi,hw,hy,h⟩
theorem D6 (hD : aG S) (hs : Region.noSelect ops = true) (hQ : ∀ c a a' w, Q (.panic c) a' w → Q (.panic c) a w) {l lev fuel : Nat} (hl : lev ≤ l) {df : List Deferred} {w : World} (hS : S lev w) : ∀ (xs : List (Nat × Nat)) (listed : Array Bool) (L L' : List Value), AX md ops T l xs listed = true → JU P ops (S l) df xs L L' →
  eH P md ops Q S T fuel lev (Md xs listed) ⟨L'.toArray,df⟩ w→eH P md ops Q S T (fuel+xs.length) lev listed ⟨L.toArray,df⟩ w
 | [],listed,L,L',_,hv,h=>by
  have e:L'=L:=hv
  subst e
  exact h
 | (i,k) :: r,listed,L,L',hx,hv,h=>by
  obtain ⟨v,oi,hi,hw,hy,hr⟩:=hv
  unfold AX at hx
  rw [hi] at hx
  simp only [Bool.and_eq_true,decide_eq_true_iff,beq_iff_eq] at hx
  obtain ⟨hd,hT,hTi,hC,hf,hrd,hrest⟩:=hx
  exact NQ i k (fuel+r.length) l lev hi hd hs hD hT (decide_eq_true hTi) hC hf hrd rfl hQ hw hy hl hS (D6 hD hs hQ hl hS r (listed.setIfInBounds i true) (L.set k v) L' hrest hr h)
theorem dG {fuel' : Nat} {listed : Array Bool} {L L' : List Value} {df : List Deferred} {w : World} (xs : List (Nat × Nat)) (fuel l lev : Nat) (hD : aG S) (hS : S lev w) (hv : JU P ops (S l) df xs L L')
  (h:eH P md ops Q S T fuel lev (Md xs listed) ⟨L'.toArray,df⟩ w)
  (hx:AX md ops T l xs listed=true:=by kernel_rfl) (hs:Region.noSelect ops=true:=by kernel_rfl) (hfu:fuel'=fuel+xs.length:=by kernel_rfl)
  (hQ:∀ c a a' w,Q (.panic c) a' w→Q (.panic c) a w:=by exact fun _ _ _ _ h=>h) (hl:lev≤l:=by omega):eH P md ops Q S T fuel' lev listed ⟨L.toArray,df⟩ w:=by
 subst hfu;exact D6 hD hs hQ hl hS xs listed L L' hx hv h
theorem U1 {fuel lev : Nat} {listed : Array Bool} {a : Act} {w : World} (i l : Nat) {o : Oper} (ho : ops[i]? = some o)
  (h:∀ K':Act→World→Prop,Shut (∀ a w,S l w→(S l w→eH P md ops Q S T fuel l (listed.setIfInBounds i true) a w)→K' a w)→if Region.wanted o (yielded ops a.tmps)=true then Oper.wp P o a w K' Q else K' (a.put o.dst undef) w)
  (hr:Region.ready md ops listed=[i]:=by kernel_rfl) (hl:max lev (T i)=l:=by kernel_rfl):eH P md ops Q S T (fuel+1) lev listed a w :=
 sI hr (by simp) (dO.cons l hl ho h dO.nil)
theorem Ur {fuel lev:Nat} {listed:Array Bool} {a:Act} {w:World} (rs:List Nat) (h:dO P md ops Q S T fuel lev listed a w rs) (hr:Region.ready md ops listed=rs:=by kernel_rfl) (hne:rs≠[]:=by simp):eH P md ops Q S T (fuel+1) lev listed a w:=sI hr hne h
theorem Uc {fuel lev : Nat} {listed : Array Bool} {a : Act} {w : World} {i : Nat} {o : Oper} {rs : List Nat} (l : Nat) (ho : ops[i]? = some o)
  (h:∀ K':Act→World→Prop,Shut (∀ a w,S l w→(S l w→eH P md ops Q S T fuel l (listed.setIfInBounds i true) a w)→K' a w)→if Region.wanted o (yielded ops a.tmps)=true then Oper.wp P o a w K' Q else K' (a.put o.dst undef) w)
  (hs:dO P md ops Q S T fuel lev listed a w rs) (hl:max lev (T i)=l:=by kernel_rfl):dO P md ops Q S T fuel lev listed a w (i :: rs):=dO.cons l hl ho h hs
end
theorem Ba {o:Obj}:Below w.heap.size w (w.alloc o):=(Below.refl _ _).alloc (Nat.le_refl _) _
def tf (k n:Nat):Array Bool:=((List.range k).map (Nat.testBit n)).toArray
end
section
set_option linter.unusedVariables false
open Go.RowKit
variable {w0 w w':World}
theorem jK {P:Program} {md:Region.Mode} {ops:Array Oper} {Q:Exit→Act→World→Prop} {S:Nat→World→Prop} {T:Nat→Nat} {fuel lev:Nat} {l l':Array Bool} {a:Act} {w:World} (h:l=l') (hw:eH P md ops Q S T fuel lev l' a w):eH P md ops Q S T fuel lev l a w:=h ▸ hw
end
section
set_option linter.unusedVariables false
set_option linter.unusedSimpArgs false
open Go.RowKit
variable {w0 w w':World}

structure O5 (w : World) (gu gs : Nat) (up : List Nat) : Prop where
 cu:w.cell? ⟨gu,0,none⟩=some (.slice (some ⟨gs,0,none⟩) up.length up.length)
 cs:∀ i,i<up.length→w.cell? ⟨gs,i,none⟩=some (.int .i64 (gU up i:Nat))
 fr:∀ j,w.frozen? ⟨gs,j,none⟩=false
 lt:gs<w.heap.size
 ne:gu≠gs
 big:up.length≤1000000
theorem O5.out {gu gs:Nat} {up:List Nat} {D:Nat→Prop} (h:O5 w gu gs up) (o:Out D w w') (n1:¬ D gu) (n2:¬ D gs):O5 w' gu gs up :=
 ⟨o.cell h.cu n1,fun i hi=>o.cell (h.cs i hi) n2,fun j=>(World.frozen?_of_block (o.block gs h.lt n2)).trans (h.fr j),Nat.lt_of_lt_of_le h.lt o.size,h.ne,h.big⟩
theorem O5.set {gu gs:Nat} {up:List Nat} (h:O5 w gu gs up) {i:Nat} (hi:i<up.length) (v:Nat):O5 (w.setCell ⟨gs,i,none⟩ (.int .i64 (v:Nat))) gu gs (up.set i v):=by
 refine ⟨by rw [List.length_set];exact aZ (fun e=>h.ne e.symm) h.cu,fun j hj=>?_,cK h.fr _ _,by rw [World.size_setCell];exact h.lt,h.ne,by rw [List.length_set];exact h.big⟩;rw [List.length_set] at hj;rw [jC hi]
 by_cases e:j=i
 ·subst e;rw [if_pos rfl];exact dZ (h.cs j hj)
 ·rw [if_neg e];exact aC (h.cs j hj) (fun q=>e q.symm)

structure tX (w : World) (gu gs n : Nat) (f : Nat → Nat) (P : Nat → Prop) (wr : World) : Prop where
 ex:∃ up,up.length=n∧O5 wr gu gs up∧EN up f∧∀ j,P j→gU up j=f j
 out:Out (fun k=>k=gs) w wr
theorem tX.keep {gu gs n:Nat} {f:Nat→Nat} {P:Nat→Prop} {wr w':World} (h:tX w gu gs n f P wr) (hb:Below wr.heap.size wr w'):tX w gu gs n f P w':=by
 obtain ⟨⟨up,h1,h2,h3,h4⟩,o⟩:=h;exact ⟨⟨up,h1,h2.out (Out.below (D:=fun _=>False) hb) (fun q=>q) (fun q=>q),h3,h4⟩,o.trans (Out.below (D:=fun _=>False) hb) (fun i _ q=>q.elim)⟩
def RX (gu gs n:Nat) (f:Nat→Nat) (P:Nat→Prop) (z:Nat) (w:World) (e:Ending) (w':World):Prop:=e = .returned (.int .i64 (z:Nat))∧tX w gu gs n f P w'
theorem Dm {gu gs n:Nat} {f:Nat→Nat} {P:Nat→Prop} (h:tX w gu gs n f P w) {i:Nat} (hi:i<n) :
  Calls Tryz.prog 109 #[.int .i64 (i:Nat),.pointer (some ⟨gu,0,none⟩)] w (RX gu gs n f P (f i) w):=by
 obtain ⟨z,hz⟩:∃ z,z=f i:=⟨_,rfl⟩;rw [← hz];have HK0:Hid (tX w gu gs n f P w∧i<n∧f i=z):=⟨h,hi,hz.symm⟩;clear h hi hz
 go_enter Tryz.func109,Tryz.ntmps109
 go_wp2
 go_loopw [0] (fun q wr=>∃ j:Nat,q = .int .i64 j∧Hid (tX w gu gs n f P wr∧j<n∧f j=z)) (fun q _=>(intOf q).toNat)
 case atStart=>exact ⟨i,rfl,HK0⟩
 case round =>
  clear HK0;obtain ⟨j,rfl,HK⟩:=hrel;obtain ⟨wo,rfl⟩:∃ wo:World,wo=wr:=⟨_,rfl⟩;obtain ⟨⟨⟨up,hl,hU,hf,hP⟩,hO⟩,hj,hz⟩:=HK.out;have HP:=hid hP;clear hP;have c0:=hU.cu;rw [hl] at c0;have hbig:=hU.big;rw [hl] at hbig;obtain ⟨a,ha⟩:∃ a,a=gU up j:=⟨_,rfl⟩;have ca:=hU.cs j (by omega);rw [← ha] at ca;have haj:a≤j:=by rw [ha];exact hf.le j
  obtain ⟨b,hb⟩:∃ b,b=gU up a:=⟨_,rfl⟩;have cb:=hU.cs a (by omega);rw [← hb] at cb;have hba:b≤a:=by rw [hb];exact hf.le a
  have hj':(j:Int)<(n:Int):=by omega
  have ha':(a:Int)<(n:Int):=by omega
  have lu:=lt_of_cell c0;have ls:=lt_of_cell ca;have HF:=hid hf;have HU:=hid hU;have HA:=hid ha;have HB:=hid hb;have HL:=hid hl;have HZ:=hid hz;have HO:=hid hO;clear hf hU ha hb hl hz hO
  by_cases e:a=j
  ·have HE := hid e;have hfz:f j=j:=HF.out.fix j (by rw [← HA.out];exact e);have HJ:Hid (z=j):=hid (by rw [← HZ.out,hfz]);have HR:Hid (tX w gu gs n f P wo):=hid HK.out.1;have e':(a:Int)=(j:Int):=by omega
   clear e hfz HK;go_wp2
   go_returns
   exact ⟨by rw [HJ.out];rfl,HR.out⟩
  ·have e' : ¬ (a : Int) = (j : Int) := by omega
   go_upto_region 2 with fail
   have C0:=hid c0;have CA:=hid ca;have CB:=hid cb;have CF:=hid HU.out.fr;clear c0 ca cb;refine wp_region_noPanic ?_;refine au (S:=(S2 (fun w'=>w'.cell? ⟨gu,0,none⟩=some (.slice (some ⟨gs,0,none⟩) n n)∧w'.cell? ⟨gs,j,none⟩=some (.int .i64 (a:Nat))∧w'.cell? ⟨gs,a,none⟩=some (.int .i64 (b:Nat))∧(∀ j,w'.frozen? ⟨gs,j,none⟩=false)))) (T:=(fun j=>[0,0,0,0,0,0,0,0,0,0,1].getD j 0)) (by kernel_rfl) (aK ⟨C0.out,CA.out,CB.out,CF.out⟩) (fun hH=>?_);have hWr1:aG (S2 (fun w'=>w'.cell? ⟨gu,0,none⟩=some (.slice (some ⟨gs,0,none⟩) n n)∧w'.cell? ⟨gs,j,none⟩=some (.int .i64 (a:Nat))∧w'.cell? ⟨gs,a,none⟩=some (.int .i64 (b:Nat))∧(∀ j,w'.frozen? ⟨gs,j,none⟩=false))):=aI _;refine dG [(0,10),(1,11),(2,12),(3,13),(4,14),(5,15),(6,16),(7,17),(8,18),(9,19)] 1 0 0 (L':=?Lr1_1) hWr1 hH ?yr1_1 ?_
   case yr1_1=>((iterate 10 apply dF;rfl;kernel_rfl;intro w' hSw;replace hSw:=aB hSw;(try dsimp only at hSw);have q0:=hSw.1;have q1:=hSw.2.1;have q2:=hSw.2.2.1;have q3:=hSw.2.2.2;(try simp only [sB,sC]);go_simp;(try with_reducible rfl));exact dD)
   simp only [sB,sC];refine U1 10 1 rfl (fun K hK=>?_);have hG:=hH;replace hG:=aB hG;(try dsimp only at hG);have q0:=hG.1;have q1:=hG.2.1;have q2:=hG.2.2.1;have q3:=hG.2.2.2;go_simp;refine hK.out _ _ (gV) (fun hH2=>?_);clear hK K hH
   rename _=>hH
   try simp only [Act.put,sA,sB,sC]
   clear hG q0 q1 q2 q3;refine ak (by kernel_rfl) ?_ _ _;refine NoPanic.normal ?_;clear hWr1 hH;generalize hwB:World.drew _=wB;have HU2:Hid (O5 wB gu gs (up.set j b)):=hid (by rw [← hwB];exact (HU.out.set (by rw [HL.out];exact hj) b).out (Out.below (D:=fun _=>False) ((Below.refl _ _).drew)) (fun q=>q) (fun q=>q));have HO2:Hid (Out (fun k=>k=gs) w wB):=hid (by rw [← hwB];exact (HO.out.setCell (p:=⟨gs,j,none⟩) (.inr rfl) _).drew);have HF2:Hid (EN (up.set j b) f):=hid (by rw [HB.out,HA.out];exact HF.out.halve (by rw [HL.out];exact hj));have HZ2:Hid (f b=z):=hid (by rw [HB.out,HF.out.step,HA.out,HF.out.step,HZ.out]);have d0:=HU2.out.cu;rw [List.length_set,HL.out] at d0;have da:=HU2.out.cs j (by rw [List.length_set,HL.out];exact hj);rw [jC (by rw [HL.out];exact hj),if_pos rfl] at da;have lu2:=lt_of_cell d0;have ls2:=lt_of_cell da
   have HP2:Hid (∀ q,P q→gU (up.set j b) q=f q):=hid (fun q hq=>by
    rw [jC (by rw [HL.out];exact hj)]
    by_cases e:q=j
    ·subst e;rw [if_pos rfl,HB.out,HA.out,HP.out q hq];exact HF.out.ok.2 q
    ·rw [if_neg e]
     exact HP.out q hq)
   have HK2:Hid (tX w gu gs n f P wB∧b<n∧f b=z):=⟨⟨⟨_,by rw [List.length_set];exact HL.out,HU2.out,HF2.out,HP2.out⟩,HO2.out⟩,by omega,HZ2.out⟩;clear hwB C0 CA CB CF HK HU HU2 HO HO2 HF HF2 HZ HZ2 HA HB HL HP HP2;go_wp2;go_roundw
   case rel=>exact ⟨b,rfl,HK2⟩
   case measure=>simp [intOf];omega
theorem tX.here {gu gs n:Nat} {f:Nat→Nat} {P:Nat→Prop} {wr:World} (h:tX w gu gs n f P wr):tX wr gu gs n f P wr:=⟨h.ex,Out.refl _ _⟩
theorem tX.then {gu gs n:Nat} {f f':Nat→Nat} {P P':Nat→Prop} {a b:World} (h:tX w gu gs n f P a) (k:tX a gu gs n f' P' b):tX w gu gs n f' P' b:=⟨k.ex,h.out.trans k.out (fun i _ q=>q)⟩

structure R8 (w : World) (gl gr gu gs n bl off c : Nat) (mv : Nat → Bool) : Prop where
 cl:w.cell? ⟨gl,0,none⟩=some (.slice (some ⟨bl,off,none⟩) n c)
 cr:w.cell? ⟨gr,0,none⟩=some (.func (.func 109) #[] #[.pointer (some ⟨gu,0,none⟩)])
 cm:∀ j,j<n→∃ m:Int,w.cell? ⟨bl,off+j*13+6,none⟩=some (.int .i64 m)∧(mv j=true↔m≠0)
 ne:gl≠gs∧gr≠gs∧bl≠gs
theorem R8.out {gl gr gu gs n bl off c:Nat} {mv:Nat→Bool} (h:R8 w gl gr gu gs n bl off c mv) (o:Out (fun k=>k=gs) w w'):R8 w' gl gr gu gs n bl off c mv :=
 ⟨o.cell h.cl h.ne.1,o.cell h.cr h.ne.2.1,fun j hj=>by obtain ⟨m,h1,h2⟩:=h.cm j hj;exact ⟨m,o.cell h1 h.ne.2.2,h2⟩,h.ne⟩
end
end Go.Proofs.YtokgmcomgflloaaGreat
