/- Parts of a proof: contracts and laws. -/
import Derived.Test.YtokgmcomgflloaaGreatQX03
import Derived.Test.YtokgmcomgflloaaGreatQX02
import Derived.Test.YtokgmcomgflloaaGreatQX01
import Derived.Deep.DeepCutAuto
set_option maxRecDepth 100000
set_option maxHeartbeats 16000000
namespace Go.Proofs.YtokgmcomgflloaaGreat
section
set_option linter.unusedVariables false
set_option linter.unusedSimpArgs false
open Go.RowKit
variable {w0 w w':World}
theorem sA {α:Type} {l:List α} {i:Nat} {a:α}:l.toArray.setIfInBounds i a=(l.set i a).toArray:=by simp
theorem sB {α:Type} {l:List α} {a b:α}:(a :: l).set 0 b=b :: l:=rfl
theorem sC {α:Type} {l:List α} {n:Nat} {a b:α}:(a :: l).set (n+1) b=a :: l.set n b:=rfl
section
variable {w0 w w':World}
variable {P:Program} {ops:Array Oper} {Q:Exit→Act→World→Prop} {md:Region.Mode} {S:Nat→World→Prop} {T:Nat→Nat}
theorem Ut {fuel' : Nat} {listed : Array Bool} {L : List Value} {df : List Deferred} {w : World} (i k fuel l lev : Nat) {oi : Oper} {v : Value} (hi : ops[i]? = some oi) (hD : aO S) (hS : S lev w)
  (hy:∀ w,S l w→(execOp (Act.eval ⟨L.toArray,df⟩) oi).run P w = .ok (.value v) w)
  (h:dh P md ops Q S T fuel lev (listed.setIfInBounds i true) ⟨(L.set k v).toArray,df⟩ w)
  (hd:oi.dst=some k:=by kernel_rfl) (hs:Region.noSelect ops=true:=by kernel_rfl) (hT:jS md ops T l i=true:=by kernel_rfl) (hTi:decide (T i=0)=true:=by kernel_rfl) (hC:lJ md ops listed=true:=by kernel_rfl) (hf:Region.free md ops listed i=true:=by kernel_rfl) (hr:(Region.ready md ops listed).contains i=true:=by kernel_rfl) (hfu:fuel'=fuel+1:=by kernel_rfl)
  (hQ:∀ c a a' w,Q (.panic c) a' w→Q (.panic c) a w:=by exact fun _ _ _ _ h=>h) (hw:Region.wanted oi (yielded ops L.toArray)=true:=by kernel_rfl) (hl:lev≤l:=by omega):dh P md ops Q S T fuel' lev listed ⟨L.toArray,df⟩ w :=
 DZ i k fuel l lev hi hd hs hD hT hTi hC hf hr hfu hQ hw hy hl hS h

def vV (md : Region.Mode) (ops : Array Oper) (T : Nat → Nat) (l : Nat) : List (Nat × Nat) → Array Bool → Bool
 | [],_=>true
 | (i,k) :: r,d=>(match ops[i]? with | some o=>o.dst == some k | none=>false) && (jS md ops T l i && (decide (T i=0) && (lJ md ops d && (Region.free md ops d i && ((Region.ready md ops d).contains i && vV md ops T l r (d.setIfInBounds i true))))))
def D5 : List (Nat × Nat) → Array Bool → Array Bool
 | [],d=>d
 | (i,_) :: r,d=>D5 r (d.setIfInBounds i true)
def Cm (P : Program) (ops : Array Oper) (S : World → Prop) (df : List Deferred) : List (Nat × Nat) → List Value → List Value → Prop
 | [],L,L'=>L'=L
 | (i,k) :: r,L,L'=>∃ v,∃ oi,ops[i]? = some oi∧Region.wanted oi (yielded ops L.toArray)=true∧(∀ w,S w→(execOp (Act.eval ⟨L.toArray,df⟩) oi).run P w = .ok (.value v) w)∧Cm P ops S df r (L.set k v) L'
theorem gF {S:World→Prop} {df:List Deferred} {L:List Value}:Cm P ops S df [] L L:=rfl
theorem gK {S:World→Prop} {df:List Deferred} {i k:Nat} {r:List (Nat × Nat)} {L L':List Value} {v:Value} {oi:Oper} (hi:ops[i]? = some oi) (hw:Region.wanted oi (yielded ops L.toArray)=true) (hy:∀ w,S w→(execOp (Act.eval ⟨L.toArray,df⟩) oi).run P w = .ok (.value v) w) (h:Cm P ops S df r (L.set k v) L'):Cm P ops S df ((i,k) :: r) L L':=⟨v,oi,hi,hw,hy,h⟩
theorem xM (hD : aO S) (hs : Region.noSelect ops = true) (hQ : ∀ c a a' w, Q (.panic c) a' w → Q (.panic c) a w) {l lev fuel : Nat} (hl : lev ≤ l) {df : List Deferred} {w : World} (hS : S lev w) : ∀ (xs : List (Nat × Nat)) (listed : Array Bool) (L L' : List Value), vV md ops T l xs listed = true → Cm P ops (S l) df xs L L' →
  dh P md ops Q S T fuel lev (D5 xs listed) ⟨L'.toArray,df⟩ w→dh P md ops Q S T (fuel+xs.length) lev listed ⟨L.toArray,df⟩ w
 | [],listed,L,L',_,hv,h=>by
  have e:L'=L:=hv
  subst e
  exact h
 | (i,k) :: r,listed,L,L',hx,hv,h=>by
  obtain ⟨v,oi,hi,hw,hy,hr⟩:=hv
  unfold vV at hx
  rw [hi] at hx
  simp only [Bool.and_eq_true,decide_eq_true_iff,beq_iff_eq] at hx
  obtain ⟨hd,hT,hTi,hC,hf,hrd,hrest⟩:=hx
  exact DZ i k (fuel+r.length) l lev hi hd hs hD hT (decide_eq_true hTi) hC hf hrd rfl hQ hw hy hl hS (xM hD hs hQ hl hS r (listed.setIfInBounds i true) (L.set k v) L' hrest hr h)
theorem gH {fuel' : Nat} {listed : Array Bool} {L L' : List Value} {df : List Deferred} {w : World} (xs : List (Nat × Nat)) (fuel l lev : Nat) (hD : aO S) (hS : S lev w) (hv : Cm P ops (S l) df xs L L')
  (h:dh P md ops Q S T fuel lev (D5 xs listed) ⟨L'.toArray,df⟩ w)
  (hx:vV md ops T l xs listed=true:=by kernel_rfl) (hs:Region.noSelect ops=true:=by kernel_rfl) (hfu:fuel'=fuel+xs.length:=by kernel_rfl)
  (hQ:∀ c a a' w,Q (.panic c) a' w→Q (.panic c) a w:=by exact fun _ _ _ _ h=>h) (hl:lev≤l:=by omega):dh P md ops Q S T fuel' lev listed ⟨L.toArray,df⟩ w:=by
 subst hfu;exact xM hD hs hQ hl hS xs listed L L' hx hv h
theorem U1 {fuel lev : Nat} {listed : Array Bool} {a : Act} {w : World} (i l : Nat) {o : Oper} (ho : ops[i]? = some o)
  (h:∀ K':Act→World→Prop,Shut (∀ a w,S l w→(S l w→dh P md ops Q S T fuel l (listed.setIfInBounds i true) a w)→K' a w)→if Region.wanted o (yielded ops a.tmps)=true then Oper.wp P o a w K' Q else K' (a.put o.dst undef) w)
  (hr:Region.ready md ops listed=[i]:=by kernel_rfl) (hl:max lev (T i)=l:=by kernel_rfl):dh P md ops Q S T (fuel+1) lev listed a w :=
 nJ hr (by simp) (bQ.cons l hl ho h bQ.nil)
theorem Ur {fuel lev:Nat} {listed:Array Bool} {a:Act} {w:World} (rs:List Nat) (h:bQ P md ops Q S T fuel lev listed a w rs) (hr:Region.ready md ops listed=rs:=by kernel_rfl) (hne:rs≠[]:=by simp):dh P md ops Q S T (fuel+1) lev listed a w:=nJ hr hne h
theorem Uc {fuel lev : Nat} {listed : Array Bool} {a : Act} {w : World} {i : Nat} {o : Oper} {rs : List Nat} (l : Nat) (ho : ops[i]? = some o)
  (h:∀ K':Act→World→Prop,Shut (∀ a w,S l w→(S l w→dh P md ops Q S T fuel l (listed.setIfInBounds i true) a w)→K' a w)→if Region.wanted o (yielded ops a.tmps)=true then Oper.wp P o a w K' Q else K' (a.put o.dst undef) w)
  (hs:bQ P md ops Q S T fuel lev listed a w rs) (hl:max lev (T i)=l:=by kernel_rfl):bQ P md ops Q S T fuel lev listed a w (i :: rs):=bQ.cons l hl ho h hs
end
theorem Ba {o:Obj}:Below w.heap.size w (w.alloc o):=(Below.refl _ _).alloc (Nat.le_refl _) _
def tf (k n:Nat):Array Bool:=((List.range k).map (Nat.testBit n)).toArray
def aL (a:Int):Int:=if a < -1099511627776 then -1099511627776 else if 1099511627776<a then 1099511627776 else a
theorem eH (a:Int) : -1099511627776≤aL a∧aL a≤1099511627776:=by unfold aL;split <;> (try split) <;> omega
theorem uo {a:Int} (h1:a ≤ -1099511627776):aL a = -1099511627776:=by unfold aL;split <;> (try split) <;> omega
theorem uq {a:Int} (h1:1099511627776≤a):aL a=1099511627776:=by unfold aL;split <;> (try split) <;> omega
theorem bB (a:Int) (w:World):Calls Tryz.prog 38 #[.int .i64 a] w (dw (.int .i64 (aL a)) w):=by
 go_enter Tryz.func38,Tryz.ntmps38
 go_wp2
 all_goals
  go_returns
  exact aj (by unfold aL;(repeat' split) <;> omega) (Below.refl _ _)
def dQ (a b:Int):Int:=aL (aL a+aL b)
def fO (a b:Int):Int:=aL (aL a-aL b)
theorem mQ (a b:Int) (w:World):Calls Tryz.prog 153 #[.int .i64 a,.int .i64 b] w (dw (.int .i64 (dQ a b)) w):=by
 obtain ⟨p,hp⟩:∃ p,p=aL a:=⟨_,rfl⟩;obtain ⟨q,hq⟩:∃ q,q=aL b:=⟨_,rfl⟩;have h1:=eH a;have h2:=eH b;rw [← hp] at h1;rw [← hq] at h2;have HP:=hid hp;have HQ:=hid hq;have hwr:IntKind.i64.wrap (p+q)=p+q:=IntWalk.i64_in _ (by omega);clear hp hq
 go_enter Tryz.func153,Tryz.ntmps153
 go_wp2_with fail
 refine (bB a _).mono ?_;rintro e w1 ⟨rfl,hb1⟩;rw [← HP.out]
 go_wp2_with fail
 refine (bB b _).mono ?_;rintro e w2 ⟨rfl,hb2⟩;rw [← HQ.out];have hB2:=ah hb2 hb1
 go_wp2_with fail
 refine (bB (p+q) _).mono ?_;rintro e w3 ⟨rfl,hb3⟩;have hB3:=ah hb3 hB2;go_wp2
 go_returns
 exact aj (by rw [HP.out,HQ.out];rfl) hB3
theorem mI (a b:Int) (w:World):Calls Tryz.prog 40 #[.int .i64 a,.int .i64 b] w (dw (.int .i64 (fO a b)) w):=by
 obtain ⟨p,hp⟩:∃ p,p=aL a:=⟨_,rfl⟩;obtain ⟨q,hq⟩:∃ q,q=aL b:=⟨_,rfl⟩;have h1:=eH a;have h2:=eH b;rw [← hp] at h1;rw [← hq] at h2;have HP:=hid hp;have HQ:=hid hq;have hwr:IntKind.i64.wrap (p-q)=p-q:=IntWalk.i64_in _ (by omega);clear hp hq
 go_enter Tryz.func40,Tryz.ntmps40
 go_wp2_with fail
 refine (bB a _).mono ?_;rintro e w1 ⟨rfl,hb1⟩;rw [← HP.out]
 go_wp2_with fail
 refine (bB b _).mono ?_;rintro e w2 ⟨rfl,hb2⟩;rw [← HQ.out];have hB2:=ah hb2 hb1
 go_wp2_with fail
 refine (bB (p-q) _).mono ?_;rintro e w3 ⟨rfl,hb3⟩;have hB3:=ah hb3 hB2;go_wp2
 go_returns
 exact aj (by rw [HP.out,HQ.out];rfl) hB3
def aS (a:Int):Int:=if a<0 then -a else a
theorem om (a:Int) (h1 : -1099511627776≤a) (h2:a≤1099511627776) (w:World):Calls Tryz.prog 186 #[.int .i64 a] w (dw (.int .u64 (aS a)) w):=by
 by_cases h:a<0
 ·have hw1 : IntKind.i64.wrap (-a) = -a := IntWalk.i64_in _ (by omega);have hw2:IntKind.u64.wrap (-a) = -a:=bE (by omega) (by omega)
  go_enter Tryz.func186,Tryz.ntmps186
  go_wp2
  go_returns
  exact aj (by unfold aS;rw [if_pos h]) (Below.refl _ _)
 ·have hw2 : IntKind.u64.wrap a = a := bE (by omega) (by omega)
  go_enter Tryz.func186,Tryz.ntmps186
  go_wp2
  go_returns
  exact aj (by unfold aS;rw [if_neg (by omega)]) (Below.refl _ _)

def Gj (a b c:Int):Int:=if aL c=0 then 0 else aL (wI (aL a*aL b) (aL c))
theorem EY {A B C:Int} (hA : -1099511627776≤A∧A≤1099511627776) (hB : -1099511627776≤B∧B≤1099511627776) (hC : -1099511627776≤C∧C≤1099511627776) (h0:C≠0) :
  wW (A*B) C ((decide (A<0) != decide (B<0)) != decide (C<0)) (aS A*aS B) (aS C):=by
 have a0:0≤aS A∧aS A≤1099511627776:=by unfold aS;split <;> omega
 have b0:0≤aS B∧aS B≤1099511627776:=by unfold aS;split <;> omega
 have m:=fU (x:=aS A) (y:=aS B) (M:=1099511627776) (N:=1099511627776) (by omega) (by omega) (by omega) (by omega);have m0:=Int.mul_nonneg a0.1 b0.1;refine ⟨by unfold aS;split <;> omega,by unfold aS;split <;> omega,m0,by omega,h0,?_⟩;unfold aS
 by_cases c1:A<0 <;> by_cases c2:B<0 <;> by_cases c3:C<0 <;> simp [c1,c2,c3,Int.neg_mul,Int.mul_neg]
theorem vP (a b c:Int) (w:World):Calls Tryz.prog 125 #[.int .i64 a,.int .i64 b,.int .i64 c] w (dw (.int .i64 (Gj a b c)) w):=by
 obtain ⟨A,hA⟩:∃ A,A=aL a:=⟨_,rfl⟩;obtain ⟨B,hB⟩:∃ B,B=aL b:=⟨_,rfl⟩;obtain ⟨C,hC⟩:∃ C,C=aL c:=⟨_,rfl⟩;have a1:=eH a;have b1:=eH b;have c1:=eH c;rw [← hA] at a1;rw [← hB] at b1;rw [← hC] at c1;have HA:=hid hA;have HB:=hid hB;have HC:=hid hC;have HMD:Hid (Gj a b c=if C=0 then 0 else aL (wI (A*B) C)):=by show Gj a b c=_;unfold Gj;rw [hA,hB,hC]
 clear hA hB hC
 go_enter Tryz.func125,Tryz.ntmps125
 go_wp2_with fail
 refine (bB a _).mono ?_;rintro e w1 ⟨rfl,hb1⟩;rw [← HA.out]
 go_wp2_with fail
 refine (bB b _).mono ?_;rintro e w2 ⟨rfl,hb2⟩;rw [← HB.out];have hB2:=ah hb2 hb1
 go_wp2_with fail
 refine (bB c _).mono ?_;rintro e w3 ⟨rfl,hb3⟩;rw [← HC.out];have hB3:=ah hb3 hB2;clear hb1 hb2 hb3 hB2 HA HB HC
 by_cases h0:C=0
 ·have HR : Hid (Gj a b c = 0) := by rw [h0, if_pos rfl] at HMD; exact HMD
  subst h0;go_wp2
  go_returns
  exact aj HR.out.symm hB3
 ·have HR : Hid (Gj a b c = aL (wI (A * B) C)) := by rw [if_neg h0] at HMD; exact HMD
  have HSG:=hid (EY a1 b1 c1 h0);have h0b:(C == 0)=false:=by simp [h0]
  clear HMD h0
  go_upto_if 25 with fail
  generalize hs1:decide (A<0)=s1 at HSG ⊢;generalize hs2:decide (B<0)=s2 at HSG ⊢
  go_cut [7] from 26 to 27 (fun t wx=>t = .bool (s1 != s2)∧wx=w3)
  case first =>
   clear hs1 hs2
   cases s2 with
   | true =>
    go_wp2
    go_meet
    exact ⟨by simp,rfl⟩
   | false =>
    go_wp2
    go_meet
    exact ⟨by simp,rfl⟩
  case rest =>
   obtain ⟨rfl,hw⟩:=hcut;rw [hw];clear hw wc hs1 hs2
   go_upto_if 29 with fail
   generalize hs3:decide (C<0)=s3 at HSG ⊢;clear hs3
   go_cut [7] from 30 to 31 (fun t wx=>t = .bool ((s1 != s2) != s3)∧wx=w3)
   case first =>
    cases s3 with
    | true =>
     go_wp2
     go_meet
     exact ⟨by simp,rfl⟩
    | false =>
     go_wp2
     go_meet
     exact ⟨by simp,rfl⟩
   case rest =>
    obtain ⟨rfl,hw⟩:=hcut;rw [hw];clear hw wc;generalize ((s1 != s2) != s3)=ng at HSG ⊢
    go_wp2_with fail
    refine (om C c1.1 c1.2 _).mono ?_;rintro e w4 ⟨rfl,hb4⟩;have hB4:=ah hb4 hB3
    go_wp2_with fail
    refine (om A a1.1 a1.2 _).mono ?_;rintro e w5 ⟨rfl,hb5⟩;have hB5:=ah hb5 hB4
    go_wp2_with fail
    refine (om B b1.1 b1.2 _).mono ?_;rintro e w6 ⟨rfl,hb6⟩;have hB6:=ah hb6 hB5;clear hb4 hb5 hb6 hB3 hB4 hB5;have x0:0≤aS A∧aS A≤1099511627776:=by unfold aS;split <;> omega
    have y0:0≤aS B∧aS B≤1099511627776:=by unfold aS;split <;> omega
    have d0:0<aS C∧aS C≤1099511627776:=⟨HSG.out.d0,by unfold aS;split <;> omega⟩;have mb:=fU (x:=aS A) (y:=aS B) (M:=1099511627776) (N:=1099511627776) (by omega) (by omega) (by omega) (by omega);have m0:=Int.mul_nonneg x0.1 y0.1;generalize aS C=d at *
    generalize aS A=x at *
    generalize aS B=y at *
    go_wp2_with fail
    refine (lS x y x0.1 (by omega) y0.1 (by omega) _).mono ?_;rintro e w7 ⟨rfl,rfl⟩;generalize x*y=M at *
    generalize A*B=W at *
    have hM2:M / 18446744073709551616*18446744073709551616+M % 18446744073709551616=M:=by omega
    have hi0:0≤M / 18446744073709551616:=by omega
    have lo0:0≤M % 18446744073709551616:=by omega
    have lo1:M % 18446744073709551616<18446744073709551616:=by omega
    have e:=Int.emod_add_mul_ediv M d;have r0:=Int.emod_nonneg M (show d≠0 by omega);have r1:=Int.emod_lt_of_pos M d0.1;have q0:=Int.ediv_nonneg m0 (show 0≤d by omega);have E:=hid (show M=M / d*d+M % d by rw [Int.mul_comm];omega)
    by_cases hlarge:d≤M / 18446744073709551616
    ·have hq : 18446744073709551616 ≤ M / d := Int.le_ediv_of_mul_le d0.1 (by have := Int.mul_comm 18446744073709551616 d; omega);generalize M / 18446744073709551616=hi at *
     generalize M % 18446744073709551616=lo at *
     cases ng with
     | false =>
      have HF:Hid (aL (wI W C)=1099511627776):=uq (by rw [HSG.out.rnd_f E.out r0 r1];split <;> omega);clear e hq;go_wp2
      go_returns
      exact aj (by rw [HR.out,HF.out]) hB6
     | true =>
      have HF:Hid (aL (wI W C) = -1099511627776):=uo (by rw [HSG.out.rnd_t E.out r0 r1];split <;> omega);clear e hq;go_wp2
      go_returns
      exact aj (by rw [HR.out,HF.out]) hB6
    ·have q1 : M / d < 18446744073709551616 := Int.ediv_lt_of_lt_mul d0.1 (by have := Int.mul_comm 18446744073709551616 d; omega);have HM2:=hid hM2;obtain ⟨hi,hhi⟩:∃ hi,hi=M / 18446744073709551616:=⟨_,rfl⟩;obtain ⟨lo,hlo⟩:∃ lo,lo=M % 18446744073709551616:=⟨_,rfl⟩;rw [← hhi] at hi0 hlarge HM2 ⊢;rw [← hlo] at lo0 lo1 HM2 ⊢;clear hhi hlo hM2 e;generalize hqq:M / d=q at *
     generalize hrr:M % d=r at *
     have HQ:=hid hqq;have HRR:=hid hrr;have hdr:IntKind.u64.wrap (d-r)=d-r:=bE (by omega) (by omega);clear hqq hrr
     go_wp2_with fail
     refine (BQ hi lo d hi0 (by omega) (by omega) lo0 lo1 _).mono ?_;rintro e w8 ⟨rfl,hb8⟩;rw [HM2.out,HQ.out,HRR.out];have hB8:=ah hb8 hB6;clear hb8 hB6
     by_cases hq:1099511627776<q
     ·cases ng with
      | false =>
       have HF:Hid (aL (wI W C)=1099511627776):=uq (by rw [HSG.out.rnd_f E.out r0 r1];split <;> omega);have hd:IntKind.u64.wrap d=d:=bE (x:=d) (by omega) (by omega);have HK:Hid (aL 1099511627777=1099511627776):=by show _=_;decide
       go_wp2_with fail
       refine (bB 1099511627777 _).mono ?_;rintro e w9 ⟨rfl,hb9⟩;rw [HK.out];have hB9:=ah hb9 hB8;go_wp2
       go_returns
       exact aj (by rw [HR.out,HF.out]) hB9
      | true =>
       have HF:Hid (aL (wI W C) = -1099511627776):=uo (by rw [HSG.out.rnd_t E.out r0 r1];split <;> omega);have hd:IntKind.u64.wrap d=d:=bE (x:=d) (by omega) (by omega);have HK:Hid (aL (-1099511627777) = -1099511627776):=by show _=_;decide
       go_wp2_with fail
       refine (bB (-1099511627777) _).mono ?_;rintro e w9 ⟨rfl,hb9⟩;rw [HK.out];have hB9:=ah hb9 hB8;go_wp2
       go_returns
       exact aj (by rw [HR.out,HF.out]) hB9
     ·have kq : IntKind.i64.wrap q = q := IntWalk.i64_in _ (by omega);have kq1:IntKind.i64.wrap (q+1)=q+1:=IntWalk.i64_in _ (by omega);have kn:IntKind.i64.wrap (-q) = -q:=IntWalk.i64_in _ (by omega);have kn1:IntKind.i64.wrap (-(q+1)) = -(q+1):=IntWalk.i64_in _ (by omega)
      cases ng with
      | false =>
       by_cases hr:d-r≤r
       ·have HF : Hid (wI W C = q + 1) := by show _ = _; rw [HSG.out.rnd_f E.out r0 r1, if_pos (by omega)]
        go_wp2_with fail
        refine (bB (q+1) _).mono ?_;rintro e w9 ⟨rfl,hb9⟩;have hB9:=ah hb9 hB8;go_wp2
        go_returns
        exact aj (by rw [HR.out,HF.out]) hB9
       ·have HF : Hid (wI W C = q) := by show _ = _; rw [HSG.out.rnd_f E.out r0 r1, if_neg (by omega)]; omega
        go_wp2_with fail
        refine (bB q _).mono ?_;rintro e w9 ⟨rfl,hb9⟩;have hB9:=ah hb9 hB8;go_wp2
        go_returns
        exact aj (by rw [HR.out,HF.out]) hB9
      | true =>
       by_cases hr:d-r<r
       ·have HF : Hid (wI W C = -(q + 1)) := by show _ = _; rw [HSG.out.rnd_t E.out r0 r1, if_pos (by omega)]
        go_wp2_with fail
        refine (bB (-(q+1)) _).mono ?_;rintro e w9 ⟨rfl,hb9⟩;have hB9:=ah hb9 hB8;go_wp2
        go_returns
        exact aj (by rw [HR.out,HF.out]) hB9
       ·have HF : Hid (wI W C = -q) := by show _ = _; rw [HSG.out.rnd_t E.out r0 r1, if_neg (by omega)]; omega
        go_wp2_with fail
        refine (bB (-q) _).mono ?_;rintro e w9 ⟨rfl,hb9⟩;have hB9:=ah hb9 hB8;go_wp2
        go_returns
        exact aj (by rw [HR.out,HF.out]) hB9
def bn (a b:Int):Int:=Gj a b 65536
def kT (a b:Int):Int:=if b=0 then 0 else Gj a 65536 b
theorem dK (a b:Int) (w:World):Calls Tryz.prog 52 #[.int .i64 a,.int .i64 b] w (dw (.int .i64 (bn a b)) w):=by
 go_enter Tryz.func52,Tryz.ntmps52
 go_wp2_with fail
 refine (vP a b 65536 _).mono ?_;rintro e w1 ⟨rfl,hb1⟩;go_wp2
 go_returns
 exact aj rfl hb1
end
end Go.Proofs.YtokgmcomgflloaaGreat
