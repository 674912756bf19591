/- Parts of a proof: contracts and laws. -/
import Derived.Test.YtokgmcomgflloaaGreatQA02
import Derived.BigQuiet
import Derived.Test.YtokgmcomgflloaaGreatQA05
import Derived.Deep.DeepCutAuto
import Derived.WalkSpells
import Derived.Laws.Bits64b
import Derived.Laws.MathBits
import Derived.Deep.WholeRow
import Derived.Maps.AppendAt
import Derived.Test.YtokgmcomgflloaaGreatQA04
set_option maxRecDepth 100000
set_option maxHeartbeats 16000000
namespace Go.Proofs.YtokgmcomgflloaaGreat
section
set_option linter.unusedVariables false
set_option linter.unusedSimpArgs false
open Go.RowKit
variable {w0 w w':World}
theorem Fa {l r:List V} (hl:l.length=r.length) (h:∀ j,j<l.length→px l j=px r j∧py l j=py r j):l=r:=by
 refine List.ext_getElem hl fun j h1 h2=>?_
 rw [yc h1,yc h2,(h j h1).1,(h j h1).2]
theorem Ew (A B:Option Addr) (n c m c':Nat) (l r:List V) (w:World) (hS:Sl w A n c l) (hR:Sl w B m c' r) :
  Calls Tryz.prog 19 #[.slice A n c,.slice B m c'] w (dG (.bool (decide (l=r))) w):=by
 have hn:=hS.len;have hm:=hR.len;subst hn hm;have h1:=hS.cap;have h2:=hS.big;have h3:=hR.cap;have h4:=hR.big
 by_cases hl:l.length=r.length
 ·have HS := hid hS;have HR:=hid hR;clear hS hR
  go_enter Tryz.func19,Tryz.ntmps19
  go_wp2
  go_loopw [13] (fun i wr=>∃ k:Nat,k≤l.length∧i = .int .i64 k∧(∀ j,j<k→px l j=px r j∧py l j=py r j)∧Below w.heap.size w wr) (fun i _=>l.length-(intOf i).toNat)
  case atStart=>exact ⟨0,Nat.zero_le _,rfl,fun j hj=>absurd hj (by omega),Below.refl _ _⟩
  case round =>
   obtain ⟨k,hk,rfl,heq,hB⟩:=hrel;have HQ:=hid heq;clear heq
   by_cases hlt:k<l.length
   ·obtain ⟨b, off, rfl, hC⟩ := (HS.out.below hB).at_ (by intro h; subst h; simp at hlt);obtain ⟨b2,off2,rfl,hD⟩:=(HR.out.below hB).at_ (by intro h;rw [h] at hl;simp at hl;rw [hl] at hlt;simp at hlt);have hx:=hC.x k hlt;have hy:=hC.y k hlt;have hx2:=hD.x k (by omega);have hy2:=hD.y k (by omega);have hlt2:(k:Int)<(r.length:Int):=by omega
    have hlt3:(k:Int)<(l.length:Int):=by omega
    have hlt4:k<r.length:=by omega
    clear hC hD
    by_cases hv:px l k=px r k∧py l k=py r k
    ·obtain ⟨v1, v2⟩ := hv
     go_wp2_with fail
     go_quiet (fail)
     have hB2:=below_drewN' hB nq;go_wp2
     exact ⟨⟨k+1,hlt,by go_num,fun j hj=>by
      by_cases e:j=k
      ·subst e;exact ⟨v1,v2⟩
      ·exact HQ.out j (by omega),hB2⟩,by simp [intOf];omega⟩
    ·have hne : Hid (l ≠ r) := fun h => hv (by rw [h]; exact ⟨rfl, rfl⟩)
     by_cases v1:px l k=px r k
     ·have v2 : ¬ py l k = py r k := fun h => hv ⟨v1, h⟩
      have v3:(py l k == py r k)=false:=by simp [v2]
      clear hv
      go_wp2_with fail
      go_quiet (fail)
      have hB2:=below_drewN' hB nq;go_wp2
      go_returns
      exact bR (by simp [hne.out]) hB2
     ·have v3 : (px l k == px r k) = false := by simp [v1]
      clear hv
      go_wp2_with fail
      go_quiet (fail)
      have hB2:=below_drewN' hB nq;go_wp2
      go_returns
      exact bR (by simp [hne.out]) hB2
   ·have he : Hid (l = r) := Fa hl fun j hj => HQ.out j (by omega)
    go_wp2
    go_returns
    exact bR (by simp [he.out]) hB
 ·have hne : Hid (l ≠ r) := fun h => hl (by rw [h])
  have hlb:((l.length:Int) == (r.length:Int))=false:=by simp;omega
  clear hS hR
  go_enter Tryz.func19,Tryz.ntmps19
  go_wp2
  go_returns
  exact bR (by simp [hne.out]) (Below.refl _ _)
structure VZ (w : World) (g : Nat) : Prop where
 c:∃ x y:Value,w.cell? ⟨g,0,none⟩=some x∧w.cell? ⟨g,1,none⟩=some y
 free:∀ j,w.frozen? ⟨g,j,none⟩=false
theorem aG {g:Nat} (hb:Below w.heap.size w w') (h:VZ w g):VZ w' g:=by
 obtain ⟨⟨x,y,h0,h1⟩,hf⟩:=h;exact ⟨⟨x,y,keepCell hb h0,keepCell hb h1⟩,fun j=>((dF hb).2 _ _ (lt_of_cell h0)).trans (hf j)⟩
theorem VZ.lt {g:Nat} (h:VZ w g):g<w.heap.size:=by obtain ⟨⟨_,_,h0,_⟩,_⟩:=h;exact lt_of_cell h0
theorem VZ.alloc {g:Nat} (h:VZ w g) (o:Obj):VZ (w.alloc o) g:=aG Ba h
theorem VZ.drew {g:Nat} (h:VZ w g):VZ w.drew g:=⟨h.c,h.free⟩
theorem VZ.here (w:World) (a b:Int) (t:TypeId):VZ (w.alloc (.cells #[.int .i64 a,.int .i64 b] t)) w.heap.size :=
 ⟨⟨.int .i64 a,.int .i64 b,by go_simp,by go_simp⟩,fun j=>by go_simp⟩
theorem VZ.set {g:Nat} (h:VZ w g) (a:Addr) (u:Value):VZ (w.setCell a u) g:=by
 obtain ⟨⟨x,y,h0,h1⟩,hf⟩:=h;refine ⟨?_,fun j=>by rw [World.frozen?_setCell];exact hf j⟩
 have e:∀ j z,w.cell? ⟨g,j,none⟩=some z→∃ z',(w.setCell a u).cell? ⟨g,j,none⟩=some z':=fun j z hz=>by
  by_cases ha:a=⟨g,j,none⟩
  ·subst ha;exact ⟨u,by go_simp⟩
  ·exact ⟨z,by go_simp⟩
 obtain ⟨z0,e0⟩:=e 0 x h0;obtain ⟨z1,e1⟩:=e 1 y h1;exact ⟨z0,z1,e0,e1⟩
theorem Sl.empty' (w:World):Sl w none 0 0 []:=⟨rfl,by omega,by omega,fun h=>absurd rfl h⟩
theorem rA {w : World} {ops : Array Oper} {rest : List Oper} {o : Oper} {a : Act} {Q : Exit → Act → World → Prop} (hgd : o.guard = none) (s x : Operand)
  (ho:o.op = .call { callee:=.builtin .append,args:=#[s,x],argTypes:=#[25,25] })
  (B:Nat) (v:Value) (l:List V) (hs:a.eval s=v) (hown:Own w B v l) (ad:Addr) (c:Nat) (hx:a.eval x = .slice (some ad) 0 c)
  (hl:l.length≤8796093022208) (hB:B≤w.heap.size)
  (h:∀ v' w',Own w' B v' l→w.grownBy w' v.ownBlock→wpList Tryz.prog ops Q rest (a.put o.dst v') w'):wpList Tryz.prog ops Q (o :: rest) a w:=by
 obtain ⟨i0,hi,hz0,hz1,hz2⟩:=info_parts wU;refine wpList_append_own w hgd s x 25 ho B 24 i0 (.agg #[.int .i64 0,.int .i64 0]) 2 16 Tryz.underlying25 hi hz0 hz1 hz2 rfl (by decide) v l.length (flat l) hs hown ad 0 c [] hx (by simp) (fun j u hj=>by simp at hj) (by simp) (by unfold maxLen;omega) (by omega) hB ?_;intro v' w' h1 h2 _;refine h v' w' ?_ h2;unfold Own;simpa using h1
theorem qw (A:Option Addr) (n c:Nat) (l:List V) (w:World) (hS:Sl w A n c l) (hl:l.length≤8796093022208):Calls Tryz.prog 111 #[.slice A n c] w (Gv l w):=by
 have hcmp:∀ w':World,(binOp .eql 25 (.slice A n c) (.slice none 0 0)).run Tryz.prog w' = .ok (.bool A.isNone) w':=fun w'=>Lib.run_eql_slice_nil w' 25 _ A n c 0 0 Tryz.underlying25
 cases A with
 | none =>
  have hl0:l=[]:=by
   rcases l with _ | ⟨a,r⟩
   ·rfl
   ·obtain ⟨b,off,h,_⟩:=hS.at_ (by simp);cases h
  subst hl0;have hn:=hS.len;simp at hn;subst hn;clear hS
  go_enter Tryz.func111,Tryz.ntmps111
  go_wp2
  go_returns
  exact ⟨_,_,_,rfl,Sl.empty' _,fun b off h=>absurd h (by simp),Below.refl _ _⟩
 | some ad =>
  have hn:=hS.len;have HS:=hid hS;clear hS;have HO:Hid (Own (w.alloc (.cells #[] 24)) w.heap.size (.slice (some ⟨w.heap.size,0,none⟩) 0 0) []):=Own.lit w w.heap.size [] (Nat.le_refl _) (by simp)
  by_cases hl0:l=[]
  ·subst hl0;simp at hn;subst hn
   go_enter Tryz.func111,Tryz.ntmps111
   go_wp2_with (at_builtin;refine rA rfl _ _ rfl w.heap.size _ [] rfl HO.out ad _ rfl (by simp) (by simp) ?_;intro v' w1 ho1 hg1;have HO1:=hid ho1;have hb1:=Own.grown HO.out hg1 (by simp);clear ho1 hg1)
   obtain ⟨A',n',c',rfl,hs,hfr⟩:=HO1.out.sl
   go_returns
   exact ⟨_,_,_,rfl,hs,hfr,(Below.trans (by go_grown) hb1)⟩
  ·obtain ⟨b, off, hab, hC⟩ := HS.out.at_ hl0
   cases hab
   subst hn;have HC:=hid (hC.below ((Below.refl w.heap.size w).alloc (Nat.le_refl _) (.cells #[] 24)));clear hC
   go_enter Tryz.func111,Tryz.ntmps111
   go_wp2_with (at_builtin;refine rH rfl _ _ rfl w.heap.size _ [] rfl HO.out b off _ _ l rfl rfl HC.out (by simp;omega) (by simp) ?_;intro v' w1 ho1 hg1;have HO1:=hid ho1;have hb1:=Own.grown HO.out hg1 (by simp);clear ho1 hg1)
   obtain ⟨A',n',c',rfl,hs,hfr⟩:=HO1.out.sl
   go_returns
   exact ⟨_,_,_,rfl,by simpa using hs,hfr,(Below.trans (by go_grown) hb1)⟩

def nK (b:Bd) (l:List V) (w:World) (e:Ending) (w':World):Prop:=∃ A n c,e = .returned (dK b A n c)∧Sl w' A n c l∧(∀ bx off,A=some ⟨bx,off,none⟩→w.heap.size≤bx)∧Below w.heap.size w w'

structure fD (w : World) (g : Nat) : Prop where
 c:∀ j,j<13→∃ v,w.cell? ⟨g,j,none⟩=some v
 free:∀ j,w.frozen? ⟨g,j,none⟩=false
theorem fD.lt {g:Nat} (h:fD w g):g<w.heap.size:=by
 obtain ⟨v,hv⟩:=h.c 0 (by omega);exact lt_of_cell hv
theorem cO {g:Nat} (hb:Below w.heap.size w w') (h:fD w g):fD w' g :=
 ⟨fun j hj=>by obtain ⟨v,hv⟩:=h.c j hj;exact ⟨v,keepCell hb hv⟩,fun j=>((dF hb).2 _ _ h.lt).trans (h.free j)⟩
theorem fD.alloc {g:Nat} (h:fD w g) (o:Obj):fD (w.alloc o) g:=cO Ba h
theorem fD.drew {g:Nat} (h:fD w g):fD w.drew g:=⟨h.c,h.free⟩
theorem fD.of {g:Nat} {b:Bd} {A:Option Addr} {n c:Nat} (h:aL w g b A n c):fD w g :=
 ⟨fun j hj=>match j,hj with
  | 0,_=>⟨_,h.c0⟩ | 1,_=>⟨_,h.c1⟩ | 2,_=>⟨_,h.c2⟩ | 3,_=>⟨_,h.c3⟩ | 4,_=>⟨_,h.c4⟩ | 5,_=>⟨_,h.c5⟩ | 6,_=>⟨_,h.c6⟩ | 7,_=>⟨_,h.c7⟩ | 8,_=>⟨_,h.c8⟩ | 9,_=>⟨_,h.c9⟩ | 10,_=>⟨_,h.c10⟩ | 11,_=>⟨_,h.c11⟩ | 12,_=>⟨_,h.c12⟩,h.free⟩
theorem fD.all {g:Nat} (h:fD w g):∃ z0 z1 z2 z3 z4 z5 z6 z7 z8 z9 z10 z11 z12:Value,w.cell? ⟨g,0,none⟩=some z0∧w.cell? ⟨g,1,none⟩=some z1∧w.cell? ⟨g,2,none⟩=some z2∧w.cell? ⟨g,3,none⟩=some z3∧w.cell? ⟨g,4,none⟩=some z4∧w.cell? ⟨g,5,none⟩=some z5∧w.cell? ⟨g,6,none⟩=some z6∧w.cell? ⟨g,7,none⟩=some z7∧w.cell? ⟨g,8,none⟩=some z8∧w.cell? ⟨g,9,none⟩=some z9∧w.cell? ⟨g,10,none⟩=some z10∧w.cell? ⟨g,11,none⟩=some z11∧w.cell? ⟨g,12,none⟩=some z12:=by
 obtain ⟨z0,h0⟩:=h.c 0 (by omega);obtain ⟨z1,h1⟩:=h.c 1 (by omega);obtain ⟨z2,h2⟩:=h.c 2 (by omega);obtain ⟨z3,h3⟩:=h.c 3 (by omega);obtain ⟨z4,h4⟩:=h.c 4 (by omega);obtain ⟨z5,h5⟩:=h.c 5 (by omega);obtain ⟨z6,h6⟩:=h.c 6 (by omega);obtain ⟨z7,h7⟩:=h.c 7 (by omega);obtain ⟨z8,h8⟩:=h.c 8 (by omega);obtain ⟨z9,h9⟩:=h.c 9 (by omega);obtain ⟨z10,h10⟩:=h.c 10 (by omega);obtain ⟨z11,h11⟩:=h.c 11 (by omega);obtain ⟨z12,h12⟩:=h.c 12 (by omega);exact ⟨z0,z1,z2,z3,z4,z5,z6,z7,z8,z9,z10,z11,z12,h0,h1,h2,h3,h4,h5,h6,h7,h8,h9,h10,h11,h12⟩
theorem aL.set_px {g:Nat} {b:Bd} {A:Option Addr} {n c:Nat} (h:aL w g b A n c) (v:Int):aL (w.setCell ⟨g,0,none⟩ (.int .i64 v)) g { b with px:=v } A n c:=by
 obtain ⟨k0,k1,k2,k3,k4,k5,k6,k7,k8,k9,k10,k11,k12,kf⟩:=h;exact ⟨by go_simp,by go_simp,by go_simp,by go_simp,by go_simp,by go_simp,by go_simp,by go_simp,by go_simp,by go_simp,by go_simp,by go_simp,by go_simp,fun j=>by rw [World.frozen?_setCell];exact kf j⟩
theorem aL.set_py {g:Nat} {b:Bd} {A:Option Addr} {n c:Nat} (h:aL w g b A n c) (v:Int):aL (w.setCell ⟨g,1,none⟩ (.int .i64 v)) g { b with py:=v } A n c:=by
 obtain ⟨k0,k1,k2,k3,k4,k5,k6,k7,k8,k9,k10,k11,k12,kf⟩:=h;exact ⟨by go_simp,by go_simp,by go_simp,by go_simp,by go_simp,by go_simp,by go_simp,by go_simp,by go_simp,by go_simp,by go_simp,by go_simp,by go_simp,fun j=>by rw [World.frozen?_setCell];exact kf j⟩
theorem aL.set_vx {g:Nat} {b:Bd} {A:Option Addr} {n c:Nat} (h:aL w g b A n c) (v:Int):aL (w.setCell ⟨g,2,none⟩ (.int .i64 v)) g { b with vx:=v } A n c:=by
 obtain ⟨k0,k1,k2,k3,k4,k5,k6,k7,k8,k9,k10,k11,k12,kf⟩:=h;exact ⟨by go_simp,by go_simp,by go_simp,by go_simp,by go_simp,by go_simp,by go_simp,by go_simp,by go_simp,by go_simp,by go_simp,by go_simp,by go_simp,fun j=>by rw [World.frozen?_setCell];exact kf j⟩
theorem aL.set_vy {g:Nat} {b:Bd} {A:Option Addr} {n c:Nat} (h:aL w g b A n c) (v:Int):aL (w.setCell ⟨g,3,none⟩ (.int .i64 v)) g { b with vy:=v } A n c:=by
 obtain ⟨k0,k1,k2,k3,k4,k5,k6,k7,k8,k9,k10,k11,k12,kf⟩:=h;exact ⟨by go_simp,by go_simp,by go_simp,by go_simp,by go_simp,by go_simp,by go_simp,by go_simp,by go_simp,by go_simp,by go_simp,by go_simp,by go_simp,fun j=>by rw [World.frozen?_setCell];exact kf j⟩
theorem aL.set_ang {g:Nat} {b:Bd} {A:Option Addr} {n c:Nat} (h:aL w g b A n c) (v:Int):aL (w.setCell ⟨g,4,none⟩ (.int .i64 v)) g { b with ang:=v } A n c:=by
 obtain ⟨k0,k1,k2,k3,k4,k5,k6,k7,k8,k9,k10,k11,k12,kf⟩:=h;exact ⟨by go_simp,by go_simp,by go_simp,by go_simp,by go_simp,by go_simp,by go_simp,by go_simp,by go_simp,by go_simp,by go_simp,by go_simp,by go_simp,fun j=>by rw [World.frozen?_setCell];exact kf j⟩
theorem aL.set_spin {g:Nat} {b:Bd} {A:Option Addr} {n c:Nat} (h:aL w g b A n c) (v:Int):aL (w.setCell ⟨g,5,none⟩ (.int .i64 v)) g { b with spin:=v } A n c:=by
 obtain ⟨k0,k1,k2,k3,k4,k5,k6,k7,k8,k9,k10,k11,k12,kf⟩:=h;exact ⟨by go_simp,by go_simp,by go_simp,by go_simp,by go_simp,by go_simp,by go_simp,by go_simp,by go_simp,by go_simp,by go_simp,by go_simp,by go_simp,fun j=>by rw [World.frozen?_setCell];exact kf j⟩
theorem aL.set_slice {g:Nat} {b:Bd} {A A':Option Addr} {n c n' c':Nat} (h:aL w g b A n c):aL (w.setCell ⟨g,10,none⟩ (.slice A' n' c')) g b A' n' c':=by
 obtain ⟨k0,k1,k2,k3,k4,k5,k6,k7,k8,k9,k10,k11,k12,kf⟩:=h;exact ⟨by go_simp,by go_simp,by go_simp,by go_simp,by go_simp,by go_simp,by go_simp,by go_simp,by go_simp,by go_simp,by go_simp,by go_simp,by go_simp,fun j=>by rw [World.frozen?_setCell];exact kf j⟩
theorem Sl.setAt {A:Option Addr} {n c g o:Nat} {l:List V} {v:Value} (h:Sl w A n c l) (hne:∀ b off,A=some ⟨b,off,none⟩→b≠g):Sl (w.setCell ⟨g,o,none⟩ v) A n c l:=h.grown (aN _ _ _ _) hne
theorem fD.set {g:Nat} (h:fD w g) (a:Addr) (u:Value):fD (w.setCell a u) g:=⟨fun j hj=>by
  obtain ⟨v,hv⟩:=h.c j hj
  by_cases e:a=⟨g,j,none⟩
  ·subst e;exact ⟨u,by go_simp⟩
  ·exact ⟨v,by go_simp⟩,fun j=>by rw [World.frozen?_setCell];exact h.free j⟩

def setBd (w:World) (g:Nat) (b:Bd) (A:Option Addr) (n c:Nat):World:=(((((((((((((w.setCell ⟨g,0,none⟩ (.int .i64 b.px)).setCell ⟨g,1,none⟩ (.int .i64 b.py)).setCell ⟨g,2,none⟩ (.int .i64 b.vx)).setCell ⟨g,3,none⟩ (.int .i64 b.vy)).setCell ⟨g,4,none⟩ (.int .i64 b.ang)).setCell ⟨g,5,none⟩ (.int .i64 b.spin)).setCell ⟨g,6,none⟩ (.int .i64 b.mass)).setCell ⟨g,7,none⟩ (.int .i64 b.iner)).setCell ⟨g,8,none⟩ (.int .i64 b.bounce)).setCell ⟨g,9,none⟩ (.int .i64 b.rub)).setCell ⟨g,10,none⟩ (.slice A n c)).setCell ⟨g,11,none⟩ (.bool b.asleep)).setCell ⟨g,12,none⟩ (.int .i64 b.calm))
theorem jZ {g:Nat} (h:fD w g) (b:Bd) (A:Option Addr) (n c:Nat):aL (setBd w g b A n c) g b A n c:=by
 obtain ⟨z0,z1,z2,z3,z4,z5,z6,z7,z8,z9,z10,z11,z12,y0,y1,y2,y3,y4,y5,y6,y7,y8,y9,y10,y11,y12⟩:=h.all;have yf:=h.free;unfold setBd;refine ⟨by go_simp,by go_simp,by go_simp,by go_simp,by go_simp,by go_simp,by go_simp,by go_simp,by go_simp,by go_simp,by go_simp,by go_simp,by go_simp,fun j=>?_⟩
 iterate 13 rw [World.frozen?_setCell]
 exact yf j
theorem fD.setBd {g k:Nat} (h:fD w k) (b:Bd) (A:Option Addr) (n c:Nat):fD (Go.Proofs.YtokgmcomgflloaaGreat.setBd w g b A n c) k:=(((((((((((((h.set _ _).set _ _).set _ _).set _ _).set _ _).set _ _).set _ _).set _ _).set _ _).set _ _).set _ _).set _ _).set _ _)
theorem Sl.setBd {A A':Option Addr} {n c n' c' g:Nat} {l:List V} (h:Sl w A n c l) (b:Bd) (hne:∀ bx off,A=some ⟨bx,off,none⟩→bx≠g):Sl (Go.Proofs.YtokgmcomgflloaaGreat.setBd w g b A' n' c') A n c l:=(Sl.setAt (Sl.setAt (Sl.setAt (Sl.setAt (Sl.setAt (Sl.setAt (Sl.setAt (Sl.setAt (Sl.setAt (Sl.setAt (Sl.setAt (Sl.setAt (Sl.setAt h hne) hne) hne) hne) hne) hne) hne) hne) hne) hne) hne) hne) hne)
theorem uO {B:Nat} {a w:World} {g:Nat} (h:Below B a w) (hg:B≤g) (b:Bd) (A:Option Addr) (n c:Nat):Below B a (setBd w g b A n c):=by
 unfold setBd
 iterate 13 refine Below.setCell ?_ (by exact hg) _
 exact h

def mX:Bd:=⟨0,0,0,0,0,0,0,0,0,0,false,0⟩
theorem zZ (b:Bd) (A:Option Addr) (n c:Nat) (l:List V) (w:World) (hS:Sl w A n c l) (hl:l.length≤8796093022208):Calls Tryz.prog 123 #[dK b A n c] w (nK b l w):=by
 obtain ⟨W,hW⟩:∃ W,W=(w.alloc (.cells #[.int .i64 b.px,.int .i64 b.py,.int .i64 b.vx,.int .i64 b.vy,.int .i64 b.ang,.int .i64 b.spin,.int .i64 b.mass,.int .i64 b.iner,.int .i64 b.bounce,.int .i64 b.rub,.slice A n c,.bool b.asleep,.int .i64 b.calm] 27)).alloc (.cells #[.int .i64 0,.int .i64 0,.int .i64 0,.int .i64 0,.int .i64 0,.int .i64 0,.int .i64 0,.int .i64 0,.int .i64 0,.int .i64 0,.slice none 0 0,.bool false,.int .i64 0] 27):=⟨_,rfl⟩;have HK0:=hid (show aL W w.heap.size b A n c by rw [hW];exact (aL.here w b A n c _).alloc _);have HZ0:=hid (show fD W (w.heap.size+1) by rw [hW];have:=aL.here (w.alloc (.cells #[.int .i64 b.px,.int .i64 b.py,.int .i64 b.vx,.int .i64 b.vy,.int .i64 b.ang,.int .i64 b.spin,.int .i64 b.mass,.int .i64 b.iner,.int .i64 b.bounce,.int .i64 b.rub,.slice A n c,.bool b.asleep,.int .i64 b.calm] 27)) mX none 0 0 27;simp only [mX] at this;exact fD.of (by simpa using this));have hB0:Below w.heap.size w W:=by rw [hW];go_grown
 have HS0:=hid (hS.below hB0);have HW0:Hid (W.heap.size=w.heap.size+2):=by show _=_;rw [hW];simp
 clear hS
 go_enter Tryz.func123,Tryz.ntmps123
 go_wp2_with fail
 rw [← hW];clear hW;refine (qw _ _ _ l _ HS0.out hl).mono ?_;rintro e w1 ⟨A',n',c',rfl,hs1,hfr,hb1⟩;have HK1:=hid (aM hb1 HK0.out);have HZ1:=hid (cO hb1 HZ0.out);have hB1:=aj hb1 hB0;have HS1:=hid hs1;obtain ⟨_,_,_,_,_,_,_,_,_,_,k10,_,_,kf⟩:=HK1.out;clear hb1 HK0 HZ0 hB0 HS0 hs1;have hz0:=HK1.out.lt;have hz1:=HZ1.out.lt
 go_upto_region 2 with fail
 obtain ⟨wd,hwd⟩:∃ wd,wd=w1.setCell ⟨w.heap.size,10,none⟩ (.slice A' n' c'):=⟨_,rfl⟩;have hk:aL wd w.heap.size b A' n' c':=by rw [hwd];exact HK1.out.set_slice
 have hzz:fD wd (w.heap.size+1):=by rw [hwd];exact HZ1.out.set _ _
 have hB2:Below w.heap.size w wd:=by rw [hwd];go_grown
 have HS2:Hid (Sl wd A' n' c' l):=by
  rw [hwd];exact HS1.out.grown (aN _ _ _ _) (fun b off e=>by have:=hfr b off e;have:=HW0.out;omega)
 have HNF:Hid (∀ bx off,A'=some ⟨bx,off,none⟩→w.heap.size≤bx):=fun b off e=>by have:=hfr b off e;have:=HW0.out;omega
 have HNE:Hid (∀ b off,A'=some ⟨b,off,none⟩→b≠w.heap.size+1):=fun b off e=>by have:=hfr b off e;have:=HW0.out;omega
 rw [← hwd];clear hwd HK1 HZ1 HS1 hB1 k10 kf hz0 hz1 hfr HW0;obtain ⟨k0,k1,k2,k3,k4,k5,k6,k7,k8,k9,k10,k11,k12,_⟩:=hk;obtain ⟨z0,z1,z2,z3,z4,z5,z6,z7,z8,z9,z10,z11,z12,y0,y1,y2,y3,y4,y5,y6,y7,y8,y9,y10,y11,y12⟩:=hzz.all;have yf:=hzz.free;have hl1:=hzz.lt;clear hzz;go_wp2;refine bodyPost_ret (v:=dK b A' n' c') (by simp [results,Tryz.results123,go_sem,y0,y1,y2,y3,y4,y5,y6,y7,y8,y9,y10,y11,y12,hl1]) rfl ⟨_,_,_,rfl,?_,fun bx off e=>by have:=HNF.out bx off e;omega,?_⟩
 ·iterate 13 refine Sl.setAt ?_ HNE.out
  exact HS2.out
 ·go_grown
theorem gD {A:Option Addr} {n c:Nat} {l:List V} (hb:Below w.heap.size w w') (h:Sl w A n c l):Sl w' A n c l:=h.below hb
theorem Sl.drew' {A:Option Addr} {n c:Nat} {l:List V} (h:Sl w A n c l):Sl w.drew A n c l:=⟨h.len,h.cap,h.big,fun hl=>by obtain ⟨b,off,e,hc⟩:=h.at_ hl;exact ⟨b,off,e,⟨hc.lt,hc.x,hc.y⟩⟩⟩
theorem sM (a b:Int) : -1099511627776≤aX a b∧aX a b≤1099511627776:=by
 unfold aX IL
 split
 ·omega
 ·exact eD _
theorem bJ {b:Bd} {l:List V} (h:aT b l=0):gV l=0∧kT b=0:=by
 unfold aT at h
 split at h
 ·rename_i h1;exact absurd h h1
 ·rename_i h1;exact ⟨by simpa using h1,h⟩
theorem bX {n l h:Int}:iA n l h=true↔l≤n∧n≤h:=by simp [iA]
theorem ji {b:Bd} (h:kT b=0):(-58982400≤b.px∧b.px≤58982400 ∧ -58982400≤b.py∧b.py≤58982400)∧(-268435456≤b.vx∧b.vx≤268435456 ∧ -268435456≤b.vy∧b.vy≤268435456)∧(-16777216≤b.spin∧b.spin≤16777216)∧(0≤b.ang∧b.ang≤65535)∧(0≤b.mass∧b.mass≤1099511627776)∧(0≤b.iner∧b.iner≤1099511627776):=by
 unfold kT at h
 split at h
 ·rename_i h1
  split at h
  ·rename_i h2;simp only [Bool.and_eq_true] at h1 h2;exact ⟨aD.1 h1.1.1.1,aD.1 h1.1.1.2,bX.1 h1.1.2,bX.1 h1.2,bX.1 h2.1.1.1.1,bX.1 h2.1.1.1.2⟩
  ·omega
 ·omega
def P9 (a:Int):Int:=(a.tmod 65536+65536).tmod 65536
def moveB (b:Bd) (l:List V) (s:Int):Bd :=
 if aT b l≠0∨b.mass=0∨b.asleep=true∨s<0∨65536<s then b
 else { b with px:=bD (b.px+aX b.vx s) 58982400,py:=bD (b.py+aX b.vy s) 58982400,ang:=P9 (b.ang+aX b.spin s) }
theorem wS (b:Bd) (A:Option Addr) (n c:Nat) (l:List V) (s:Int) (w:World) (hS:Sl w A n c l) (hl:l.length≤8796093022208):Calls Tryz.prog 51 #[dK b A n c,.int .i64 s] w (nK (moveB b l s) l w):=by
 obtain ⟨W,hW⟩:∃ W,W=(w.alloc (.cells #[.int .i64 b.px,.int .i64 b.py,.int .i64 b.vx,.int .i64 b.vy,.int .i64 b.ang,.int .i64 b.spin,.int .i64 b.mass,.int .i64 b.iner,.int .i64 b.bounce,.int .i64 b.rub,.slice A n c,.bool b.asleep,.int .i64 b.calm] 27)).alloc (.cells #[.int .i64 0,.int .i64 0,.int .i64 0,.int .i64 0,.int .i64 0,.int .i64 0,.int .i64 0,.int .i64 0,.int .i64 0,.int .i64 0,.slice none 0 0,.bool false,.int .i64 0] 27):=⟨_,rfl⟩;have HK0:=hid (show aL W w.heap.size b A n c by rw [hW];exact (aL.here w b A n c _).alloc _);have HZ0:=hid (show fD W (w.heap.size+1) by rw [hW];have:=aL.here (w.alloc (.cells #[.int .i64 b.px,.int .i64 b.py,.int .i64 b.vx,.int .i64 b.vy,.int .i64 b.ang,.int .i64 b.spin,.int .i64 b.mass,.int .i64 b.iner,.int .i64 b.bounce,.int .i64 b.rub,.slice A n c,.bool b.asleep,.int .i64 b.calm] 27)) mX none 0 0 27;simp only [mX] at this;exact fD.of (by simpa using this));have hB0:Below w.heap.size w W:=by rw [hW];go_grown
 have HS0:=hid (hS.below hB0);clear hS
 go_enter Tryz.func51,Tryz.ntmps51
 go_wp2_with fail
 rw [← hW];clear hW;have hsz0:=HZ0.out.lt;refine (zZ b A n c l _ HS0.out hl).mono ?_;rintro e w1 ⟨A1,n1,c1,rfl,hs1,hf1,hb1⟩;have HK1:=hid (aM hb1 HK0.out);have HZ1:=hid (cO hb1 HZ0.out);have hB1:=aj hb1 hB0;have HF2:Hid (∀ bx off,A1=some ⟨bx,off,none⟩→w.heap.size+1<bx):=fun bx off e=>by have:=hf1 bx off e;omega
 have HF1:Hid (∀ bx off,A1=some ⟨bx,off,none⟩→w.heap.size≤bx):=fun bx off e=>by have:=hf1 bx off e;omega
 have HS1:=hid hs1;obtain ⟨k0,k1,k2,k3,k4,k5,k6,k7,k8,k9,k10,k11,k12,kf⟩:=HK1.out;have hz0:=HK1.out.lt;clear hb1 HK0 HZ0 hB0 HS0 hs1 hf1
 go_wp2_with fail
 obtain ⟨wd,hwd⟩:∃ wd,wd=setBd w1 w.heap.size b A1 n1 c1:=⟨_,rfl⟩;have HKd:=hid (show aL wd w.heap.size b A1 n1 c1 by rw [hwd];exact jZ (fD.of HK1.out) b A1 n1 c1);have HZd:=hid (show fD wd (w.heap.size+1) by rw [hwd];exact HZ1.out.setBd _ _ _ _);have HSd:=hid (show Sl wd A1 n1 c1 l by rw [hwd];exact HS1.out.setBd b (fun bx off e=>by have:=HF2.out bx off e;omega));have hBd:Below w.heap.size w wd:=by rw [hwd];exact uO hB1 (Nat.le_refl _) _ _ _ _
 unfold setBd at hwd;rw [← hwd];clear hwd HK1 HZ1 HS1 hB1 hz0 kf k0 k1 k2 k3 k4 k5 k6 k7 k8 k9 k10 k11 k12;refine (iJ b A1 n1 c1 l _ HSd.out).mono ?_;rintro e w2 ⟨rfl,hb2⟩;have HK2:=hid (aM hb2 HKd.out);have HZ2:=hid (cO hb2 HZd.out);have HS2:=hid (gD hb2 HSd.out);have hB2:=aj hb2 hBd;clear hb2 hBd HKd HZd HSd;obtain ⟨k0,k1,k2,k3,k4,k5,k6,k7,k8,k9,k10,k11,k12,kf⟩:=HK2.out;have hz2:=HK2.out.lt
 by_cases hE:aT b l=0
 ·have HE := hid hE;rw [hE];clear hE
  by_cases hm:b.mass=0
  ·have hmb : (b.mass == 0) = true := by simp [hm]
   have HR:Hid (moveB b l s=b):=by show _=_;unfold moveB;rw [if_pos (.inr (.inl hm))]
   obtain ⟨z0,z1,z2,z3,z4,z5,z6,z7,z8,z9,z10,z11,z12,y0,y1,y2,y3,y4,y5,y6,y7,y8,y9,y10,y11,y12⟩:=HZ2.out.all;have yf:=HZ2.out.free;have hl1:=HZ2.out.lt;go_wp2;refine bodyPost_ret (v:=dK b A1 n1 c1) (by simp [results,Tryz.results51,go_sem,y0,y1,y2,y3,y4,y5,y6,y7,y8,y9,y10,y11,y12,hl1] <;> simp [*]) rfl ⟨_,_,_,by rw [HR.out],?_,HF1.out,?_⟩
   ·iterate 13 refine Sl.setAt ?_ (fun bx off e => by have := HF2.out bx off e; omega)
    exact HS2.out
   ·go_grown
  ·have hmb : (b.mass == 0) = false := by simp [hm]
   cases ha:b.asleep with
   | true =>
    rw [ha] at k11;have HR:Hid (moveB b l s=b):=by show _=_;unfold moveB;rw [if_pos (.inr (.inr (.inl ha)))]
    obtain ⟨z0,z1,z2,z3,z4,z5,z6,z7,z8,z9,z10,z11,z12,y0,y1,y2,y3,y4,y5,y6,y7,y8,y9,y10,y11,y12⟩:=HZ2.out.all;have yf:=HZ2.out.free;have hl1:=HZ2.out.lt;go_wp2;refine bodyPost_ret (v:=dK b A1 n1 c1) (by simp [results,Tryz.results51,go_sem,y0,y1,y2,y3,y4,y5,y6,y7,y8,y9,y10,y11,y12,hl1] <;> simp [*]) rfl ⟨_,_,_,by rw [HR.out],?_,HF1.out,?_⟩
    ·iterate 13 refine Sl.setAt ?_ (fun bx off e => by have := HF2.out bx off e; omega)
     exact HS2.out
    ·go_grown
   | false =>
    rw [ha] at k11
    by_cases hs0:s<0
    ·have HR : Hid (moveB b l s = b) := by show _ = _; unfold moveB; rw [if_pos (.inr (.inr (.inr (.inl hs0))))]
     obtain ⟨z0,z1,z2,z3,z4,z5,z6,z7,z8,z9,z10,z11,z12,y0,y1,y2,y3,y4,y5,y6,y7,y8,y9,y10,y11,y12⟩:=HZ2.out.all;have yf:=HZ2.out.free;have hl1:=HZ2.out.lt;go_wp2;refine bodyPost_ret (v:=dK b A1 n1 c1) (by simp [results,Tryz.results51,go_sem,y0,y1,y2,y3,y4,y5,y6,y7,y8,y9,y10,y11,y12,hl1] <;> simp [*]) rfl ⟨_,_,_,by rw [HR.out],?_,HF1.out,?_⟩
     ·iterate 13 refine Sl.setAt ?_ (fun bx off e => by have := HF2.out bx off e; omega)
      exact HS2.out
     ·go_grown
    ·by_cases hs1 : 65536 < s
     ·have HR : Hid (moveB b l s = b) := by show _ = _; unfold moveB; rw [if_pos (.inr (.inr (.inr (.inr hs1))))]
      obtain ⟨z0,z1,z2,z3,z4,z5,z6,z7,z8,z9,z10,z11,z12,y0,y1,y2,y3,y4,y5,y6,y7,y8,y9,y10,y11,y12⟩:=HZ2.out.all;have yf:=HZ2.out.free;have hl1:=HZ2.out.lt;go_wp2;refine bodyPost_ret (v:=dK b A1 n1 c1) (by simp [results,Tryz.results51,go_sem,y0,y1,y2,y3,y4,y5,y6,y7,y8,y9,y10,y11,y12,hl1] <;> simp [*]) rfl ⟨_,_,_,by rw [HR.out],?_,HF1.out,?_⟩
      ·iterate 13 refine Sl.setAt ?_ (fun bx off e => by have := HF2.out bx off e; omega)
       exact HS2.out
      ·go_grown
     ·have HCOND : Hid (¬ (aT b l ≠ 0 ∨ b.mass = 0 ∨ b.asleep = true ∨ s < 0 ∨ 65536 < s)) := by show ¬ _; rintro (h | h | h | h | h); exact h HE.out; exact hm h; (rw [ha] at h; simp at h); exact hs0 h; exact hs1 h
      obtain ⟨⟨p1,p2,p3,p4⟩,⟨v1,v2,v3,v4⟩,⟨s1,s2⟩,⟨a1,a2⟩,_,_⟩:=ji (bJ HE.out).2;obtain ⟨m1,m2⟩:=sM b.vx s;obtain ⟨m3,m4⟩:=sM b.vy s;obtain ⟨m5,m6⟩:=sM b.spin s;have w1':IntKind.i64.wrap (b.px+aX b.vx s)=b.px+aX b.vx s:=IntWalk.i64_in _ (by omega);have w2':IntKind.i64.wrap (b.py+aX b.vy s)=b.py+aX b.vy s:=IntWalk.i64_in _ (by omega);have w3':IntKind.i64.wrap (b.ang+aX b.spin s)=b.ang+aX b.spin s:=IntWalk.i64_in _ (by omega)
      go_wp2_with fail
      clear k0 k1 k2 k3 k4 k5 k6 k7 k8 k9 k10 k11 k12 kf;refine wp_region_noPanic ?_;refine au (S:=(S2 (fun w'=>aL w' w.heap.size b A1 n1 c1∧fD w' (w.heap.size+1)∧Sl w' A1 n1 c1 l∧Below w.heap.size w w'))) (T:=(fun j=>[0,0,0,0,0,0,0,0,0,0,0,0,1].getD j 0)) (by kernel_rfl) (aC ⟨HK2.out.drew,HZ2.out.drew,HS2.out.drew',hB2.drew⟩) (fun hH=>?_);have hWr1:aH (S2 (fun w'=>aL w' w.heap.size b A1 n1 c1∧fD w' (w.heap.size+1)∧Sl w' A1 n1 c1 l∧Below w.heap.size w w')):=aK _;refine dn [(0,28),(1,29),(2,30),(3,31),(4,32),(5,33),(6,34)] 6 0 0 (L':=?Lr1_1) hWr1 hH ?hyr1_1 ?_
      case hyr1_1=>((iterate 7 apply dA;rfl;kernel_rfl;intro w' hSw;replace hSw:=aA hSw;(try dsimp only at hSw);have q0:=hSw.1;have q1:=hSw.2.1;have q2:=hSw.2.2.1;have q3:=hSw.2.2.2;obtain ⟨qa0_0,qa0_1,qa0_2,qa0_3,qa0_4,qa0_5,qa0_6,qa0_7,qa0_8,qa0_9,qa0_10,qa0_11,qa0_12,qa0_f⟩:=id q0;have qa1_f:=q1.free;(try simp only [sB,sC]);go_simp;(try with_reducible rfl));exact dw)
      simp only [sB,sC];refine U1 7 0 rfl (fun K hK=>?_)
      try clear hb
      go_simp
      (go_at_call 52;refine (bM b.vx s _).mono ?_;rintro e wn ⟨rfl,hb⟩)
      refine hK.out _ _ ?hsr1_8 (fun hH2=>?hrr1_8)
      case hsr1_8=>exact aC (by have hG:=hH;replace hG:=aA hG;(try dsimp only at hG);have q0:=hG.1;have q1:=hG.2.1;have q2:=hG.2.2.1;have q3:=hG.2.2.2;exact ⟨aM hb q0,cO hb q1,gD hb q2,aj hb q3⟩)
      clear hK K hH;have hH:=hH2;clear hH2
      try simp only [Act.put,sA,sB,sC]
      refine Ut 8 36 4 0 0 (v:=?vr1_9) rfl hWr1 hH ?hyr1_9 ?_
      case hyr1_9=>(intro w' hSw;clear hSw;go_simp;try (with_reducible rfl))
      simp only [sB,sC];refine U1 9 0 rfl (fun K hK=>?_)
      try clear hb
      go_simp
      (go_at_call 124;refine (jG (b.px+aX b.vx s) 58982400 (by omega) (by omega) _).mono ?_;rintro e wn ⟨rfl,hb⟩)
      refine hK.out _ _ ?hsr1_10 (fun hH2=>?hrr1_10)
      case hsr1_10=>exact aC (by have hG:=hH;replace hG:=aA hG;(try dsimp only at hG);have q0:=hG.1;have q1:=hG.2.1;have q2:=hG.2.2.1;have q3:=hG.2.2.2;exact ⟨aM hb q0,cO hb q1,gD hb q2,aj hb q3⟩)
      clear hK K hH;have hH:=hH2;clear hH2
      try simp only [Act.put,sA,sB,sC]
      refine dn [(10,38),(11,39)] 1 0 0 (L':=?Lr1_11) hWr1 hH ?hyr1_11 ?_
      case hyr1_11=>((iterate 2 apply dA;rfl;kernel_rfl;intro w' hSw;clear hSw;(try simp only [sB,sC]);go_simp;(try with_reducible rfl));exact dw)
      simp only [sB,sC];refine U1 12 1 rfl (fun K hK=>?_);have hG:=hH;replace hG:=aA hG;(try dsimp only at hG);have q0:=hG.1;have q1:=hG.2.1;have q2:=hG.2.2.1;have q3:=hG.2.2.2;obtain ⟨qa0_0,qa0_1,qa0_2,qa0_3,qa0_4,qa0_5,qa0_6,qa0_7,qa0_8,qa0_9,qa0_10,qa0_11,qa0_12,qa0_f⟩:=id q0;go_simp;refine hK.out _ _ ?hsr1_13 (fun hH2=>?hrr1_13)
      case hsr1_13=>exact dY
      clear hK K hH;have hH:=hH2;clear hH2
      try simp only [Act.put,sA,sB,sC]
      refine ak (by kernel_rfl) ?_ _ _;refine NoPanic.normal ?_;clear hWr1;have HK3:=hid (q0.set_px (bD (b.px+aX b.vx s) 58982400));have HZ3:=hid (q1.set ⟨w.heap.size,0,none⟩ (.int .i64 (bD (b.px+aX b.vx s) 58982400)));have HS3:=hid (q2.setAt (g:=w.heap.size) (o:=0) (v:=.int .i64 (bD (b.px+aX b.vx s) 58982400)) (fun bx off e=>by have:=HF2.out bx off e;omega));have hB3:Below w.heap.size w (wn.setCell ⟨w.heap.size,0,none⟩ (.int .i64 (bD (b.px+aX b.vx s) 58982400))):=by go_grown
      clear hH hG q0 q1 q2 q3 qa0_0 qa0_1 qa0_2 qa0_3 qa0_4 qa0_5 qa0_6 qa0_7 qa0_8 qa0_9 qa0_10 qa0_11 qa0_12 qa0_f HK2 HZ2 HS2 hB2;generalize wn.setCell ⟨w.heap.size,0,none⟩ (.int .i64 (bD (b.px+aX b.vx s) 58982400))=wd at *
      obtain ⟨b2,hb2⟩:∃ b2:Bd,b2={ b with px:=bD (b.px+aX b.vx s) 58982400 }:=⟨_,rfl⟩;rw [← hb2] at HK3;have hy2:b2.py=b.py:=by rw [hb2]
      have hv2:b2.vy=b.vy:=by rw [hb2]
      go_wp2_with fail
      refine wp_region_noPanic ?_;refine au (S:=(S2 (fun w'=>aL w' w.heap.size b2 A1 n1 c1∧fD w' (w.heap.size+1)∧Sl w' A1 n1 c1 l∧Below w.heap.size w w'))) (T:=(fun j=>[0,0,0,0,0,0,0,0,0,0,0,0,1].getD j 0)) (by kernel_rfl) (aC ⟨HK3.out.drew,HZ3.out.drew,HS3.out.drew',hB3.drew⟩) (fun hH=>?_);have hWr2:aH (S2 (fun w'=>aL w' w.heap.size b2 A1 n1 c1∧fD w' (w.heap.size+1)∧Sl w' A1 n1 c1 l∧Below w.heap.size w w')):=aK _;refine dn [(0,40),(1,41),(2,42),(3,43),(4,44),(5,45),(6,46)] 6 0 0 (L':=?Lr2_1) hWr2 hH ?hyr2_1 ?_
      case hyr2_1=>((iterate 7 apply dA;rfl;kernel_rfl;intro w' hSw;replace hSw:=aA hSw;(try dsimp only at hSw);have q0:=hSw.1;have q1:=hSw.2.1;have q2:=hSw.2.2.1;have q3:=hSw.2.2.2;obtain ⟨qa0_0,qa0_1,qa0_2,qa0_3,qa0_4,qa0_5,qa0_6,qa0_7,qa0_8,qa0_9,qa0_10,qa0_11,qa0_12,qa0_f⟩:=id q0;have qa1_f:=q1.free;(try simp only [sB,sC]);go_simp;(try with_reducible rfl));exact dw)
      simp only [sB,sC];refine U1 7 0 rfl (fun K hK=>?_)
      try clear hb
      go_simp
      (go_at_call 52;refine (bM b.vy s _).mono ?_;rintro e wn ⟨rfl,hb⟩)
      refine hK.out _ _ ?hsr2_8 (fun hH2=>?hrr2_8)
      case hsr2_8=>exact aC (by have hG:=hH;replace hG:=aA hG;(try dsimp only at hG);have q0:=hG.1;have q1:=hG.2.1;have q2:=hG.2.2.1;have q3:=hG.2.2.2;exact ⟨aM hb q0,cO hb q1,gD hb q2,aj hb q3⟩)
      clear hK K hH;have hH:=hH2;clear hH2
      try simp only [Act.put,sA,sB,sC]
      refine Ut 8 48 4 0 0 (v:=?vr2_9) rfl hWr2 hH ?hyr2_9 ?_
      case hyr2_9=>(intro w' hSw;clear hSw;go_simp;try (with_reducible rfl))
      simp only [sB,sC];refine U1 9 0 rfl (fun K hK=>?_)
      try clear hb
      go_simp
      (go_at_call 124;refine (jG (b.py+aX b.vy s) 58982400 (by omega) (by omega) _).mono ?_;rintro e wn ⟨rfl,hb⟩)
      refine hK.out _ _ ?hsr2_10 (fun hH2=>?hrr2_10)
      case hsr2_10=>exact aC (by have hG:=hH;replace hG:=aA hG;(try dsimp only at hG);have q0:=hG.1;have q1:=hG.2.1;have q2:=hG.2.2.1;have q3:=hG.2.2.2;exact ⟨aM hb q0,cO hb q1,gD hb q2,aj hb q3⟩)
      clear hK K hH;have hH:=hH2;clear hH2
      try simp only [Act.put,sA,sB,sC]
      refine dn [(10,50),(11,51)] 1 0 0 (L':=?Lr2_11) hWr2 hH ?hyr2_11 ?_
      case hyr2_11=>((iterate 2 apply dA;rfl;kernel_rfl;intro w' hSw;clear hSw;(try simp only [sB,sC]);go_simp;(try with_reducible rfl));exact dw)
      simp only [sB,sC];refine U1 12 1 rfl (fun K hK=>?_);have hG:=hH;replace hG:=aA hG;(try dsimp only at hG);have q0:=hG.1;have q1:=hG.2.1;have q2:=hG.2.2.1;have q3:=hG.2.2.2;obtain ⟨qa0_0,qa0_1,qa0_2,qa0_3,qa0_4,qa0_5,qa0_6,qa0_7,qa0_8,qa0_9,qa0_10,qa0_11,qa0_12,qa0_f⟩:=id q0;go_simp;refine hK.out _ _ ?hsr2_13 (fun hH2=>?hrr2_13)
      case hsr2_13=>exact dY
      clear hK K hH;have hH:=hH2;clear hH2
      try simp only [Act.put,sA,sB,sC]
      refine ak (by kernel_rfl) ?_ _ _;refine NoPanic.normal ?_;clear hWr2;have HK4:=hid (q0.set_py (bD (b.py+aX b.vy s) 58982400));have HZ4:=hid (q1.set ⟨w.heap.size,1,none⟩ (.int .i64 (bD (b.py+aX b.vy s) 58982400)));have HS4:=hid (q2.setAt (g:=w.heap.size) (o:=1) (v:=.int .i64 (bD (b.py+aX b.vy s) 58982400)) (fun bx off e=>by have:=HF2.out bx off e;omega));have hB4:Below w.heap.size w (wn.setCell ⟨w.heap.size,1,none⟩ (.int .i64 (bD (b.py+aX b.vy s) 58982400))):=by go_grown
      clear hH hG q0 q1 q2 q3 qa0_0 qa0_1 qa0_2 qa0_3 qa0_4 qa0_5 qa0_6 qa0_7 qa0_8 qa0_9 qa0_10 qa0_11 qa0_12 qa0_f HK3 HZ3 HS3 hB3;generalize wn.setCell ⟨w.heap.size,1,none⟩ (.int .i64 (bD (b.py+aX b.vy s) 58982400))=wd at *
      obtain ⟨b3,hb3⟩:∃ b3:Bd,b3={ b2 with py:=bD (b.py+aX b.vy s) 58982400 }:=⟨_,rfl⟩;rw [← hb3] at HK4;have ha3:b3.ang=b.ang:=by rw [hb3,hb2]
      have hs3:b3.spin=b.spin:=by rw [hb3,hb2]
      have t1:=Int.lt_tmod_of_pos (b.ang+aX b.spin s) (show (0:Int)<65536 by omega);have t2:=Int.tmod_lt_of_pos (b.ang+aX b.spin s) (show (0:Int)<65536 by omega);have w6':IntKind.i64.wrap ((b.ang+aX b.spin s).tmod 65536+65536)=(b.ang+aX b.spin s).tmod 65536+65536:=IntWalk.i64_in _ (by omega)
      go_wp2_with fail
      refine wp_region_noPanic ?_;refine au (S:=(S2 (fun w'=>aL w' w.heap.size b3 A1 n1 c1∧fD w' (w.heap.size+1)∧Sl w' A1 n1 c1 l∧Below w.heap.size w w'))) (T:=(fun j=>[0,0,0,0,0,0,0,0,0,0,0,1].getD j 0)) (by kernel_rfl) (aC ⟨HK4.out.drew,HZ4.out.drew,HS4.out.drew',hB4.drew⟩) (fun hH=>?_);have hWr3:aH (S2 (fun w'=>aL w' w.heap.size b3 A1 n1 c1∧fD w' (w.heap.size+1)∧Sl w' A1 n1 c1 l∧Below w.heap.size w w')):=aK _;refine dn [(0,52),(1,53),(2,54),(3,55),(4,56)] 7 0 0 (L':=?Lr3_1) hWr3 hH ?hyr3_1 ?_
      case hyr3_1=>((iterate 5 apply dA;rfl;kernel_rfl;intro w' hSw;replace hSw:=aA hSw;(try dsimp only at hSw);have q0:=hSw.1;have q1:=hSw.2.1;have q2:=hSw.2.2.1;have q3:=hSw.2.2.2;obtain ⟨qa0_0,qa0_1,qa0_2,qa0_3,qa0_4,qa0_5,qa0_6,qa0_7,qa0_8,qa0_9,qa0_10,qa0_11,qa0_12,qa0_f⟩:=id q0;have qa1_f:=q1.free;(try simp only [sB,sC]);go_simp;(try with_reducible rfl));exact dw)
      simp only [sB,sC];refine U1 5 0 rfl (fun K hK=>?_)
      try clear hb
      go_simp
      (go_at_call 52;refine (bM b.spin s _).mono ?_;rintro e wn ⟨rfl,hb⟩)
      refine hK.out _ _ ?hsr3_6 (fun hH2=>?hrr3_6)
      case hsr3_6=>exact aC (by have hG:=hH;replace hG:=aA hG;(try dsimp only at hG);have q0:=hG.1;have q1:=hG.2.1;have q2:=hG.2.2.1;have q3:=hG.2.2.2;exact ⟨aM hb q0,cO hb q1,gD hb q2,aj hb q3⟩)
      clear hK K hH;have hH:=hH2;clear hH2
      try simp only [Act.put,sA,sB,sC]
      refine dn [(6,58),(7,59),(8,60),(9,61),(10,62)] 1 0 0 (L':=?Lr3_7) hWr3 hH ?hyr3_7 ?_
      case hyr3_7=>((iterate 5 apply dA;rfl;kernel_rfl;intro w' hSw;clear hSw;(try simp only [sB,sC]);go_simp;(try with_reducible rfl));exact dw)
      simp only [sB,sC];refine U1 11 1 rfl (fun K hK=>?_);have hG:=hH;replace hG:=aA hG;(try dsimp only at hG);have q0:=hG.1;have q1:=hG.2.1;have q2:=hG.2.2.1;have q3:=hG.2.2.2;obtain ⟨qa0_0,qa0_1,qa0_2,qa0_3,qa0_4,qa0_5,qa0_6,qa0_7,qa0_8,qa0_9,qa0_10,qa0_11,qa0_12,qa0_f⟩:=id q0;go_simp;refine hK.out _ _ ?hsr3_12 (fun hH2=>?hrr3_12)
      case hsr3_12=>exact dY
      clear hK K hH;have hH:=hH2;clear hH2
      try simp only [Act.put,sA,sB,sC]
      refine ak (by kernel_rfl) ?_ _ _;refine NoPanic.normal ?_;clear hWr3;have HK5:=hid (q0.set_ang (((b.ang+aX b.spin s).tmod 65536+65536).tmod 65536));have HZ5:=hid (q1.set ⟨w.heap.size,4,none⟩ (.int .i64 (((b.ang+aX b.spin s).tmod 65536+65536).tmod 65536)));have HS5:=hid (q2.setAt (g:=w.heap.size) (o:=4) (v:=.int .i64 (((b.ang+aX b.spin s).tmod 65536+65536).tmod 65536)) (fun bx off e=>by have:=HF2.out bx off e;omega));have hB5:Below w.heap.size w (wn.setCell ⟨w.heap.size,4,none⟩ (.int .i64 (((b.ang+aX b.spin s).tmod 65536+65536).tmod 65536))):=by go_grown
      clear hH hG q0 q1 q2 q3 qa0_0 qa0_1 qa0_2 qa0_3 qa0_4 qa0_5 qa0_6 qa0_7 qa0_8 qa0_9 qa0_10 qa0_11 qa0_12 qa0_f HK4 HZ4 HS4 hB4;generalize wn.setCell ⟨w.heap.size,4,none⟩ (.int .i64 (((b.ang+aX b.spin s).tmod 65536+65536).tmod 65536))=wd at *
      obtain ⟨b4,hb4⟩:∃ b4:Bd,b4={ b3 with ang:=((b.ang+aX b.spin s).tmod 65536+65536).tmod 65536 }:=⟨_,rfl⟩;rw [← hb4] at HK5;have HR:Hid (moveB b l s=b4):=by show _=_;unfold moveB;rw [if_neg HCOND.out,hb4,hb3,hb2];rfl
      obtain ⟨k0,k1,k2,k3,k4,k5,k6,k7,k8,k9,k10,k11,k12,kf⟩:=HK5.out;obtain ⟨z0,z1,z2,z3,z4,z5,z6,z7,z8,z9,z10,z11,z12,y0,y1,y2,y3,y4,y5,y6,y7,y8,y9,y10,y11,y12⟩:=HZ5.out.all;have yf:=HZ5.out.free;have hl1:=HZ5.out.lt;have hz5:=HK5.out.lt;clear hb2 hb3 hb4 hy2 hv2 ha3 hs3;go_wp2;refine bodyPost_ret (v:=dK b4 A1 n1 c1) (by simp [results,Tryz.results51,go_sem,y0,y1,y2,y3,y4,y5,y6,y7,y8,y9,y10,y11,y12,hl1]) rfl ⟨_,_,_,by rw [HR.out],?_,HF1.out,?_⟩
      ·iterate 13 refine Sl.setAt ?_ (fun bx off e => by have := HF2.out bx off e; omega)
       exact HS5.out
      ·go_grown
 ·have hne : (aT b l != 0) = true := by simp [hE]
  have HR:Hid (moveB b l s=b):=by show _=_;unfold moveB;rw [if_pos (.inl hE)]
  obtain ⟨z0,z1,z2,z3,z4,z5,z6,z7,z8,z9,z10,z11,z12,y0,y1,y2,y3,y4,y5,y6,y7,y8,y9,y10,y11,y12⟩:=HZ2.out.all;have yf:=HZ2.out.free;have hl1:=HZ2.out.lt;go_wp2;refine bodyPost_ret (v:=dK b A1 n1 c1) (by simp [results,Tryz.results51,go_sem,y0,y1,y2,y3,y4,y5,y6,y7,y8,y9,y10,y11,y12,hl1] <;> simp [*]) rfl ⟨_,_,_,by rw [HR.out],?_,HF1.out,?_⟩
  ·iterate 13 refine Sl.setAt ?_ (fun bx off e => by have := HF2.out bx off e; omega)
   exact HS2.out
  ·go_grown
end
end Go.Proofs.YtokgmcomgflloaaGreat
