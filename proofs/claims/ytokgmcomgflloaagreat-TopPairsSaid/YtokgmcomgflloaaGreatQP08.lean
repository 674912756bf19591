/- Parts of a proof: contracts and laws. -/
import Derived.Test.YtokgmcomgflloaaGreatQP04
import Derived.Test.YtokgmcomgflloaaGreatQP07
import Derived.Test.YtokgmcomgflloaaGreatQP02
import Derived.BigQuiet
import Derived.Deep.DeepCutAuto
import Derived.WalkSpells
import Derived.Laws.Bits64b
import Derived.Laws.MathBits
import Derived.Deep.WholeRow
import Derived.Maps.AppendAt
import Derived.Test.YtokgmcomgflloaaGreatQP03
import Derived.Test.YtokgmcomgflloaaGreatQP06
set_option maxRecDepth 100000
set_option maxHeartbeats 16000000
namespace Go.Proofs.YtokgmcomgflloaaGreat
section
set_option linter.unusedVariables false
set_option linter.unusedSimpArgs false
open Go.RowKit
variable {w0 w w':World}

structure VZ (w : World) (g : Nat) : Prop where
 c:∃ x y:Value,w.cell? ⟨g,0,none⟩=some x∧w.cell? ⟨g,1,none⟩=some y
 free:∀ j,w.frozen? ⟨g,j,none⟩=false
theorem gY {g:Nat} (hb:Below w.heap.size w w') (h:VZ w g):VZ w' g:=by
 obtain ⟨⟨x,y,h0,h1⟩,hf⟩:=h;exact ⟨⟨x,y,keepCell hb h0,keepCell hb h1⟩,fun j=>((cO hb).2 _ _ (lt_of_cell h0)).trans (hf j)⟩
theorem VZ.lt {g:Nat} (h:VZ w g):g<w.heap.size:=by obtain ⟨⟨_,_,h0,_⟩,_⟩:=h;exact lt_of_cell h0
theorem VZ.alloc {g:Nat} (h:VZ w g) (o:Obj):VZ (w.alloc o) g:=gY Ba h
theorem VZ.drew {g:Nat} (h:VZ w g):VZ w.drew g:=⟨h.c,h.free⟩
theorem VZ.here (w:World) (a b:Int) (t:TypeId):VZ (w.alloc (.cells #[.int .i64 a,.int .i64 b] t)) w.heap.size :=
 ⟨⟨.int .i64 a,.int .i64 b,by go_simp,by go_simp⟩,fun j=>by go_simp⟩
theorem VZ.set {g:Nat} (h:VZ w g) (a:Addr) (u:Value):VZ (w.setCell a u) g:=by
 obtain ⟨⟨x,y,h0,h1⟩,hf⟩:=h;refine ⟨?_,fun j=>by rw [World.frozen?_setCell];exact hf j⟩
 have e:∀ j z,w.cell? ⟨g,j,none⟩=some z→∃ z',(w.setCell a u).cell? ⟨g,j,none⟩=some z':=fun j z hz=>by
  by_cases ha:a=⟨g,j,none⟩
  ·subst ha;exact ⟨u,by go_simp⟩
  ·exact ⟨z,by go_simp⟩
 obtain ⟨z0,e0⟩:=e 0 x h0;obtain ⟨z1,e1⟩:=e 1 y h1;exact ⟨z0,z1,e0,e1⟩
theorem Sl.empty' (w:World):Sl w none 0 0 []:=⟨rfl,by omega,by omega,fun h=>absurd rfl h⟩
theorem qm {w : World} {ops : Array Oper} {rest : List Oper} {o : Oper} {a : Act} {Q : Exit → Act → World → Prop} (hgd : o.guard = none) (s x : Operand)
  (ho:o.op = .call { callee:=.builtin .append,args:=#[s,x],argTypes:=#[25,25] })
  (B:Nat) (v:Value) (l:List V) (hs:a.eval s=v) (hown:Own w B v l) (ad:Addr) (c:Nat) (hx:a.eval x = .slice (some ad) 0 c)
  (hl:l.length≤8796093022208) (hB:B≤w.heap.size)
  (h:∀ v' w',Own w' B v' l→w.grownBy w' v.ownBlock→wpList Tryz.prog ops Q rest (a.put o.dst v') w'):wpList Tryz.prog ops Q (o :: rest) a w:=by
 obtain ⟨i0,hi,hz0,hz1,hz2⟩:=info_parts vW;refine wpList_append_own w hgd s x 25 ho B 24 i0 (.agg #[.int .i64 0,.int .i64 0]) 2 16 Tryz.underlying25 hi hz0 hz1 hz2 rfl (by decide) v l.length (flat l) hs hown ad 0 c [] hx (by simp) (fun j u hj=>by simp at hj) (by simp) (by unfold maxLen;omega) (by omega) hB ?_;intro v' w' h1 h2 _;refine h v' w' ?_ h2;unfold Own;simpa using h1
theorem nX (A:Option Addr) (n c:Nat) (l:List V) (w:World) (hS:Sl w A n c l) (hl:l.length≤8796093022208):Calls Tryz.prog 111 #[.slice A n c] w (Og l w):=by
 have hcmp:∀ w':World,(binOp .eql 25 (.slice A n c) (.slice none 0 0)).run Tryz.prog w' = .ok (.bool A.isNone) w':=fun w'=>Lib.run_eql_slice_nil w' 25 _ A n c 0 0 Tryz.underlying25
 cases A with
 | none =>
  have hl0:l=[]:=by
   rcases l with _ | ⟨a,r⟩
   ·rfl
   ·obtain ⟨b,off,h,_⟩:=hS.at_ (by simp);cases h
  subst hl0;have hn:=hS.len;simp at hn;subst hn;clear hS
  go_enter Tryz.func111,Tryz.ntmps111
  go_wp2
  go_returns
  exact ⟨_,_,_,rfl,Sl.empty' _,fun b off h=>absurd h (by simp),Below.refl _ _⟩
 | some ad =>
  have hn:=hS.len;have HS:=hid hS;clear hS;have HO:Hid (Own (w.alloc (.cells #[] 24)) w.heap.size (.slice (some ⟨w.heap.size,0,none⟩) 0 0) []):=Own.lit w w.heap.size [] (Nat.le_refl _) (by simp)
  by_cases hl0:l=[]
  ·subst hl0;simp at hn;subst hn
   go_enter Tryz.func111,Tryz.ntmps111
   go_wp2_with (at_builtin;refine qm rfl _ _ rfl w.heap.size _ [] rfl HO.out ad _ rfl (by simp) (by simp) ?_;intro v' w1 ho1 hg1;have HO1:=hid ho1;have hb1:=Own.grown HO.out hg1 (by simp);clear ho1 hg1)
   obtain ⟨A',n',c',rfl,hs,hfr⟩:=HO1.out.sl
   go_returns
   exact ⟨_,_,_,rfl,hs,hfr,(Below.trans (by go_grown) hb1)⟩
  ·obtain ⟨b, off, hab, hC⟩ := HS.out.at_ hl0
   cases hab
   subst hn;have HC:=hid (hC.below ((Below.refl w.heap.size w).alloc (Nat.le_refl _) (.cells #[] 24)));clear hC
   go_enter Tryz.func111,Tryz.ntmps111
   go_wp2_with (at_builtin;refine dL rfl _ _ rfl w.heap.size _ [] rfl HO.out b off _ _ l rfl rfl HC.out (by simp;omega) (by simp) ?_;intro v' w1 ho1 hg1;have HO1:=hid ho1;have hb1:=Own.grown HO.out hg1 (by simp);clear ho1 hg1)
   obtain ⟨A',n',c',rfl,hs,hfr⟩:=HO1.out.sl
   go_returns
   exact ⟨_,_,_,rfl,by simpa using hs,hfr,(Below.trans (by go_grown) hb1)⟩

def vE (b:Bd) (l:List V) (w:World) (e:Ending) (w':World):Prop:=∃ A n c,e = .returned (gH b A n c)∧Sl w' A n c l∧(∀ bx off,A=some ⟨bx,off,none⟩→w.heap.size≤bx)∧Below w.heap.size w w'

structure kG (w : World) (g : Nat) : Prop where
 c:∀ j,j<13→∃ v,w.cell? ⟨g,j,none⟩=some v
 free:∀ j,w.frozen? ⟨g,j,none⟩=false
theorem kG.lt {g:Nat} (h:kG w g):g<w.heap.size:=by
 obtain ⟨v,hv⟩:=h.c 0 (by omega);exact lt_of_cell hv
theorem iF {g:Nat} (hb:Below w.heap.size w w') (h:kG w g):kG w' g :=
 ⟨fun j hj=>by obtain ⟨v,hv⟩:=h.c j hj;exact ⟨v,keepCell hb hv⟩,fun j=>((cO hb).2 _ _ h.lt).trans (h.free j)⟩
theorem kG.alloc {g:Nat} (h:kG w g) (o:Obj):kG (w.alloc o) g:=iF Ba h
theorem kG.drew {g:Nat} (h:kG w g):kG w.drew g:=⟨h.c,h.free⟩
theorem kG.of {g:Nat} {b:Bd} {A:Option Addr} {n c:Nat} (h:aW w g b A n c):kG w g :=
 ⟨fun j hj=>match j,hj with
  | 0,_=>⟨_,h.c0⟩ | 1,_=>⟨_,h.c1⟩ | 2,_=>⟨_,h.c2⟩ | 3,_=>⟨_,h.c3⟩ | 4,_=>⟨_,h.c4⟩ | 5,_=>⟨_,h.c5⟩ | 6,_=>⟨_,h.c6⟩ | 7,_=>⟨_,h.c7⟩ | 8,_=>⟨_,h.c8⟩ | 9,_=>⟨_,h.c9⟩ | 10,_=>⟨_,h.c10⟩ | 11,_=>⟨_,h.c11⟩ | 12,_=>⟨_,h.c12⟩,h.free⟩
theorem kG.all {g:Nat} (h:kG w g):∃ z0 z1 z2 z3 z4 z5 z6 z7 z8 z9 z10 z11 z12:Value,w.cell? ⟨g,0,none⟩=some z0∧w.cell? ⟨g,1,none⟩=some z1∧w.cell? ⟨g,2,none⟩=some z2∧w.cell? ⟨g,3,none⟩=some z3∧w.cell? ⟨g,4,none⟩=some z4∧w.cell? ⟨g,5,none⟩=some z5∧w.cell? ⟨g,6,none⟩=some z6∧w.cell? ⟨g,7,none⟩=some z7∧w.cell? ⟨g,8,none⟩=some z8∧w.cell? ⟨g,9,none⟩=some z9∧w.cell? ⟨g,10,none⟩=some z10∧w.cell? ⟨g,11,none⟩=some z11∧w.cell? ⟨g,12,none⟩=some z12:=by
 obtain ⟨z0,h0⟩:=h.c 0 (by omega);obtain ⟨z1,h1⟩:=h.c 1 (by omega);obtain ⟨z2,h2⟩:=h.c 2 (by omega);obtain ⟨z3,h3⟩:=h.c 3 (by omega);obtain ⟨z4,h4⟩:=h.c 4 (by omega);obtain ⟨z5,h5⟩:=h.c 5 (by omega);obtain ⟨z6,h6⟩:=h.c 6 (by omega);obtain ⟨z7,h7⟩:=h.c 7 (by omega);obtain ⟨z8,h8⟩:=h.c 8 (by omega);obtain ⟨z9,h9⟩:=h.c 9 (by omega);obtain ⟨z10,h10⟩:=h.c 10 (by omega);obtain ⟨z11,h11⟩:=h.c 11 (by omega);obtain ⟨z12,h12⟩:=h.c 12 (by omega);exact ⟨z0,z1,z2,z3,z4,z5,z6,z7,z8,z9,z10,z11,z12,h0,h1,h2,h3,h4,h5,h6,h7,h8,h9,h10,h11,h12⟩
theorem aW.set_px {g:Nat} {b:Bd} {A:Option Addr} {n c:Nat} (h:aW w g b A n c) (v:Int):aW (w.setCell ⟨g,0,none⟩ (.int .i64 v)) g { b with px:=v } A n c:=by
 obtain ⟨k0,k1,k2,k3,k4,k5,k6,k7,k8,k9,k10,k11,k12,kf⟩:=h;exact ⟨by go_simp,by go_simp,by go_simp,by go_simp,by go_simp,by go_simp,by go_simp,by go_simp,by go_simp,by go_simp,by go_simp,by go_simp,by go_simp,fun j=>by rw [World.frozen?_setCell];exact kf j⟩
theorem aW.set_py {g:Nat} {b:Bd} {A:Option Addr} {n c:Nat} (h:aW w g b A n c) (v:Int):aW (w.setCell ⟨g,1,none⟩ (.int .i64 v)) g { b with py:=v } A n c:=by
 obtain ⟨k0,k1,k2,k3,k4,k5,k6,k7,k8,k9,k10,k11,k12,kf⟩:=h;exact ⟨by go_simp,by go_simp,by go_simp,by go_simp,by go_simp,by go_simp,by go_simp,by go_simp,by go_simp,by go_simp,by go_simp,by go_simp,by go_simp,fun j=>by rw [World.frozen?_setCell];exact kf j⟩
theorem aW.set_vx {g:Nat} {b:Bd} {A:Option Addr} {n c:Nat} (h:aW w g b A n c) (v:Int):aW (w.setCell ⟨g,2,none⟩ (.int .i64 v)) g { b with vx:=v } A n c:=by
 obtain ⟨k0,k1,k2,k3,k4,k5,k6,k7,k8,k9,k10,k11,k12,kf⟩:=h;exact ⟨by go_simp,by go_simp,by go_simp,by go_simp,by go_simp,by go_simp,by go_simp,by go_simp,by go_simp,by go_simp,by go_simp,by go_simp,by go_simp,fun j=>by rw [World.frozen?_setCell];exact kf j⟩
theorem aW.set_vy {g:Nat} {b:Bd} {A:Option Addr} {n c:Nat} (h:aW w g b A n c) (v:Int):aW (w.setCell ⟨g,3,none⟩ (.int .i64 v)) g { b with vy:=v } A n c:=by
 obtain ⟨k0,k1,k2,k3,k4,k5,k6,k7,k8,k9,k10,k11,k12,kf⟩:=h;exact ⟨by go_simp,by go_simp,by go_simp,by go_simp,by go_simp,by go_simp,by go_simp,by go_simp,by go_simp,by go_simp,by go_simp,by go_simp,by go_simp,fun j=>by rw [World.frozen?_setCell];exact kf j⟩
theorem aW.set_ang {g:Nat} {b:Bd} {A:Option Addr} {n c:Nat} (h:aW w g b A n c) (v:Int):aW (w.setCell ⟨g,4,none⟩ (.int .i64 v)) g { b with ang:=v } A n c:=by
 obtain ⟨k0,k1,k2,k3,k4,k5,k6,k7,k8,k9,k10,k11,k12,kf⟩:=h;exact ⟨by go_simp,by go_simp,by go_simp,by go_simp,by go_simp,by go_simp,by go_simp,by go_simp,by go_simp,by go_simp,by go_simp,by go_simp,by go_simp,fun j=>by rw [World.frozen?_setCell];exact kf j⟩
theorem aW.set_spin {g:Nat} {b:Bd} {A:Option Addr} {n c:Nat} (h:aW w g b A n c) (v:Int):aW (w.setCell ⟨g,5,none⟩ (.int .i64 v)) g { b with spin:=v } A n c:=by
 obtain ⟨k0,k1,k2,k3,k4,k5,k6,k7,k8,k9,k10,k11,k12,kf⟩:=h;exact ⟨by go_simp,by go_simp,by go_simp,by go_simp,by go_simp,by go_simp,by go_simp,by go_simp,by go_simp,by go_simp,by go_simp,by go_simp,by go_simp,fun j=>by rw [World.frozen?_setCell];exact kf j⟩
theorem aW.set_slice {g:Nat} {b:Bd} {A A':Option Addr} {n c n' c':Nat} (h:aW w g b A n c):aW (w.setCell ⟨g,10,none⟩ (.slice A' n' c')) g b A' n' c':=by
 obtain ⟨k0,k1,k2,k3,k4,k5,k6,k7,k8,k9,k10,k11,k12,kf⟩:=h;exact ⟨by go_simp,by go_simp,by go_simp,by go_simp,by go_simp,by go_simp,by go_simp,by go_simp,by go_simp,by go_simp,by go_simp,by go_simp,by go_simp,fun j=>by rw [World.frozen?_setCell];exact kf j⟩
theorem Sl.setAt {A:Option Addr} {n c g o:Nat} {l:List V} {v:Value} (h:Sl w A n c l) (hne:∀ b off,A=some ⟨b,off,none⟩→b≠g):Sl (w.setCell ⟨g,o,none⟩ v) A n c l:=h.grown (aT _ _ _ _) hne
theorem kG.set {g:Nat} (h:kG w g) (a:Addr) (u:Value):kG (w.setCell a u) g:=⟨fun j hj=>by
  obtain ⟨v,hv⟩:=h.c j hj
  by_cases e:a=⟨g,j,none⟩
  ·subst e;exact ⟨u,by go_simp⟩
  ·exact ⟨v,by go_simp⟩,fun j=>by rw [World.frozen?_setCell];exact h.free j⟩

def setBd (w:World) (g:Nat) (b:Bd) (A:Option Addr) (n c:Nat):World:=(((((((((((((w.setCell ⟨g,0,none⟩ (.int .i64 b.px)).setCell ⟨g,1,none⟩ (.int .i64 b.py)).setCell ⟨g,2,none⟩ (.int .i64 b.vx)).setCell ⟨g,3,none⟩ (.int .i64 b.vy)).setCell ⟨g,4,none⟩ (.int .i64 b.ang)).setCell ⟨g,5,none⟩ (.int .i64 b.spin)).setCell ⟨g,6,none⟩ (.int .i64 b.mass)).setCell ⟨g,7,none⟩ (.int .i64 b.iner)).setCell ⟨g,8,none⟩ (.int .i64 b.bounce)).setCell ⟨g,9,none⟩ (.int .i64 b.rub)).setCell ⟨g,10,none⟩ (.slice A n c)).setCell ⟨g,11,none⟩ (.bool b.asleep)).setCell ⟨g,12,none⟩ (.int .i64 b.calm))
theorem Ns {g:Nat} (h:kG w g) (b:Bd) (A:Option Addr) (n c:Nat):aW (setBd w g b A n c) g b A n c:=by
 obtain ⟨z0,z1,z2,z3,z4,z5,z6,z7,z8,z9,z10,z11,z12,y0,y1,y2,y3,y4,y5,y6,y7,y8,y9,y10,y11,y12⟩:=h.all;have yf:=h.free;unfold setBd;refine ⟨by go_simp,by go_simp,by go_simp,by go_simp,by go_simp,by go_simp,by go_simp,by go_simp,by go_simp,by go_simp,by go_simp,by go_simp,by go_simp,fun j=>?_⟩
 iterate 13 rw [World.frozen?_setCell]
 exact yf j
theorem kG.setBd {g k:Nat} (h:kG w k) (b:Bd) (A:Option Addr) (n c:Nat):kG (Go.Proofs.YtokgmcomgflloaaGreat.setBd w g b A n c) k:=(((((((((((((h.set _ _).set _ _).set _ _).set _ _).set _ _).set _ _).set _ _).set _ _).set _ _).set _ _).set _ _).set _ _).set _ _)
theorem Sl.setBd {A A':Option Addr} {n c n' c' g:Nat} {l:List V} (h:Sl w A n c l) (b:Bd) (hne:∀ bx off,A=some ⟨bx,off,none⟩→bx≠g):Sl (Go.Proofs.YtokgmcomgflloaaGreat.setBd w g b A' n' c') A n c l:=(Sl.setAt (Sl.setAt (Sl.setAt (Sl.setAt (Sl.setAt (Sl.setAt (Sl.setAt (Sl.setAt (Sl.setAt (Sl.setAt (Sl.setAt (Sl.setAt (Sl.setAt h hne) hne) hne) hne) hne) hne) hne) hne) hne) hne) hne) hne) hne)
theorem ED {B:Nat} {a w:World} {g:Nat} (h:Below B a w) (hg:B≤g) (b:Bd) (A:Option Addr) (n c:Nat):Below B a (setBd w g b A n c):=by
 unfold setBd
 iterate 13 refine Below.setCell ?_ (by exact hg) _
 exact h

def G9:Bd:=⟨0,0,0,0,0,0,0,0,0,0,false,0⟩
theorem Jk (b:Bd) (A:Option Addr) (n c:Nat) (l:List V) (w:World) (hS:Sl w A n c l) (hl:l.length≤8796093022208):Calls Tryz.prog 123 #[gH b A n c] w (vE b l w):=by
 obtain ⟨W,hW⟩:∃ W,W=(w.alloc (.cells #[.int .i64 b.px,.int .i64 b.py,.int .i64 b.vx,.int .i64 b.vy,.int .i64 b.ang,.int .i64 b.spin,.int .i64 b.mass,.int .i64 b.iner,.int .i64 b.bounce,.int .i64 b.rub,.slice A n c,.bool b.asleep,.int .i64 b.calm] 27)).alloc (.cells #[.int .i64 0,.int .i64 0,.int .i64 0,.int .i64 0,.int .i64 0,.int .i64 0,.int .i64 0,.int .i64 0,.int .i64 0,.int .i64 0,.slice none 0 0,.bool false,.int .i64 0] 27):=⟨_,rfl⟩;have HK0:=hid (show aW W w.heap.size b A n c by rw [hW];exact (aW.here w b A n c _).alloc _);have HZ0:=hid (show kG W (w.heap.size+1) by rw [hW];have:=aW.here (w.alloc (.cells #[.int .i64 b.px,.int .i64 b.py,.int .i64 b.vx,.int .i64 b.vy,.int .i64 b.ang,.int .i64 b.spin,.int .i64 b.mass,.int .i64 b.iner,.int .i64 b.bounce,.int .i64 b.rub,.slice A n c,.bool b.asleep,.int .i64 b.calm] 27)) G9 none 0 0 27;simp only [G9] at this;exact kG.of (by simpa using this));have hB0:Below w.heap.size w W:=by rw [hW];go_grown
 have HS0:=hid (hS.below hB0);have HW0:Hid (W.heap.size=w.heap.size+2):=by show _=_;rw [hW];simp
 clear hS
 go_enter Tryz.func123,Tryz.ntmps123
 go_wp2_with fail
 rw [← hW];clear hW;refine (nX _ _ _ l _ HS0.out hl).mono ?_;rintro e w1 ⟨A',n',c',rfl,hs1,hfr,hb1⟩;have HK1:=hid (eD hb1 HK0.out);have HZ1:=hid (iF hb1 HZ0.out);have hB1:=aj hb1 hB0;have HS1:=hid hs1;obtain ⟨_,_,_,_,_,_,_,_,_,_,k10,_,_,kf⟩:=HK1.out;clear hb1 HK0 HZ0 hB0 HS0 hs1;have hz0:=HK1.out.lt;have hz1:=HZ1.out.lt
 go_upto_region 2 with fail
 obtain ⟨wd,hwd⟩:∃ wd,wd=w1.setCell ⟨w.heap.size,10,none⟩ (.slice A' n' c'):=⟨_,rfl⟩;have hk:aW wd w.heap.size b A' n' c':=by rw [hwd];exact HK1.out.set_slice
 have hzz:kG wd (w.heap.size+1):=by rw [hwd];exact HZ1.out.set _ _
 have hB2:Below w.heap.size w wd:=by rw [hwd];go_grown
 have HS2:Hid (Sl wd A' n' c' l):=by
  rw [hwd];exact HS1.out.grown (aT _ _ _ _) (fun b off e=>by have:=hfr b off e;have:=HW0.out;omega)
 have HNF:Hid (∀ bx off,A'=some ⟨bx,off,none⟩→w.heap.size≤bx):=fun b off e=>by have:=hfr b off e;have:=HW0.out;omega
 have HNE:Hid (∀ b off,A'=some ⟨b,off,none⟩→b≠w.heap.size+1):=fun b off e=>by have:=hfr b off e;have:=HW0.out;omega
 rw [← hwd];clear hwd HK1 HZ1 HS1 hB1 k10 kf hz0 hz1 hfr HW0;obtain ⟨k0,k1,k2,k3,k4,k5,k6,k7,k8,k9,k10,k11,k12,_⟩:=hk;obtain ⟨z0,z1,z2,z3,z4,z5,z6,z7,z8,z9,z10,z11,z12,y0,y1,y2,y3,y4,y5,y6,y7,y8,y9,y10,y11,y12⟩:=hzz.all;have yf:=hzz.free;have hl1:=hzz.lt;clear hzz;go_wp2;refine bodyPost_ret (v:=gH b A' n' c') (by simp [results,Tryz.results123,go_sem,y0,y1,y2,y3,y4,y5,y6,y7,y8,y9,y10,y11,y12,hl1]) rfl ⟨_,_,_,rfl,?_,fun bx off e=>by have:=HNF.out bx off e;omega,?_⟩
 ·iterate 13 refine Sl.setAt ?_ HNE.out
  exact HS2.out
 ·go_grown
end
end Go.Proofs.YtokgmcomgflloaaGreat
