/- Parts of a proof: contracts and laws. -/
import Derived.Test.YtokgmcomgflloaaGreatQX18
import Derived.Test.YtokgmcomgflloaaGreatQX04
import Derived.Test.YtokgmcomgflloaaGreatQX14
import Derived.Test.YtokgmcomgflloaaGreatQX10
import Derived.Test.YtokgmcomgflloaaGreatQX13
import Derived.Test.YtokgmcomgflloaaGreatQX05
import Derived.Test.YtokgmcomgflloaaGreatQX03
import Derived.Test.YtokgmcomgflloaaGreatQX16
set_option maxRecDepth 100000
set_option maxHeartbeats 16000000
namespace Go.Proofs.YtokgmcomgflloaaGreat
section
set_option linter.unusedVariables false
set_option linter.unusedSimpArgs false
open Go.RowKit
variable {w0 w w':World}
def Ir (x l:Int):Int:=(2*x*65536+l) / (2*l)

def GY : Nat → Int → Int → Int × Int
 | 0,x,y=>(x,y)
 | k+1,x,y=>if aS x<1073741824∧aS y<1073741824 then GY k (2*x) (2*y) else (x,y)
def IG (a b:Int):Int:=if aL a=0∧aL b=0 then 0 else Ir (GY 31 (aL a) (aL b)).1 (yC (GY 31 (aL a) (aL b)).1 (GY 31 (aL a) (aL b)).2)
def Ij (a b:Int):Int:=if aL a=0∧aL b=0 then 0 else Ir (GY 31 (aL a) (aL b)).2 (yC (GY 31 (aL a) (aL b)).1 (GY 31 (aL a) (aL b)).2)
theorem qV (a b:Int) (w:World):Calls Tryz.prog 10 #[bV a b] w (dw (.int .i64 (aL (yC (aL a) (aL b)))) w):=by
 obtain ⟨W,hW⟩:∃ W,W=w.alloc (.cells #[.int .i64 a,.int .i64 b] 24):=⟨_,rfl⟩;have hB0:Below w.heap.size w W:=by rw [hW];go_grown
 have p0:W.cell? ⟨w.heap.size,0,none⟩=some (.int .i64 a):=by rw [hW];go_simp
 have p1:W.cell? ⟨w.heap.size,1,none⟩=some (.int .i64 b):=by rw [hW];go_simp
 obtain ⟨q,hq⟩:∃ q,q=yC (aL a) (aL b):=⟨_,rfl⟩;have ba:=eH a;have bb:=eH b;have HLN:Hid (∀ w,Calls Tryz.prog 39 #[.int .i64 (aL a),.int .i64 (aL b)] w (dw (.int .i64 q) w)):=fun w=>by rw [hq];exact tq _ _ (by omega) (by omega) w
 rw [← hq];clear hq ba bb
 go_enter Tryz.func10,Tryz.ntmps10
 go_wp2_with fail
 rw [← hW];clear hW;refine wp_region_noPanic ?_;refine au (S:=(S2 (fun w'=>w'.cell? ⟨w.heap.size,0,none⟩=some (.int .i64 a)∧w'.cell? ⟨w.heap.size,1,none⟩=some (.int .i64 b)∧Below w.heap.size w w'))) (T:=(fun _=>0)) (by kernel_rfl) (aM ⟨p0,p1,hB0.drew⟩) (fun hH=>?_);have hWr2:aO (S2 (fun w'=>w'.cell? ⟨w.heap.size,0,none⟩=some (.int .i64 a)∧w'.cell? ⟨w.heap.size,1,none⟩=some (.int .i64 b)∧Below w.heap.size w w')):=aR _;refine gH [(0,3),(1,4),(3,6),(4,7)] 5 0 0 (L':=?Lr2_1) hWr2 hH ?hyr2_1 ?_
 case hyr2_1=>((iterate 4 apply gK;rfl;kernel_rfl;intro w' hSw;replace hSw:=aC hSw;(try dsimp only at hSw);have q0:=hSw.1;have q1:=hSw.2.1;have q2:=hSw.2.2;(try simp only [sB,sC]);go_simp;(try with_reducible rfl));exact gF)
 simp only [sB,sC];refine U1 2 0 rfl (fun K hK=>?_)
 try clear hb
 go_simp
 (go_at_call 38;refine (bB a _).mono ?_;rintro e wn ⟨rfl,hb⟩)
 refine hK.out _ _ ?hsr2_5 (fun hH2=>?hrr2_5)
 case hsr2_5=>exact aM (by have hG:=hH;replace hG:=aC hG;(try dsimp only at hG);have q0:=hG.1;have q1:=hG.2.1;have q2:=hG.2.2;exact ⟨keepCell hb q0,keepCell hb q1,ah hb q2⟩)
 clear hK K hH;have hH:=hH2;clear hH2
 try simp only [Act.put,sA,sB,sC]
 refine U1 5 0 rfl (fun K hK=>?_)
 try clear hb
 go_simp
 (go_at_call 38;refine (bB b _).mono ?_;rintro e wn ⟨rfl,hb⟩)
 refine hK.out _ _ ?hsr2_6 (fun hH2=>?hrr2_6)
 case hsr2_6=>exact aM (by have hG:=hH;replace hG:=aC hG;(try dsimp only at hG);have q0:=hG.1;have q1:=hG.2.1;have q2:=hG.2.2;exact ⟨keepCell hb q0,keepCell hb q1,ah hb q2⟩)
 clear hK K hH;have hH:=hH2;clear hH2
 try simp only [Act.put,sA,sB,sC]
 refine U1 6 0 rfl (fun K hK=>?_)
 try clear hb
 go_simp
 (go_at_call 39;refine (HLN.out _).mono ?_;rintro e wn ⟨rfl,hb⟩)
 refine hK.out _ _ ?hsr2_7 (fun hH2=>?hrr2_7)
 case hsr2_7=>exact aM (by have hG:=hH;replace hG:=aC hG;(try dsimp only at hG);have q0:=hG.1;have q1:=hG.2.1;have q2:=hG.2.2;exact ⟨keepCell hb q0,keepCell hb q1,ah hb q2⟩)
 clear hK K hH;have hH:=hH2;clear hH2
 try simp only [Act.put,sA,sB,sC]
 refine U1 7 0 rfl (fun K hK=>?_)
 try clear hb
 go_simp
 (go_at_call 38;refine (bB q _).mono ?_;rintro e wn ⟨rfl,hb⟩)
 refine hK.out _ _ ?hsr2_8 (fun hH2=>?hrr2_8)
 case hsr2_8=>exact aM (by have hG:=hH;replace hG:=aC hG;(try dsimp only at hG);have q0:=hG.1;have q1:=hG.2.1;have q2:=hG.2.2;exact ⟨keepCell hb q0,keepCell hb q1,ah hb q2⟩)
 clear hK K hH;have hH:=hH2;clear hH2
 try simp only [Act.put,sA,sB,sC]
 refine Ut 8 2 0 0 0 (v:=?vr2_9) rfl hWr2 hH ?hyr2_9 ?_
 case hyr2_9=>(intro w' hSw;clear hSw;go_simp;try (with_reducible rfl))
 simp only [sB,sC];refine ak (by kernel_rfl) ?_ _ _;refine NoPanic.normal ?_;clear hWr2;replace hH:=aC hH
 (try dsimp only at hH)
 have qq0:=hH.1;have qq1:=hH.2.1;have qq2:=hH.2.2;go_wp2
 go_returns
 exact aj rfl qq2
end
section
set_option linter.unusedVariables false
open Go.RowKit
variable {w0 w w':World}
theorem iG {P:Program} {md:Region.Mode} {ops:Array Oper} {Q:Exit→Act→World→Prop} {S:Nat→World→Prop} {T:Nat→Nat} {fuel lev:Nat} {l l':Array Bool} {a:Act} {w:World} (h:l=l') (hw:dh P md ops Q S T fuel lev l' a w):dh P md ops Q S T fuel lev l a w:=h ▸ hw
end
section
set_option linter.unusedVariables false
set_option linter.unusedSimpArgs false
open Go.RowKit
variable {w0 w w':World}


structure Ej (w0 : World) (bL oL : Nat) (L : List BE) (x : Jt) (w : World) : Prop where
 j:w.cell? ⟨w0.heap.size,0,none⟩=some (.int .i64 x.a)∧w.cell? ⟨w0.heap.size,1,none⟩=some (.int .i64 x.b)∧w.cell? ⟨w0.heap.size,2,none⟩=some (.int .i64 x.p1)∧w.cell? ⟨w0.heap.size,3,none⟩=some (.int .i64 x.p2)∧w.cell? ⟨w0.heap.size,4,none⟩=some (.int .i64 x.q1)∧w.cell? ⟨w0.heap.size,5,none⟩=some (.int .i64 x.q2)∧w.cell? ⟨w0.heap.size,6,none⟩=some (.int .i64 x.len)
 cl:aH jH w bL oL L
 z1:VZ w (w0.heap.size+1)
 z2:VZ w (w0.heap.size+2)
 bel:Below w0.heap.size w0 w
 lt:bL<w0.heap.size
 sz:w0.heap.size+2<w.heap.size
theorem ER {bL oL:Nat} {L:List BE} {x:Jt} {w w':World} (hb:Below w.heap.size w w') (h:Ej w0 bL oL L x w):Ej w0 bL oL L x w':=by
 obtain ⟨h0,h1,h2,h3,h4,h5,h6⟩:=h.j;exact ⟨⟨keepCell hb h0,keepCell hb h1,keepCell hb h2,keepCell hb h3,keepCell hb h4,keepCell hb h5,keepCell hb h6⟩,h.cl.below hb,dP hb h.z1,dP hb h.z2,ah hb h.bel,h.lt,Nat.lt_of_lt_of_le h.sz hb.size⟩
theorem Ej.alloc {bL oL:Nat} {L:List BE} {x:Jt} {w:World} (h:Ej w0 bL oL L x w) (o:Obj):Ej w0 bL oL L x (w.alloc o):=ER Ba h
theorem Ej.drew {bL oL:Nat} {L:List BE} {x:Jt} {w:World} (h:Ej w0 bL oL L x w):Ej w0 bL oL L x w.drew:=ER (Below.refl _ _).drew h
theorem Ej.set {bL oL:Nat} {L:List BE} {x:Jt} {w:World} {g o:Nat} {v:Value} (h:Ej w0 bL oL L x w) (hg:w0.heap.size+2<g):Ej w0 bL oL L x (w.setCell ⟨g,o,none⟩ v):=by
 obtain ⟨h0,h1,h2,h3,h4,h5,h6⟩:=h.j;have hlt:=h.lt;have n0:g≠w0.heap.size:=by omega
 have n1:g≠w0.heap.size+1:=by omega
 have n2:g≠w0.heap.size+2:=by omega
 have vz:∀ k,g≠k→VZ w k→VZ (w.setCell ⟨g,o,none⟩ v) k:=fun k hk hz=>by
  obtain ⟨⟨a,b,c,d⟩,f⟩:=hz;exact ⟨⟨a,b,aW hk c,aW hk d⟩,fun j=>by rw [World.frozen?_setCell];exact f j⟩
 exact ⟨⟨aW n0 h0,aW n0 h1,aW n0 h2,aW n0 h3,aW n0 h4,aW n0 h5,aW n0 h6⟩,⟨by simp;exact h.cl.lt,fun j hj i u hu=>aW (by omega) (h.cl.at_ j hj i u hu)⟩,vz _ n1 h.z1,vz _ n2 h.z2,h.bel.setCell (p:=⟨g,o,none⟩) (by show w0.heap.size≤g;omega) _,h.lt,by simp;exact h.sz⟩
theorem Ej.setBd {bL oL:Nat} {L:List BE} {x:Jt} {w:World} {g:Nat} (h:Ej w0 bL oL L x w) (hg:w0.heap.size+2<g) (b:Bd) (A:Option Addr) (n c:Nat):Ej w0 bL oL L x (Go.Proofs.YtokgmcomgflloaaGreat.setBd w g b A n c):=by
 unfold Go.Proofs.YtokgmcomgflloaaGreat.setBd
 iterate 13 refine Ej.set ?_ hg
 exact h

def qJ (x y:Int):Int:=aL (yC (aL x) (aL y))
def Jf (a b c d:Int):Int:=dQ (bn a c) (bn b d)
def GV (a b:Bd) (p1 p2 q1 q2 v1 v2:Int):Int:=dQ (GI a p1 p2 v1 v2) (GI b q1 q2 v1 v2)
def Ig (a b:Bd) (p1 p2 q1 q2 v1 v2:Int):Int:=Jf (fO (Fp b q1 q2) (Fp a p1 p2)) (fO (Fe b q1 q2) (Fe a p1 p2)) v1 v2
def Io (a b:Bd) (p1 p2 q1 q2 v1 v2 gap st:Int):Int:=kT (fO (-(Ig a b p1 p2 q1 q2 v1 v2)) (kT (bn gap 16384) st)) (GV a b p1 p2 q1 q2 v1 v2)

abbrev QB:=Bd × List V
def qB (Q:List QB) (i:Int):Bd:=match Q[i.toNat]? with | some y=>y.1 | none=>IB
def EC (Q:List QB) (k:Nat) (b:Bd):List QB:=match Q[k]? with | some y=>Q.set k (b,y.2) | none=>Q
theorem Bv {Q:List QB} {k:Nat} {y:QB} (h:Q[k]? = some y) (b:Bd):EC Q k b=Q.set k (b,y.2):=by unfold EC;rw [h]
theorem Gx {Q:List QB} {i:Int} {k:Nat} {y:QB} (hi:i=k) (h:Q[k]? = some y):qB Q i=y.1:=by unfold qB;rw [hi,Int.toNat_natCast,h]

def Bo (Q:List QB) (ka kb:Nat) (p1 p2 q1 q2 j1 j2:Int):List QB:=EC (EC Q ka (tK (qB Q ka) (-j1) (-j2) p1 p2)) kb (tK (qB Q kb) j1 j2 q1 q2)
def D6 (Q:List QB) (ka kb:Nat) (p1 p2 q1 q2 v1 v2 gap st:Int):List QB :=
 if GV (qB Q ka) (qB Q kb) p1 p2 q1 q2 v1 v2=0 then Q
 else Bo Q ka kb p1 p2 q1 q2 (bn v1 (Io (qB Q ka) (qB Q kb) p1 p2 q1 q2 v1 v2 gap st)) (bn v2 (Io (qB Q ka) (qB Q kb) p1 p2 q1 q2 v1 v2 gap st))

structure Like (y y' : QB) : Prop where
 l:y'.2=y.2
 px:y'.1.px=y.1.px
 py:y'.1.py=y.1.py
 ang:y'.1.ang=y.1.ang
 mass:y'.1.mass=y.1.mass
 rest:y.1.mass=0→y'=y
 ok:aJ y.1 y.2=0→aJ y'.1 y'.2=0
theorem Like.refl (y:QB):Like y y:=⟨rfl,rfl,rfl,rfl,rfl,fun _=>rfl,fun h=>h⟩
theorem Like.trans {y y' z:QB} (h:Like y y') (h':Like y' z):Like y z :=
 ⟨h'.l.trans h.l,h'.px.trans h.px,h'.py.trans h.py,h'.ang.trans h.ang,h'.mass.trans h.mass,fun e=>by rw [h'.rest (by rw [h.mass];exact e),h.rest e],fun e=>h'.ok (h.ok e)⟩
theorem Like.push (y:QB) (j1 j2 u v:Int):Like y (tK y.1 j1 j2 u v,y.2):=by
 refine ⟨rfl,?_,?_,?_,?_,fun e=>?_,fun e=>EP e _ _ _ _⟩ <;> unfold tK
 iterate 4 (split <;> rfl)
 rw [if_pos (.inl e)]
structure fG (Q Q' : List QB) : Prop where
 len:Q'.length=Q.length
 at_:∀ (k:Nat) (y:QB),Q[k]? = some y→∃ y',Q'[k]? = some y'∧Like y y'
theorem fG.refl (Q:List QB):fG Q Q:=⟨rfl,fun k y h=>⟨y,h,.refl y⟩⟩
theorem fG.trans {Q Q' R:List QB} (h:fG Q Q') (h':fG Q' R):fG Q R :=
 ⟨h'.len.trans h.len,fun k y hy=>by
  obtain ⟨y',e,l⟩:=h.at_ k y hy
  obtain ⟨z,e',l'⟩:=h'.at_ k y' e
  exact ⟨z,e',l.trans l'⟩⟩
theorem fG.put {Q:List QB} {k:Nat} {y:QB} (h:Q[k]? = some y) {b:Bd} (hb:Like y (b,y.2)):fG Q (EC Q k b):=by
 rw [Bv h];refine ⟨by simp,fun j z hz=>?_⟩
 by_cases e:k=j
 ·subst e;rw [h] at hz;cases hz;have hk:k<Q.length:=(List.getElem?_eq_some_iff.1 h).1;exact ⟨_,by rw [List.getElem?_set_self hk],hb⟩
 ·exact ⟨z,by rw [List.getElem?_set_ne e];exact hz,.refl z⟩
theorem fG.qB {Q Q':List QB} (h:fG Q Q') (i:Int):(Go.Proofs.YtokgmcomgflloaaGreat.qB Q' i).px=(Go.Proofs.YtokgmcomgflloaaGreat.qB Q i).px∧(Go.Proofs.YtokgmcomgflloaaGreat.qB Q' i).py=(Go.Proofs.YtokgmcomgflloaaGreat.qB Q i).py∧(Go.Proofs.YtokgmcomgflloaaGreat.qB Q' i).ang=(Go.Proofs.YtokgmcomgflloaaGreat.qB Q i).ang∧(Go.Proofs.YtokgmcomgflloaaGreat.qB Q' i).mass=(Go.Proofs.YtokgmcomgflloaaGreat.qB Q i).mass:=by
 unfold Go.Proofs.YtokgmcomgflloaaGreat.qB
 rcases hq:Q[i.toNat]? with _ | y
 ·have : Q'[i.toNat]? = none := by rw [List.getElem?_eq_none_iff] at hq ⊢; rw [h.len]; exact hq
  rw [this];exact ⟨rfl,rfl,rfl,rfl⟩
 ·obtain ⟨y', e, l⟩ := h.at_ _ y hq;rw [e];exact ⟨l.px,l.py,l.ang,l.mass⟩
theorem fG.wX {Q Q':List QB} (h:fG Q Q') (i:Int) (p q:Int):Go.Proofs.YtokgmcomgflloaaGreat.wX (Go.Proofs.YtokgmcomgflloaaGreat.qB Q' i) p q=Go.Proofs.YtokgmcomgflloaaGreat.wX (Go.Proofs.YtokgmcomgflloaaGreat.qB Q i) p q:=by
 obtain ⟨h1,h2,h3,h4⟩:=h.qB i;unfold Go.Proofs.YtokgmcomgflloaaGreat.wX;rw [h1,h3]
theorem fG.wY {Q Q':List QB} (h:fG Q Q') (i:Int) (p q:Int):Go.Proofs.YtokgmcomgflloaaGreat.wY (Go.Proofs.YtokgmcomgflloaaGreat.qB Q' i) p q=Go.Proofs.YtokgmcomgflloaaGreat.wY (Go.Proofs.YtokgmcomgflloaaGreat.qB Q i) p q:=by
 obtain ⟨h1,h2,h3,h4⟩:=h.qB i;unfold Go.Proofs.YtokgmcomgflloaaGreat.wY;rw [h2,h3]
theorem zk {Q:List QB} {ka kb:Nat} (ha:ka<Q.length) (hb:kb<Q.length) (hab:ka≠kb) (p1 p2 q1 q2 j1 j2:Int):fG Q (Bo Q ka kb p1 p2 q1 q2 j1 j2):=by
 have e1:Q[ka]? = some Q[ka]:=List.getElem?_eq_getElem ha;have e2:Q[kb]? = some Q[kb]:=List.getElem?_eq_getElem hb;unfold Bo;rw [Gx rfl e1,Gx rfl e2];refine (fG.put e1 (Like.push _ _ _ _ _)).trans (fG.put (y:=Q[kb]) ?_ (Like.push _ _ _ _ _));rw [Bv e1,List.getElem?_set_ne hab];exact e2
theorem yY {Q:List QB} {ka kb:Nat} (ha:ka<Q.length) (hb:kb<Q.length) (hab:ka≠kb) (p1 p2 q1 q2 v1 v2 gap st:Int):fG Q (D6 Q ka kb p1 p2 q1 q2 v1 v2 gap st):=by
 unfold D6
 split
 ·exact .refl Q
 ·exact zk ha hb hab _ _ _ _ _ _

def IJ (Q:List QB) (x:Jt):Int:=fO (wX (qB Q x.b) x.q1 x.q2) (wX (qB Q x.a) x.p1 x.p2)
def IU (Q:List QB) (x:Jt):Int:=fO (wY (qB Q x.b) x.q1 x.q2) (wY (qB Q x.a) x.p1 x.p2)
def Bf (Q:List QB) (x:Jt) (v1 v2 gap st:Int):List QB:=D6 Q x.a.toNat x.b.toNat (wX (qB Q x.a) x.p1 x.p2) (wY (qB Q x.a) x.p1 x.p2) (wX (qB Q x.b) x.q1 x.q2) (wY (qB Q x.b) x.q1 x.q2) v1 v2 gap st
def Ja (d1 d2:Int):Int:=if d1=0∧d2=0 then 65536 else IG d1 d2
def Jc (d1 d2:Int):Int:=if d1=0∧d2=0 then 0 else Ij d1 d2
def oz (Q:List QB) (x:Jt) (st:Int):List QB :=
 if x.len=0 then Bf (Bf Q x 65536 0 (IJ Q x) st) x 0 65536 (IU Q x) st
 else Bf Q x (Ja (IJ Q x) (IU Q x)) (Jc (IJ Q x) (IU Q x)) (qJ (IJ Q x) (IU Q x)-x.len) st

def eY (Q : List QB) (J : List Jt) (st : Int) : Nat → List QB
 | 0=>Q
 | k+1=>match J[k]? with | some x=>oz (eY Q J st k) x st | none=>eY Q J st k
def jB (Q : List QB) (J : List Jt) (st : Int) : Nat → List QB
 | 0=>Q
 | k+1=>eY (jB Q J st k) J st J.length
theorem vD {Q:List QB} {J:List Jt} {st:Int} {k:Nat} {x:Jt} (h:J[k]? = some x):eY Q J st (k+1)=oz (eY Q J st k) x st:=by
 show (match J[k]? with | some x=>oz (eY Q J st k) x st | none=>eY Q J st k)=_;rw [h]
def EX (n:Nat) (x:Jt):Prop:=0≤x.a∧x.a<x.b∧x.b<(n:Int)
theorem mW {Q:List QB} {x:Jt} (h:EX Q.length x) (v1 v2 gap st:Int):fG Q (Bf Q x v1 v2 gap st):=by
 obtain ⟨h1,h2,h3⟩:=h;exact yY (by omega) (by omega) (by omega) _ _ _ _ _ _ _ _
theorem yI {Q:List QB} {x:Jt} (h:EX Q.length x) (st:Int):fG Q (oz Q x st):=by
 unfold oz
 split
 ·have h1 := mW h 65536 0 (IJ Q x) st;exact h1.trans (mW (by rw [h1.len];exact h) _ _ _ _)
 ·exact mW h _ _ _ _
theorem nQ {Q : List QB} {J : List Jt} (h : ∀ x ∈ J, EX Q.length x) (st : Int) : ∀ k, fG Q (eY Q J st k)
 | 0=>.refl Q
 | k+1=>by
  have ih:=nQ h st k
  rcases hj:J[k]? with _ | x
  ·have:eY Q J st (k+1)=eY Q J st k:=by
    show (match J[k]? with | some x=>oz (eY Q J st k) x st | none=>eY Q J st k)=_;rw [hj]
   rw [this];exact ih
  ·rw [vD hj];refine ih.trans (yI ?_ st);rw [ih.len];exact h x (List.mem_of_getElem? hj)
theorem nu {Q : List QB} {J : List Jt} (h : ∀ x ∈ J, EX Q.length x) (st : Int) : ∀ k, fG Q (jB Q J st k)
 | 0=>.refl Q
 | k+1=>by
  have ih:=nu h st k
  exact ih.trans (nQ (by rw [ih.len];exact h) st _)

theorem wZ {L:List BE} (h:L.length≤64) (hv:∀ x ∈ L,aJ x.b x.l=0):aG L=0:=by
 unfold aG;rw [if_neg (by omega)]
 have:∀ k,k≤L.length→cB L k=0:=fun k=>by
  induction k with
  | zero=>intro _;rfl
  | succ k ih =>
   intro hk;rw [fK (by omega),if_neg (by rw [ih (by omega)];simp)];exact hv _ (List.getElem_mem _)
 exact this _ (Nat.le_refl _)

end
end Go.Proofs.YtokgmcomgflloaaGreat
