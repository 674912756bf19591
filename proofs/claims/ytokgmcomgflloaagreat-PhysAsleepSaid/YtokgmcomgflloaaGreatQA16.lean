/- Parts of a proof: contracts and laws. -/
import Derived.Test.YtokgmcomgflloaaGreatQA07
import Derived.Test.YtokgmcomgflloaaGreatQA08
import Derived.Test.YtokgmcomgflloaaGreatQA03
import Derived.Test.YtokgmcomgflloaaGreatQA02
import Derived.Test.YtokgmcomgflloaaGreatQA10
import Derived.Test.YtokgmcomgflloaaGreatQA15
set_option maxRecDepth 100000
set_option maxHeartbeats 16000000
namespace Go.Proofs.YtokgmcomgflloaaGreat
section
set_option linter.unusedVariables false
set_option linter.unusedSimpArgs false
open Go.RowKit
variable {w0 w w':World}
theorem sQ (a b n:Int) (w:World):Calls Tryz.prog 117 #[aR a b,.int .i64 n] w (dG (aR (aX a n) (aX b n)) w):=by
 obtain ⟨W,hW⟩:∃ W,W=(w.alloc (.cells #[.int .i64 a,.int .i64 b] 24)).alloc (.cells #[.int .i64 0,.int .i64 0] 24):=⟨_,rfl⟩;have k0:W.cell? ⟨w.heap.size,0,none⟩=some (.int .i64 a):=by rw [hW];go_simp
 have k1:W.cell? ⟨w.heap.size,1,none⟩=some (.int .i64 b):=by rw [hW];go_simp
 have HT:Hid (There W.drew (w.heap.size+1) 2):=by
  rw [hW]
  exact fun j hj=>by
   match j,hj with
   | 0,_ | 1,_=>exact ⟨⟨_,by go_simp;rfl⟩,by go_simp⟩
 have hB:Below w.heap.size w W:=by rw [hW];go_grown
 go_enter Tryz.func117,Tryz.ntmps117
 go_wp2_with fail
 rw [← hW];clear hW;refine wp_region_noPanic ?_;refine au (S:=(S2 (fun w'=>w'.cell? ⟨w.heap.size,0,none⟩=some (.int .i64 (a))∧w'.cell? ⟨w.heap.size,1,none⟩=some (.int .i64 (b))∧There w' (w.heap.size+1) 2∧Below w.heap.size w w'))) (T:=(fun j=>[0,0,0,0,0,0,0,0,0,1].getD j 0)) (by kernel_rfl) (aC ⟨k0,k1,HT.out,hB.drew⟩) (fun hH=>?_);have hWr1:aH (S2 (fun w'=>w'.cell? ⟨w.heap.size,0,none⟩=some (.int .i64 (a))∧w'.cell? ⟨w.heap.size,1,none⟩=some (.int .i64 (b))∧There w' (w.heap.size+1) 2∧Below w.heap.size w w')):=aK _;refine dn [(0,5),(1,6),(2,7),(4,9),(5,10),(6,11)] 4 0 0 (L':=?Lr1_1) hWr1 hH ?hyr1_1 ?_
 case hyr1_1=>((iterate 6 apply dA;rfl;kernel_rfl;intro w' hSw;replace hSw:=aA hSw;(try dsimp only at hSw);have q0:=hSw.1;have q1:=hSw.2.1;have q2:=hSw.2.2.1;have q3:=hSw.2.2.2;(try simp only [sB,sC]);go_simp;(try with_reducible rfl));exact dw)
 simp only [sB,sC];refine U1 3 0 rfl (fun K hK=>?_)
 try clear hb
 go_simp
 (go_at_call 52;refine (bM a n _).mono ?_;rintro e wn ⟨rfl,hb⟩)
 refine hK.out _ _ ?hsr1_7 (fun hH2=>?hrr1_7)
 case hsr1_7=>exact aC (by have hG:=hH;replace hG:=aA hG;(try dsimp only at hG);have q0:=hG.1;have q1:=hG.2.1;have q2:=hG.2.2.1;have q3:=hG.2.2.2;exact ⟨keepCell hb q0,keepCell hb q1,There.below hb q2,aj hb q3⟩)
 clear hK K hH;have hH:=hH2;clear hH2
 try simp only [Act.put,sA,sB,sC]
 refine U1 7 0 rfl (fun K hK=>?_)
 try clear hb
 go_simp
 (go_at_call 52;refine (bM b n _).mono ?_;rintro e wn ⟨rfl,hb⟩)
 refine hK.out _ _ ?hsr1_8 (fun hH2=>?hrr1_8)
 case hsr1_8=>exact aC (by have hG:=hH;replace hG:=aA hG;(try dsimp only at hG);have q0:=hG.1;have q1:=hG.2.1;have q2:=hG.2.2.1;have q3:=hG.2.2.2;exact ⟨keepCell hb q0,keepCell hb q1,There.below hb q2,aj hb q3⟩)
 clear hK K hH;have hH:=hH2;clear hH2
 try simp only [Act.put,sA,sB,sC]
 refine Ut 8 13 1 0 0 (v:=?vr1_9) rfl hWr1 hH ?hyr1_9 ?_
 case hyr1_9=>(intro w' hSw;clear hSw;go_simp;try (with_reducible rfl))
 simp only [sB,sC];refine U1 9 1 rfl (fun K hK=>?_);have hG:=hH;replace hG:=aA hG;(try dsimp only at hG);have q0:=hG.1;have q1:=hG.2.1;have q2:=hG.2.2.1;have q3:=hG.2.2.2;obtain ⟨z0,z1,y0,y1,f0,f1⟩:=q2.get2;go_simp;refine hK.out _ _ ?hsr1_10 (fun hH2=>?hrr1_10)
 case hsr1_10=>exact dY
 clear hK K hH;have hH:=hH2;clear hH2
 try simp only [Act.put,sA,sB,sC]
 refine ak (by kernel_rfl) ?_ _ _;refine NoPanic.normal ?_;have hl9:=lt_of_cell y0;have hB9:=q3;clear q0 q1 q2 q3 hH hG k0 k1 HT;go_wp2;refine bodyPost_ret (v:=aR (aX a n) (aX b n)) (by simp [results,Tryz.results117,go_sem,y0,y1,hl9]) rfl ⟨rfl,?_⟩;have:=hB9.size
 go_grown
def IG (a b c d:Int):Int:=bT (aX a c) (aX b d)
theorem EU (a b c d:Int) (w:World):Calls Tryz.prog 174 #[aR a b,aR c d] w (dG (.int .i64 (IG a b c d)) w):=by
 obtain ⟨W,hW⟩:∃ W,W=(w.alloc (.cells #[.int .i64 a,.int .i64 b] 24)).alloc (.cells #[.int .i64 c,.int .i64 d] 24):=⟨_,rfl⟩;have k0:W.cell? ⟨w.heap.size,0,none⟩=some (.int .i64 a):=by rw [hW];go_simp
 have k1:W.cell? ⟨w.heap.size,1,none⟩=some (.int .i64 b):=by rw [hW];go_simp
 have k2:W.cell? ⟨w.heap.size+1,0,none⟩=some (.int .i64 c):=by rw [hW];go_simp
 have k3:W.cell? ⟨w.heap.size+1,1,none⟩=some (.int .i64 d):=by rw [hW];go_simp
 have hB:Below w.heap.size w W:=by rw [hW];go_grown
 go_enter Tryz.func174,Tryz.ntmps174
 go_wp2_with fail
 rw [← hW];clear hW;refine wp_region_noPanic ?_;refine au (S:=(S2 (fun w'=>w'.cell? ⟨w.heap.size,0,none⟩=some (.int .i64 (a))∧w'.cell? ⟨w.heap.size,1,none⟩=some (.int .i64 (b))∧w'.cell? ⟨w.heap.size+1,0,none⟩=some (.int .i64 (c))∧w'.cell? ⟨w.heap.size+1,1,none⟩=some (.int .i64 (d))∧Below w.heap.size w w'))) (T:=(fun _=>0)) (by kernel_rfl) (aC ⟨k0,k1,k2,k3,hB.drew⟩) (fun hH=>?_);have hWr2:aH (S2 (fun w'=>w'.cell? ⟨w.heap.size,0,none⟩=some (.int .i64 (a))∧w'.cell? ⟨w.heap.size,1,none⟩=some (.int .i64 (b))∧w'.cell? ⟨w.heap.size+1,0,none⟩=some (.int .i64 (c))∧w'.cell? ⟨w.heap.size+1,1,none⟩=some (.int .i64 (d))∧Below w.heap.size w w')):=aK _;refine dn [(0,5),(1,6),(2,7),(3,8),(5,10),(6,11),(7,12),(8,13)] 4 0 0 (L':=?Lr2_1) hWr2 hH ?hyr2_1 ?_
 case hyr2_1=>((iterate 8 apply dA;rfl;kernel_rfl;intro w' hSw;replace hSw:=aA hSw;(try dsimp only at hSw);have q0:=hSw.1;have q1:=hSw.2.1;have q2:=hSw.2.2.1;have q3:=hSw.2.2.2.1;have q4:=hSw.2.2.2.2;(try simp only [sB,sC]);go_simp;(try with_reducible rfl));exact dw)
 simp only [sB,sC];refine U1 4 0 rfl (fun K hK=>?_)
 try clear hb
 go_simp
 (go_at_call 52;refine (bM a c _).mono ?_;rintro e wn ⟨rfl,hb⟩)
 refine hK.out _ _ ?hsr2_9 (fun hH2=>?hrr2_9)
 case hsr2_9=>exact aC (by have hG:=hH;replace hG:=aA hG;(try dsimp only at hG);have q0:=hG.1;have q1:=hG.2.1;have q2:=hG.2.2.1;have q3:=hG.2.2.2.1;have q4:=hG.2.2.2.2;exact ⟨keepCell hb q0,keepCell hb q1,keepCell hb q2,keepCell hb q3,aj hb q4⟩)
 clear hK K hH;have hH:=hH2;clear hH2
 try simp only [Act.put,sA,sB,sC]
 refine U1 9 0 rfl (fun K hK=>?_)
 try clear hb
 go_simp
 (go_at_call 52;refine (bM b d _).mono ?_;rintro e wn ⟨rfl,hb⟩)
 refine hK.out _ _ ?hsr2_10 (fun hH2=>?hrr2_10)
 case hsr2_10=>exact aC (by have hG:=hH;replace hG:=aA hG;(try dsimp only at hG);have q0:=hG.1;have q1:=hG.2.1;have q2:=hG.2.2.1;have q3:=hG.2.2.2.1;have q4:=hG.2.2.2.2;exact ⟨keepCell hb q0,keepCell hb q1,keepCell hb q2,keepCell hb q3,aj hb q4⟩)
 clear hK K hH;have hH:=hH2;clear hH2
 try simp only [Act.put,sA,sB,sC]
 refine U1 10 0 rfl (fun K hK=>?_)
 try clear hb
 go_simp
 (go_at_call 153;refine (eH (aX a c) (aX b d) _).mono ?_;rintro e wn ⟨rfl,hb⟩)
 refine hK.out _ _ ?hsr2_11 (fun hH2=>?hrr2_11)
 case hsr2_11=>exact aC (by have hG:=hH;replace hG:=aA hG;(try dsimp only at hG);have q0:=hG.1;have q1:=hG.2.1;have q2:=hG.2.2.1;have q3:=hG.2.2.2.1;have q4:=hG.2.2.2.2;exact ⟨keepCell hb q0,keepCell hb q1,keepCell hb q2,keepCell hb q3,aj hb q4⟩)
 clear hK K hH;have hH:=hH2;clear hH2
 try simp only [Act.put,sA,sB,sC]
 refine Ut 11 4 0 0 0 (v:=?vr2_12) rfl hWr2 hH ?hyr2_12 ?_
 case hyr2_12=>(intro w' hSw;clear hSw;go_simp;try (with_reducible rfl))
 simp only [sB,sC];refine ak (by kernel_rfl) ?_ _ _;refine NoPanic.normal ?_;clear hWr2;replace hH:=aA hH
 (try dsimp only at hH)
 have q0:=hH.1;have q1:=hH.2.1;have q2:=hH.2.2.1;have q3:=hH.2.2.2.1;have q4:=hH.2.2.2.2;go_wp2
 go_returns
 exact aB rfl q4
def Am (a b:Bd) (p1 p2 q1 q2 v1 v2:Int):Int:=bT (jP a p1 p2 v1 v2) (jP b q1 q2 v1 v2)
def OI (a b:Bd) (p1 p2 q1 q2 v1 v2:Int):Int:=IG (dI (jw b q1 q2) (jw a p1 p2)) (dI (jM b q1 q2) (jM a p1 p2)) v1 v2
def OY (a b:Bd) (p1 p2 q1 q2 v1 v2 gap st:Int):Int:=dX (dI (-(OI a b p1 p2 q1 q2 v1 v2)) (dX (aX gap 16384) st)) (Am a b p1 p2 q1 q2 v1 v2)

abbrev QB:=Bd × List V
def qB (Q:List QB) (i:Int):Bd:=match Q[i.toNat]? with | some y=>y.1 | none=>mX
def EL (Q:List QB) (k:Nat) (b:Bd):List QB:=match Q[k]? with | some y=>Q.set k (b,y.2) | none=>Q
theorem wE {Q:List QB} {k:Nat} {y:QB} (h:Q[k]? = some y) (b:Bd):EL Q k b=Q.set k (b,y.2):=by unfold EL;rw [h]
theorem iY {Q:List QB} {i:Int} {k:Nat} {y:QB} (hi:i=k) (h:Q[k]? = some y):qB Q i=y.1:=by unfold qB;rw [hi,Int.toNat_natCast,h]

def pK (Q:List QB) (ka kb:Nat) (p1 p2 q1 q2 j1 j2:Int):List QB:=EL (EL Q ka (lY (qB Q ka) (-j1) (-j2) p1 p2)) kb (lY (qB Q kb) j1 j2 q1 q2)
def qO (Q:List QB) (ka kb:Nat) (p1 p2 q1 q2 v1 v2 gap st:Int):List QB :=
 if Am (qB Q ka) (qB Q kb) p1 p2 q1 q2 v1 v2=0 then Q
 else pK Q ka kb p1 p2 q1 q2 (aX v1 (OY (qB Q ka) (qB Q kb) p1 p2 q1 q2 v1 v2 gap st)) (aX v2 (OY (qB Q ka) (qB Q kb) p1 p2 q1 q2 v1 v2 gap st))

structure Like (y y' : QB) : Prop where
 l:y'.2=y.2
 px:y'.1.px=y.1.px
 py:y'.1.py=y.1.py
 ang:y'.1.ang=y.1.ang
 mass:y'.1.mass=y.1.mass
 rest:y.1.mass=0→y'=y
 ok:aT y.1 y.2=0→aT y'.1 y'.2=0
theorem Like.refl (y:QB):Like y y:=⟨rfl,rfl,rfl,rfl,rfl,fun _=>rfl,fun h=>h⟩
theorem Like.trans {y y' z:QB} (h:Like y y') (h':Like y' z):Like y z :=
 ⟨h'.l.trans h.l,h'.px.trans h.px,h'.py.trans h.py,h'.ang.trans h.ang,h'.mass.trans h.mass,fun e=>by rw [h'.rest (by rw [h.mass];exact e),h.rest e],fun e=>h'.ok (h.ok e)⟩
theorem Like.push (y:QB) (j1 j2 u v:Int):Like y (lY y.1 j1 j2 u v,y.2):=by
 refine ⟨rfl,?_,?_,?_,?_,fun e=>?_,fun e=>LQ e _ _ _ _⟩ <;> unfold lY
 iterate 4 (split <;> rfl)
 rw [if_pos (.inl e)]
structure eU (Q Q' : List QB) : Prop where
 len:Q'.length=Q.length
 at_:∀ (k:Nat) (y:QB),Q[k]? = some y→∃ y',Q'[k]? = some y'∧Like y y'
theorem eU.refl (Q:List QB):eU Q Q:=⟨rfl,fun k y h=>⟨y,h,.refl y⟩⟩
theorem eU.trans {Q Q' R:List QB} (h:eU Q Q') (h':eU Q' R):eU Q R :=
 ⟨h'.len.trans h.len,fun k y hy=>by
  obtain ⟨y',e,l⟩:=h.at_ k y hy
  obtain ⟨z,e',l'⟩:=h'.at_ k y' e
  exact ⟨z,e',l.trans l'⟩⟩
theorem eU.put {Q:List QB} {k:Nat} {y:QB} (h:Q[k]? = some y) {b:Bd} (hb:Like y (b,y.2)):eU Q (EL Q k b):=by
 rw [wE h];refine ⟨by simp,fun j z hz=>?_⟩
 by_cases e:k=j
 ·subst e;rw [h] at hz;cases hz;have hk:k<Q.length:=(List.getElem?_eq_some_iff.1 h).1;exact ⟨_,by rw [List.getElem?_set_self hk],hb⟩
 ·exact ⟨z,by rw [List.getElem?_set_ne e];exact hz,.refl z⟩
theorem eU.qB {Q Q':List QB} (h:eU Q Q') (i:Int):(Go.Proofs.YtokgmcomgflloaaGreat.qB Q' i).px=(Go.Proofs.YtokgmcomgflloaaGreat.qB Q i).px∧(Go.Proofs.YtokgmcomgflloaaGreat.qB Q' i).py=(Go.Proofs.YtokgmcomgflloaaGreat.qB Q i).py∧(Go.Proofs.YtokgmcomgflloaaGreat.qB Q' i).ang=(Go.Proofs.YtokgmcomgflloaaGreat.qB Q i).ang∧(Go.Proofs.YtokgmcomgflloaaGreat.qB Q' i).mass=(Go.Proofs.YtokgmcomgflloaaGreat.qB Q i).mass:=by
 unfold Go.Proofs.YtokgmcomgflloaaGreat.qB
 rcases hq:Q[i.toNat]? with _ | y
 ·have : Q'[i.toNat]? = none := by rw [List.getElem?_eq_none_iff] at hq ⊢; rw [h.len]; exact hq
  rw [this];exact ⟨rfl,rfl,rfl,rfl⟩
 ·obtain ⟨y', e, l⟩ := h.at_ _ y hq;rw [e];exact ⟨l.px,l.py,l.ang,l.mass⟩
theorem eU.wX {Q Q':List QB} (h:eU Q Q') (i:Int) (p q:Int):Go.Proofs.YtokgmcomgflloaaGreat.wX (Go.Proofs.YtokgmcomgflloaaGreat.qB Q' i) p q=Go.Proofs.YtokgmcomgflloaaGreat.wX (Go.Proofs.YtokgmcomgflloaaGreat.qB Q i) p q:=by
 obtain ⟨h1,h2,h3,h4⟩:=h.qB i;unfold Go.Proofs.YtokgmcomgflloaaGreat.wX;rw [h1,h3]
theorem eU.wY {Q Q':List QB} (h:eU Q Q') (i:Int) (p q:Int):Go.Proofs.YtokgmcomgflloaaGreat.wY (Go.Proofs.YtokgmcomgflloaaGreat.qB Q' i) p q=Go.Proofs.YtokgmcomgflloaaGreat.wY (Go.Proofs.YtokgmcomgflloaaGreat.qB Q i) p q:=by
 obtain ⟨h1,h2,h3,h4⟩:=h.qB i;unfold Go.Proofs.YtokgmcomgflloaaGreat.wY;rw [h2,h3]
theorem yH {Q:List QB} {ka kb:Nat} (ha:ka<Q.length) (hb:kb<Q.length) (hab:ka≠kb) (p1 p2 q1 q2 j1 j2:Int):eU Q (pK Q ka kb p1 p2 q1 q2 j1 j2):=by
 have e1:Q[ka]? = some Q[ka]:=List.getElem?_eq_getElem ha;have e2:Q[kb]? = some Q[kb]:=List.getElem?_eq_getElem hb;unfold pK;rw [iY rfl e1,iY rfl e2];refine (eU.put e1 (Like.push _ _ _ _ _)).trans (eU.put (y:=Q[kb]) ?_ (Like.push _ _ _ _ _));rw [wE e1,List.getElem?_set_ne hab];exact e2
theorem FH {Q:List QB} {ka kb:Nat} (ha:ka<Q.length) (hb:kb<Q.length) (hab:ka≠kb) (p1 p2 q1 q2 v1 v2 gap st:Int):eU Q (qO Q ka kb p1 p2 q1 q2 v1 v2 gap st):=by
 unfold qO
 split
 ·exact .refl Q
 ·exact yH ha hb hab _ _ _ _ _ _

def GX (Q:List QB) (x:Jt):Int:=dI (wX (qB Q x.b) x.q1 x.q2) (wX (qB Q x.a) x.p1 x.p2)
def IW (Q:List QB) (x:Jt):Int:=dI (wY (qB Q x.b) x.q1 x.q2) (wY (qB Q x.a) x.p1 x.p2)
def jE (Q:List QB) (x:Jt) (v1 v2 gap st:Int):List QB:=qO Q x.a.toNat x.b.toNat (wX (qB Q x.a) x.p1 x.p2) (wY (qB Q x.a) x.p1 x.p2) (wX (qB Q x.b) x.q1 x.q2) (wY (qB Q x.b) x.q1 x.q2) v1 v2 gap st
def OG (d1 d2:Int):Int:=if d1=0∧d2=0 then 65536 else ko d1 d2
def OE (d1 d2:Int):Int:=if d1=0∧d2=0 then 0 else ku d1 d2
def gG (Q:List QB) (x:Jt) (st:Int):List QB :=
 if x.len=0 then jE (jE Q x 65536 0 (GX Q x) st) x 0 65536 (IW Q x) st
 else jE Q x (OG (GX Q x) (IW Q x)) (OE (GX Q x) (IW Q x)) (rE (GX Q x) (IW Q x)-x.len) st

def fA (Q : List QB) (J : List Jt) (st : Int) : Nat → List QB
 | 0=>Q
 | k+1=>match J[k]? with | some x=>gG (fA Q J st k) x st | none=>fA Q J st k
def jV (Q : List QB) (J : List Jt) (st : Int) : Nat → List QB
 | 0=>Q
 | k+1=>fA (jV Q J st k) J st J.length
theorem sN {Q:List QB} {J:List Jt} {st:Int} {k:Nat} {x:Jt} (h:J[k]? = some x):fA Q J st (k+1)=gG (fA Q J st k) x st:=by
 show (match J[k]? with | some x=>gG (fA Q J st k) x st | none=>fA Q J st k)=_;rw [h]
def F8 (n:Nat) (x:Jt):Prop:=0≤x.a∧x.a<x.b∧x.b<(n:Int)
theorem nZ {Q:List QB} {x:Jt} (h:F8 Q.length x) (v1 v2 gap st:Int):eU Q (jE Q x v1 v2 gap st):=by
 obtain ⟨h1,h2,h3⟩:=h;exact FH (by omega) (by omega) (by omega) _ _ _ _ _ _ _ _
theorem uR {Q:List QB} {x:Jt} (h:F8 Q.length x) (st:Int):eU Q (gG Q x st):=by
 unfold gG
 split
 ·have h1 := nZ h 65536 0 (GX Q x) st;exact h1.trans (nZ (by rw [h1.len];exact h) _ _ _ _)
 ·exact nZ h _ _ _ _
theorem oH {Q : List QB} {J : List Jt} (h : ∀ x ∈ J, F8 Q.length x) (st : Int) : ∀ k, eU Q (fA Q J st k)
 | 0=>.refl Q
 | k+1=>by
  have ih:=oH h st k
  rcases hj:J[k]? with _ | x
  ·have:fA Q J st (k+1)=fA Q J st k:=by
    show (match J[k]? with | some x=>gG (fA Q J st k) x st | none=>fA Q J st k)=_;rw [hj]
   rw [this];exact ih
  ·rw [sN hj];refine ih.trans (uR ?_ st);rw [ih.len];exact h x (List.mem_of_getElem? hj)
theorem sV {Q : List QB} {J : List Jt} (h : ∀ x ∈ J, F8 Q.length x) (st : Int) : ∀ k, eU Q (jV Q J st k)
 | 0=>.refl Q
 | k+1=>by
  have ih:=sV h st k
  exact ih.trans (oH (by rw [ih.len];exact h) st _)

theorem pV {L:List BE} (h:L.length≤64) (hv:∀ x ∈ L,aT x.b x.l=0):aZ L=0:=by
 unfold aZ;rw [if_neg (by omega)]
 have:∀ k,k≤L.length→dM L k=0:=fun k=>by
  induction k with
  | zero=>intro _;rfl
  | succ k ih =>
   intro hk;rw [jX (by omega),if_neg (by rw [ih (by omega)];simp)];exact hv _ (List.getElem_mem _)
 exact this _ (Nat.le_refl _)
theorem Ei (L:List BE) (i:Int):zk L i=qB (L.map aF) i:=by
 unfold zk qB;rw [List.getElem?_map]
 rcases L[i.toNat]? with _ | y <;> rfl
theorem xS (L:List BE) {i:Int} (h:i.toNat<L.length):kD L i=(qB (L.map aF) i).mass:=by
 unfold kD qB;rw [List.getElem?_map,List.getElem?_eq_getElem h];rfl

theorem lJ {L L':List BE} (h:eU (L.map aF) (L'.map aF)) (hv:∀ x ∈ L,aT x.b x.l=0):∀ x ∈ L',aT x.b x.l=0:=fun x hx=>by
 obtain ⟨k,hk,rfl⟩:=List.getElem_of_mem hx;have hk':k<L.length:=by have:=h.len;simp at this;omega
 obtain ⟨y',e,l⟩:=h.at_ k (aF L[k]) (by rw [List.getElem?_map,List.getElem?_eq_getElem hk'];rfl);rw [List.getElem?_map,List.getElem?_eq_getElem hk] at e;have e:some (aF L'[k])=some y':=e
 cases e
 exact l.ok (hv _ (List.getElem_mem _))
theorem Gp {L L':List BE} (h:eU (L.map aF) (L'.map aF)) (h64:L.length≤64) (hv:∀ x ∈ L,aT x.b x.l=0) {x:Jt} (hx:Cc L x=0):bS L' [x]=0:=by
 have hlen:L'.length=L.length:=by have:=h.len;simpa using this
 obtain ⟨⟨h1,h2,h3⟩,-,-,-,-⟩:=nC hx;have hb:aZ L'=0:=pV (by omega) (lJ h hv)
 have hj:Cc L' x=0:=by
  unfold Cc at hx ⊢;rw [hlen]
  have e:∀ i:Int,i.toNat<L.length→kD L' i=kD L i:=fun i hi=>by
   rw [xS L' (by omega),xS L hi,(h.qB i).2.2.2]
  rw [e x.a (by omega),e x.b (by omega)];exact hx
 unfold bS;rw [if_neg (by simp [hb]),if_neg (by simp)];show uq L' [x] (0+1)=0;rw [zX (by simp) rfl];exact hj
theorem MP (a b c d:Int) : -1099511627776≤IG a b c d∧IG a b c d≤1099511627776:=eD _
structure Ct where
 a:Int
 b:Int
 id:Int
 px:Int
 py:Int
 nx:Int
 ny:Int
 dep:Int
 push:Int
 sli:Int
def nP (x:Ct):List Value:=[.int .i64 x.a,.int .i64 x.b,.int .i64 x.id,.int .i64 x.px,.int .i64 x.py,.int .i64 x.nx,.int .i64 x.ny,.int .i64 x.dep,.int .i64 x.push,.int .i64 x.sli]
def bZ:Lay Ct:=⟨nP,10,fun _=>rfl,fun x v hv=>by simp only [nP,List.mem_cons,List.mem_nil_iff,or_false] at hv;rcases hv with rfl | rfl | rfl | rfl | rfl | rfl | rfl | rfl | rfl | rfl <;> rfl,by omega⟩
abbrev OO (x:Ct):Value:=.agg #[.int .i64 x.a,.int .i64 x.b,.int .i64 x.id,.int .i64 x.px,.int .i64 x.py,.int .i64 x.nx,.int .i64 x.ny,.int .i64 x.dep,.int .i64 x.push,.int .i64 x.sli]
theorem Bh:(Tryz.prog.info? 106).map (fun i=>(i.zero,i.size,i.bytes))=some (some (.agg #[.int .i64 0,.int .i64 0,.int .i64 0,.int .i64 0,.int .i64 0,.int .i64 0,.int .i64 0,.int .i64 0,.int .i64 0,.int .i64 0]),10,80):=by kernel_rfl
theorem zK:IY bZ 31 106 80:=⟨Tryz.underlying31,by obtain ⟨i0,hi,hz0,hz1,hz2⟩:=info_parts Bh;exact ⟨i0,_,hi,hz0,hz1,hz2,rfl⟩⟩
theorem kr {b off k:Nat} {l:List Ct} {x:Ct} (h:aJ bZ w b off l) (hk:k<l.length) (hx:x=l[k]):w.cell? ⟨b,off+k*10,none⟩=some (.int .i64 x.a)∧w.cell? ⟨b,off+k*10+1,none⟩=some (.int .i64 x.b)∧w.cell? ⟨b,off+k*10+2,none⟩=some (.int .i64 x.id)∧w.cell? ⟨b,off+k*10+3,none⟩=some (.int .i64 x.px)∧w.cell? ⟨b,off+k*10+4,none⟩=some (.int .i64 x.py)∧w.cell? ⟨b,off+k*10+5,none⟩=some (.int .i64 x.nx)∧w.cell? ⟨b,off+k*10+6,none⟩=some (.int .i64 x.ny)∧w.cell? ⟨b,off+k*10+7,none⟩=some (.int .i64 x.dep)∧w.cell? ⟨b,off+k*10+8,none⟩=some (.int .i64 x.push)∧w.cell? ⟨b,off+k*10+9,none⟩=some (.int .i64 x.sli):=by
 subst hx;exact ⟨h.at_ k hk 0 _ rfl,h.at_ k hk 1 _ rfl,h.at_ k hk 2 _ rfl,h.at_ k hk 3 _ rfl,h.at_ k hk 4 _ rfl,h.at_ k hk 5 _ rfl,h.at_ k hk 6 _ rfl,h.at_ k hk 7 _ rfl,h.at_ k hk 8 _ rfl,h.at_ k hk 9 _ rfl⟩
theorem Bf {g:Nat} {x:Ct} (h0:w.cell? ⟨g,0,none⟩=some (.int .i64 x.a)) (h1:w.cell? ⟨g,1,none⟩=some (.int .i64 x.b)) (h2:w.cell? ⟨g,2,none⟩=some (.int .i64 x.id)) (h3:w.cell? ⟨g,3,none⟩=some (.int .i64 x.px)) (h4:w.cell? ⟨g,4,none⟩=some (.int .i64 x.py)) (h5:w.cell? ⟨g,5,none⟩=some (.int .i64 x.nx)) (h6:w.cell? ⟨g,6,none⟩=some (.int .i64 x.ny)) (h7:w.cell? ⟨g,7,none⟩=some (.int .i64 x.dep)) (h8:w.cell? ⟨g,8,none⟩=some (.int .i64 x.push)) (h9:w.cell? ⟨g,9,none⟩=some (.int .i64 x.sli)):aJ bZ w g 0 [x]:=by
 refine ⟨lt_of_cell h0,fun j hj i v hv=>?_⟩;have hj0:j=0:=by simpa using hj
 subst hj0;rw [Nat.zero_mul,Nat.zero_add]
 try rw [Nat.zero_add]
 have hv:(nP x)[i]? = some v:=hv;unfold nP at hv
 match i,hv with
 | 0,hv=>have e:some _=some v:=hv;cases e;exact h0
 | 1,hv=>have e:some _=some v:=hv;cases e;exact h1
 | 2,hv=>have e:some _=some v:=hv;cases e;exact h2
 | 3,hv=>have e:some _=some v:=hv;cases e;exact h3
 | 4,hv=>have e:some _=some v:=hv;cases e;exact h4
 | 5,hv=>have e:some _=some v:=hv;cases e;exact h5
 | 6,hv=>have e:some _=some v:=hv;cases e;exact h6
 | 7,hv=>have e:some _=some v:=hv;cases e;exact h7
 | 8,hv=>have e:some _=some v:=hv;cases e;exact h8
 | 9,hv=>have e:some _=some v:=hv;cases e;exact h9
 | i+10,hv=>simp at hv

def fT (n:Nat) (x:Ct):Prop:=(0≤x.a∧x.a<x.b∧x.b<(n:Int)∧0≤x.id)∧(-65536000≤x.px∧x.px≤65536000 ∧ -65536000≤x.py∧x.py≤65536000)∧(-65536≤x.nx∧x.nx≤65536 ∧ -65536≤x.ny∧x.ny≤65536)∧(0≤x.dep∧x.dep≤65536000)∧(0≤x.push∧x.push≤1099511627776)∧(-1099511627776≤x.sli∧x.sli≤1099511627776)
instance (n:Nat) (x:Ct):Decidable (fT n x):=by unfold fT;infer_instance
def MC (n:Nat) (x:Ct):Int:=if fT n x then 0 else 1
def vY (n:Nat) (C:List Ct) (k:Nat):Int:=fU (fun i=>match C[i]? with | some x=>MC n x | none=>0) k
def bg (L:List BE) (C:List Ct):Int:=if aZ L≠0 then aZ L else if 4096<C.length then 2 else vY L.length C C.length
theorem zL {n:Nat} {C:List Ct} {k:Nat} (hk:k<C.length) (hz:vY n C k=0):vY n C (k+1)=MC n C[k]:=by
 have e:vY n C (k+1)=if vY n C k≠0 then vY n C k else match C[k]? with | some x=>MC n x | none=>0:=rfl
 rw [e,if_neg (by simp [hz]),List.getElem?_eq_getElem hk]
theorem IJ {n:Nat} {C:List Ct} {k:Nat} {e:Int} (hk:k<C.length) (h:vY n C (k+1)=e) (he:e≠0):vY n C C.length=e:=by
 rw [← h];exact oq _ (by have h2:fU _ (k+1)=e:=h;rw [h2];exact he) hk
theorem fV {L:List BE} {C:List Ct} (h:bg L C=0):aZ L=0∧C.length≤4096∧∀ x ∈ C,fT L.length x:=by
 unfold bg at h
 by_cases h0:aZ L=0
 ·rw [if_neg (by simp [h0])] at h
  by_cases h1:4096<C.length
  ·rw [if_pos h1] at h;cases h
  ·rw [if_neg h1] at h;refine ⟨h0,by omega,fun x hx=>?_⟩;obtain ⟨k,hk,rfl⟩:=List.getElem_of_mem hx;have h3:=nQ h k hk;have h3:MC L.length C[k]=0:=by simpa [hk] using h3
   unfold MC at h3
   by_cases g:fT L.length C[k]
   ·exact g
   ·rw [if_neg g] at h3;cases h3
 ·rw [if_pos h0] at h;exact absurd h h0
theorem fK (n l h:Int) (w:World):Calls Tryz.prog 129 #[.int .i64 n,.int .i64 l,.int .i64 h] w (dG (.bool (iA n l h)) w):=by
 go_enter Tryz.func129,Tryz.ntmps129
 by_cases h1:l≤n
 ·by_cases h2 : n ≤ h
  ·have HR : Hid (iA n l h = true) := bX.2 ⟨h1, h2⟩;go_wp2
   go_returns
   exact bR (by rw [HR.out];try simp [*]) (by go_grown)
  ·have HR : Hid (iA n l h = false) := by show _ = _; unfold iA; simp [h1, h2]
   go_wp2
   go_returns
   exact bR (by rw [HR.out];try simp [*]) (by go_grown)
 ·have HR : Hid (iA n l h = false) := by show _ = _; unfold iA; simp [h1]
  go_wp2
  go_returns
  exact bR (by rw [HR.out];try simp [*]) (by go_grown)
theorem rZ (A B:Option Addr) (n c n' c':Nat) (L:List BE) (C:List Ct) (w:World) (hS:iH w A n c L) (hC:dW bZ w B n' c' C) :
  Calls Tryz.prog 58 #[.slice A n c,.slice B n' c'] w (dG (.int .i64 (bg L C)) w):=by
 have hn:=hS.sl.len;have hcap:=hS.sl.cap;have hbig:=hS.sl.big;have hn':=hC.len;have hcap':=hC.cap;have hbig':=hC.big;subst hn hn';have HSC:=hid (fun (w':World) (hb:Below w.heap.size w w')=>hC.below hb);have HCK:=hid (nL A L.length c L w hS);clear hS hC
 go_enter Tryz.func58,Tryz.ntmps58
 go_wp2_with fail
 refine HCK.out.mono ?_;rintro e w1 ⟨rfl,hB⟩;clear HCK
 by_cases hE:aZ L=0
 case neg =>
  have HR:Hid (bg L C=aZ L):=by show _=_;unfold bg;rw [if_pos hE]
  have hne:(aZ L != 0)=true:=by simp [hE]
  generalize aZ L=z at *
  go_wp2
  go_returns
  exact aB HR.out.symm hB
 by_cases h96:4096<C.length
 ·have HR : Hid (bg L C = 2) := by show _ = _; unfold bg; rw [if_neg (by simp [hE]), if_pos h96]
  rw [hE];clear hE;go_wp2
  go_returns
  exact aB HR.out.symm hB
 have HCE:Hid (bg L C=vY L.length C C.length):=by show _=_;unfold bg;rw [if_neg (by simp [hE]),if_neg h96]
 have h64:=(eY hE).1;rw [hE];clear hE;go_wp2
 go_loopw [19] (fun i wr=>∃ k:Nat,k≤C.length∧i = .int .i64 k∧vY L.length C k=0∧Below w.heap.size w wr) (fun i _=>C.length-(intOf i).toNat)
 case atStart=>exact ⟨0,Nat.zero_le _,rfl,rfl,hB⟩
 case round =>
  clear hB;obtain ⟨k,hk,rfl,hz,hB⟩:=hrel;obtain ⟨wo,rfl⟩:∃ wo:World,wo=wr:=⟨_,rfl⟩
  by_cases hlt:k<C.length
  ·obtain ⟨ba, off, hA, hCC⟩ := (HSC.out _ hB).at_ (by intro h; subst h; simp at hlt);subst hA;have HST:Hid (vY L.length C (k+1)=MC L.length C[k]):=zL hlt hz;have HF0:Hid (¬ fT L.length C[k]→bg L C=1):=fun h=>by rw [HCE.out];exact IJ hlt (by rw [HST.out];unfold MC;rw [if_neg h]) (by decide)
   obtain ⟨x,hx⟩:∃ x,x=C[k]:=⟨_,rfl⟩;obtain ⟨d0,d1,d2,d3,d4,d5,d6,d7,d8,d9⟩:=kr hCC hlt hx;rw [← hx] at HST HF0;have hbo:=hCC.lt;have hlt':(k:Int)<(C.length:Int):=by omega
   have hkw:IntKind.i64.wrap ((k:Int)+1)=(k:Int)+1:=IntWalk.i64_in _ (by omega);have hn1:IntKind.i64.wrap ((L.length:Int)-1)=(L.length:Int)-1:=IntWalk.i64_in _ (by omega);have HF:=HF0;clear hCC hx hz HF0;obtain ⟨wj,hwj⟩:∃ wj,wj=wo.alloc (.cells #[.int .i64 x.a,.int .i64 x.b,.int .i64 x.id,.int .i64 x.px,.int .i64 x.py,.int .i64 x.nx,.int .i64 x.ny,.int .i64 x.dep,.int .i64 x.push,.int .i64 x.sli] 106):=⟨_,rfl⟩;have hBw:Below w.heap.size w wj:=by rw [hwj];exact hB.alloc hB.size _
   have j0:wj.cell? ⟨wo.heap.size,0,none⟩=some (.int .i64 x.a):=by rw [hwj];go_simp
   have j1:wj.cell? ⟨wo.heap.size,1,none⟩=some (.int .i64 x.b):=by rw [hwj];go_simp
   have j2:wj.cell? ⟨wo.heap.size,2,none⟩=some (.int .i64 x.id):=by rw [hwj];go_simp
   have j3:wj.cell? ⟨wo.heap.size,3,none⟩=some (.int .i64 x.px):=by rw [hwj];go_simp
   have j4:wj.cell? ⟨wo.heap.size,4,none⟩=some (.int .i64 x.py):=by rw [hwj];go_simp
   have j5:wj.cell? ⟨wo.heap.size,5,none⟩=some (.int .i64 x.nx):=by rw [hwj];go_simp
   have j6:wj.cell? ⟨wo.heap.size,6,none⟩=some (.int .i64 x.ny):=by rw [hwj];go_simp
   have j7:wj.cell? ⟨wo.heap.size,7,none⟩=some (.int .i64 x.dep):=by rw [hwj];go_simp
   have j8:wj.cell? ⟨wo.heap.size,8,none⟩=some (.int .i64 x.push):=by rw [hwj];go_simp
   have j9:wj.cell? ⟨wo.heap.size,9,none⟩=some (.int .i64 x.sli):=by rw [hwj];go_simp
   go_upto_region 10 with fail
   rw [← hwj];clear hwj d0 d1 d2 d3 d4 d5 d6 d7 d8 d9 hbo hB;have hB:=hBw;clear hBw
   by_cases g0:iA x.a 0 ((L.length:Int)-1)=true
   case neg =>
    have H1:Hid (iA x.a 0 ((L.length:Int)-1)=false):=by show _=_;simpa using g0
    have HR:=hid (HF.out (by unfold fT;intro hc;exact g0 (bX.2 (by omega))));clear HF;have H2:Hid True:=trivial;have H3:Hid True:=trivial;have H4:Hid True:=trivial;have H5:Hid True:=trivial;have H6:Hid True:=trivial;have H7:Hid True:=trivial;have H8:Hid True:=trivial;have H9:Hid True:=trivial
    go_wp2_with (first | (go_at_call 129;refine (fK _ _ _ _).mono ?_;rintro e wn ⟨rfl,hb⟩;(try rw [H1.out]);(try rw [H2.out]);(try rw [H3.out]);(try rw [H4.out]);(try rw [H5.out]);(try rw [H6.out]);(try rw [H7.out]);(try rw [H8.out]);(try rw [H9.out]);replace hB:=aj hb hB;replace j0:=keepCell hb j0;replace j1:=keepCell hb j1;replace j2:=keepCell hb j2;replace j3:=keepCell hb j3;replace j4:=keepCell hb j4;replace j5:=keepCell hb j5;replace j6:=keepCell hb j6;replace j7:=keepCell hb j7;replace j8:=keepCell hb j8;replace j9:=keepCell hb j9;clear hb))
    go_returns
    exact aB HR.out.symm hB
   have H1:Hid (iA x.a 0 ((L.length:Int)-1)=true):=g0;rw [bX] at g0
   by_cases g1:iA x.b 0 ((L.length:Int)-1)=true
   case neg =>
    have H2:Hid (iA x.b 0 ((L.length:Int)-1)=false):=by show _=_;simpa using g1
    have HR:=hid (HF.out (by unfold fT;intro hc;exact g1 (bX.2 (by omega))));clear HF;have H3:Hid True:=trivial;have H4:Hid True:=trivial;have H5:Hid True:=trivial;have H6:Hid True:=trivial;have H7:Hid True:=trivial;have H8:Hid True:=trivial;have H9:Hid True:=trivial
    go_wp2_with (first | (go_at_call 129;refine (fK _ _ _ _).mono ?_;rintro e wn ⟨rfl,hb⟩;(try rw [H1.out]);(try rw [H2.out]);(try rw [H3.out]);(try rw [H4.out]);(try rw [H5.out]);(try rw [H6.out]);(try rw [H7.out]);(try rw [H8.out]);(try rw [H9.out]);replace hB:=aj hb hB;replace j0:=keepCell hb j0;replace j1:=keepCell hb j1;replace j2:=keepCell hb j2;replace j3:=keepCell hb j3;replace j4:=keepCell hb j4;replace j5:=keepCell hb j5;replace j6:=keepCell hb j6;replace j7:=keepCell hb j7;replace j8:=keepCell hb j8;replace j9:=keepCell hb j9;clear hb))
    go_returns
    exact aB HR.out.symm hB
   have H2:Hid (iA x.b 0 ((L.length:Int)-1)=true):=g1;rw [bX] at g1
   by_cases g2:x.b≤x.a
   ·have HR := hid (HF.out (by unfold fT; omega));clear HF;have H3:Hid True:=trivial;have H4:Hid True:=trivial;have H5:Hid True:=trivial;have H6:Hid True:=trivial;have H7:Hid True:=trivial;have H8:Hid True:=trivial;have H9:Hid True:=trivial
    go_wp2_with (first | (go_at_call 129;refine (fK _ _ _ _).mono ?_;rintro e wn ⟨rfl,hb⟩;(try rw [H1.out]);(try rw [H2.out]);(try rw [H3.out]);(try rw [H4.out]);(try rw [H5.out]);(try rw [H6.out]);(try rw [H7.out]);(try rw [H8.out]);(try rw [H9.out]);replace hB:=aj hb hB;replace j0:=keepCell hb j0;replace j1:=keepCell hb j1;replace j2:=keepCell hb j2;replace j3:=keepCell hb j3;replace j4:=keepCell hb j4;replace j5:=keepCell hb j5;replace j6:=keepCell hb j6;replace j7:=keepCell hb j7;replace j8:=keepCell hb j8;replace j9:=keepCell hb j9;clear hb))
    go_returns
    exact aB HR.out.symm hB
   by_cases g3:x.id<0
   ·have HR := hid (HF.out (by unfold fT; omega));clear HF;have H3:Hid True:=trivial;have H4:Hid True:=trivial;have H5:Hid True:=trivial;have H6:Hid True:=trivial;have H7:Hid True:=trivial;have H8:Hid True:=trivial;have H9:Hid True:=trivial
    go_wp2_with (first | (go_at_call 129;refine (fK _ _ _ _).mono ?_;rintro e wn ⟨rfl,hb⟩;(try rw [H1.out]);(try rw [H2.out]);(try rw [H3.out]);(try rw [H4.out]);(try rw [H5.out]);(try rw [H6.out]);(try rw [H7.out]);(try rw [H8.out]);(try rw [H9.out]);replace hB:=aj hb hB;replace j0:=keepCell hb j0;replace j1:=keepCell hb j1;replace j2:=keepCell hb j2;replace j3:=keepCell hb j3;replace j4:=keepCell hb j4;replace j5:=keepCell hb j5;replace j6:=keepCell hb j6;replace j7:=keepCell hb j7;replace j8:=keepCell hb j8;replace j9:=keepCell hb j9;clear hb))
    go_returns
    exact aB HR.out.symm hB
   by_cases g4:iA x.px (-65536000) 65536000=true
   case neg =>
    have H3:Hid (iA x.px (-65536000) 65536000=false):=by show _=_;simpa using g4
    have HR:=hid (HF.out (by unfold fT;intro hc;exact g4 (bX.2 (by omega))));clear HF;have H4:Hid True:=trivial;have H5:Hid True:=trivial;have H6:Hid True:=trivial;have H7:Hid True:=trivial;have H8:Hid True:=trivial;have H9:Hid True:=trivial
    go_wp2_with (first | (go_at_call 129;refine (fK _ _ _ _).mono ?_;rintro e wn ⟨rfl,hb⟩;(try rw [H1.out]);(try rw [H2.out]);(try rw [H3.out]);(try rw [H4.out]);(try rw [H5.out]);(try rw [H6.out]);(try rw [H7.out]);(try rw [H8.out]);(try rw [H9.out]);replace hB:=aj hb hB;replace j0:=keepCell hb j0;replace j1:=keepCell hb j1;replace j2:=keepCell hb j2;replace j3:=keepCell hb j3;replace j4:=keepCell hb j4;replace j5:=keepCell hb j5;replace j6:=keepCell hb j6;replace j7:=keepCell hb j7;replace j8:=keepCell hb j8;replace j9:=keepCell hb j9;clear hb))
    go_returns
    exact aB HR.out.symm hB
   have H3:Hid (iA x.px (-65536000) 65536000=true):=g4;rw [bX] at g4
   by_cases g5:iA x.py (-65536000) 65536000=true
   case neg =>
    have H4:Hid (iA x.py (-65536000) 65536000=false):=by show _=_;simpa using g5
    have HR:=hid (HF.out (by unfold fT;intro hc;exact g5 (bX.2 (by omega))));clear HF;have H5:Hid True:=trivial;have H6:Hid True:=trivial;have H7:Hid True:=trivial;have H8:Hid True:=trivial;have H9:Hid True:=trivial
    go_wp2_with (first | (go_at_call 129;refine (fK _ _ _ _).mono ?_;rintro e wn ⟨rfl,hb⟩;(try rw [H1.out]);(try rw [H2.out]);(try rw [H3.out]);(try rw [H4.out]);(try rw [H5.out]);(try rw [H6.out]);(try rw [H7.out]);(try rw [H8.out]);(try rw [H9.out]);replace hB:=aj hb hB;replace j0:=keepCell hb j0;replace j1:=keepCell hb j1;replace j2:=keepCell hb j2;replace j3:=keepCell hb j3;replace j4:=keepCell hb j4;replace j5:=keepCell hb j5;replace j6:=keepCell hb j6;replace j7:=keepCell hb j7;replace j8:=keepCell hb j8;replace j9:=keepCell hb j9;clear hb))
    go_returns
    exact aB HR.out.symm hB
   have H4:Hid (iA x.py (-65536000) 65536000=true):=g5;rw [bX] at g5
   by_cases g6:iA x.nx (-65536) 65536=true
   case neg =>
    have H5:Hid (iA x.nx (-65536) 65536=false):=by show _=_;simpa using g6
    have HR:=hid (HF.out (by unfold fT;intro hc;exact g6 (bX.2 (by omega))));clear HF;have H6:Hid True:=trivial;have H7:Hid True:=trivial;have H8:Hid True:=trivial;have H9:Hid True:=trivial
    go_wp2_with (first | (go_at_call 129;refine (fK _ _ _ _).mono ?_;rintro e wn ⟨rfl,hb⟩;(try rw [H1.out]);(try rw [H2.out]);(try rw [H3.out]);(try rw [H4.out]);(try rw [H5.out]);(try rw [H6.out]);(try rw [H7.out]);(try rw [H8.out]);(try rw [H9.out]);replace hB:=aj hb hB;replace j0:=keepCell hb j0;replace j1:=keepCell hb j1;replace j2:=keepCell hb j2;replace j3:=keepCell hb j3;replace j4:=keepCell hb j4;replace j5:=keepCell hb j5;replace j6:=keepCell hb j6;replace j7:=keepCell hb j7;replace j8:=keepCell hb j8;replace j9:=keepCell hb j9;clear hb))
    go_returns
    exact aB HR.out.symm hB
   have H5:Hid (iA x.nx (-65536) 65536=true):=g6;rw [bX] at g6
   by_cases g7:iA x.ny (-65536) 65536=true
   case neg =>
    have H6:Hid (iA x.ny (-65536) 65536=false):=by show _=_;simpa using g7
    have HR:=hid (HF.out (by unfold fT;intro hc;exact g7 (bX.2 (by omega))));clear HF;have H7:Hid True:=trivial;have H8:Hid True:=trivial;have H9:Hid True:=trivial
    go_wp2_with (first | (go_at_call 129;refine (fK _ _ _ _).mono ?_;rintro e wn ⟨rfl,hb⟩;(try rw [H1.out]);(try rw [H2.out]);(try rw [H3.out]);(try rw [H4.out]);(try rw [H5.out]);(try rw [H6.out]);(try rw [H7.out]);(try rw [H8.out]);(try rw [H9.out]);replace hB:=aj hb hB;replace j0:=keepCell hb j0;replace j1:=keepCell hb j1;replace j2:=keepCell hb j2;replace j3:=keepCell hb j3;replace j4:=keepCell hb j4;replace j5:=keepCell hb j5;replace j6:=keepCell hb j6;replace j7:=keepCell hb j7;replace j8:=keepCell hb j8;replace j9:=keepCell hb j9;clear hb))
    go_returns
    exact aB HR.out.symm hB
   have H6:Hid (iA x.ny (-65536) 65536=true):=g7;rw [bX] at g7
   by_cases g8:iA x.dep 0 65536000=true
   case neg =>
    have H7:Hid (iA x.dep 0 65536000=false):=by show _=_;simpa using g8
    have HR:=hid (HF.out (by unfold fT;intro hc;exact g8 (bX.2 (by omega))));clear HF;have H8:Hid True:=trivial;have H9:Hid True:=trivial
    go_wp2_with (first | (go_at_call 129;refine (fK _ _ _ _).mono ?_;rintro e wn ⟨rfl,hb⟩;(try rw [H1.out]);(try rw [H2.out]);(try rw [H3.out]);(try rw [H4.out]);(try rw [H5.out]);(try rw [H6.out]);(try rw [H7.out]);(try rw [H8.out]);(try rw [H9.out]);replace hB:=aj hb hB;replace j0:=keepCell hb j0;replace j1:=keepCell hb j1;replace j2:=keepCell hb j2;replace j3:=keepCell hb j3;replace j4:=keepCell hb j4;replace j5:=keepCell hb j5;replace j6:=keepCell hb j6;replace j7:=keepCell hb j7;replace j8:=keepCell hb j8;replace j9:=keepCell hb j9;clear hb))
    go_returns
    exact aB HR.out.symm hB
   have H7:Hid (iA x.dep 0 65536000=true):=g8;rw [bX] at g8
   by_cases g9:iA x.push 0 1099511627776=true
   case neg =>
    have H8:Hid (iA x.push 0 1099511627776=false):=by show _=_;simpa using g9
    have HR:=hid (HF.out (by unfold fT;intro hc;exact g9 (bX.2 (by omega))));clear HF;have H9:Hid True:=trivial
    go_wp2_with (first | (go_at_call 129;refine (fK _ _ _ _).mono ?_;rintro e wn ⟨rfl,hb⟩;(try rw [H1.out]);(try rw [H2.out]);(try rw [H3.out]);(try rw [H4.out]);(try rw [H5.out]);(try rw [H6.out]);(try rw [H7.out]);(try rw [H8.out]);(try rw [H9.out]);replace hB:=aj hb hB;replace j0:=keepCell hb j0;replace j1:=keepCell hb j1;replace j2:=keepCell hb j2;replace j3:=keepCell hb j3;replace j4:=keepCell hb j4;replace j5:=keepCell hb j5;replace j6:=keepCell hb j6;replace j7:=keepCell hb j7;replace j8:=keepCell hb j8;replace j9:=keepCell hb j9;clear hb))
    go_returns
    exact aB HR.out.symm hB
   have H8:Hid (iA x.push 0 1099511627776=true):=g9;rw [bX] at g9
   by_cases g10:iA x.sli (-1099511627776) 1099511627776=true
   case neg =>
    have H9:Hid (iA x.sli (-1099511627776) 1099511627776=false):=by show _=_;simpa using g10
    have HR:=hid (HF.out (by unfold fT;intro hc;exact g10 (bX.2 (by omega))));clear HF
    go_wp2_with (first | (go_at_call 129;refine (fK _ _ _ _).mono ?_;rintro e wn ⟨rfl,hb⟩;(try rw [H1.out]);(try rw [H2.out]);(try rw [H3.out]);(try rw [H4.out]);(try rw [H5.out]);(try rw [H6.out]);(try rw [H7.out]);(try rw [H8.out]);(try rw [H9.out]);replace hB:=aj hb hB;replace j0:=keepCell hb j0;replace j1:=keepCell hb j1;replace j2:=keepCell hb j2;replace j3:=keepCell hb j3;replace j4:=keepCell hb j4;replace j5:=keepCell hb j5;replace j6:=keepCell hb j6;replace j7:=keepCell hb j7;replace j8:=keepCell hb j8;replace j9:=keepCell hb j9;clear hb))
    go_returns
    exact aB HR.out.symm hB
   have H9:Hid (iA x.sli (-1099511627776) 1099511627776=true):=g10;rw [bX] at g10;have HOK:Hid (MC L.length x=0):=by show _=_;unfold MC;rw [if_pos (by unfold fT;omega)]
   clear HF
   go_wp2_with (first | (go_at_call 129;refine (fK _ _ _ _).mono ?_;rintro e wn ⟨rfl,hb⟩;(try rw [H1.out]);(try rw [H2.out]);(try rw [H3.out]);(try rw [H4.out]);(try rw [H5.out]);(try rw [H6.out]);(try rw [H7.out]);(try rw [H8.out]);(try rw [H9.out]);replace hB:=aj hb hB;replace j0:=keepCell hb j0;replace j1:=keepCell hb j1;replace j2:=keepCell hb j2;replace j3:=keepCell hb j3;replace j4:=keepCell hb j4;replace j5:=keepCell hb j5;replace j6:=keepCell hb j6;replace j7:=keepCell hb j7;replace j8:=keepCell hb j8;replace j9:=keepCell hb j9;clear hb))
   go_roundw
   case rel=>exact ⟨k+1,by omega,by go_num,by rw [HST.out,HOK.out],hB⟩
   case measure=>simp [intOf] <;> omega
  ·have hkn : k = C.length := by omega
   subst hkn;have HR:Hid (bg L C=0):=by show _=_;rw [HCE.out];exact hz
   clear hz;go_wp2
   go_returns
   exact aB HR.out.symm hB
end
end Go.Proofs.YtokgmcomgflloaaGreat
