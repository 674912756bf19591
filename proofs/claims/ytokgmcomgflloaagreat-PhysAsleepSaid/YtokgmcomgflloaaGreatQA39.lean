/- Parts of a proof: contracts and laws. -/
import Derived.Test.YtokgmcomgflloaaGreatQA20
import Derived.Test.YtokgmcomgflloaaGreatQA23
import Derived.Test.YtokgmcomgflloaaGreatQA24
import Derived.Test.YtokgmcomgflloaaGreatQA26
import Derived.Test.YtokgmcomgflloaaGreatQA35
import Derived.Test.YtokgmcomgflloaaGreatQA36
import Derived.Test.YtokgmcomgflloaaGreatQA21
import Derived.Test.YtokgmcomgflloaaGreatQA10
import Derived.Test.YtokgmcomgflloaaGreatQA38
import Derived.Test.YtokgmcomgflloaaGreatQA02
set_option maxRecDepth 100000
set_option maxHeartbeats 16000000
namespace Go.Proofs.YtokgmcomgflloaaGreat
section
set_option linter.unusedVariables false
set_option linter.unusedSimpArgs false
open Go.RowKit
variable {w0 w w':World}

structure ZS (g : Nat) (v0 v1 v2 : Value) (gx gy st : Int) (w : World) : Prop where
 z0:w.cell? ⟨g,0,none⟩=some v0
 z1:w.cell? ⟨g,1,none⟩=some v1
 z2:w.cell? ⟨g,2,none⟩=some v2
 z3:w.cell? ⟨g,3,none⟩=some (.int .i64 gx)
 z4:w.cell? ⟨g,4,none⟩=some (.int .i64 gy)
 z5:w.cell? ⟨g,5,none⟩=some (.int .i64 st)
theorem ZS.keep {g:Nat} {v0 v1 v2:Value} {gx gy st:Int} {w w':World} (hb:Below w.heap.size w w') (h:ZS g v0 v1 v2 gx gy st w):ZS g v0 v1 v2 gx gy st w' :=
 ⟨keepCell hb h.z0,keepCell hb h.z1,keepCell hb h.z2,keepCell hb h.z3,keepCell hb h.z4,keepCell hb h.z5⟩
theorem GL {A:Option Addr} {n c:Nat} {l:List Jt} (hb:Below w.heap.size w w') (h:dW gZ w A n c l):dW gZ w' A n c l:=h.below hb

structure ZF (w : World) (g : Nat) : Prop where
 c:∃ v0 v1 v2 gx gy st,ZS g v0 v1 v2 gx gy st w
 f:∀ j,w.frozen? ⟨g,j,none⟩=false
theorem kF {g:Nat} (hb:Below w.heap.size w w') (h:ZF w g):ZF w' g:=by
 obtain ⟨⟨v0,v1,v2,gx,gy,st,hz⟩,hf⟩:=h;exact ⟨⟨v0,v1,v2,gx,gy,st,hz.keep hb⟩,fun j=>(World.frozen?_of_block (hb.block _ (lt_of_cell hz.z0))).trans (hf j)⟩
theorem ZF.drew {g:Nat} (h:ZF w g):ZF w.drew g:=kF (Below.refl _ _).drew h
theorem ZF.here (w:World) (v0 v1 v2:Value) (gx gy st:Int) (t:TypeId):ZF (w.alloc (.cells #[v0,v1,v2,.int .i64 gx,.int .i64 gy,.int .i64 st] t)) w.heap.size :=
 ⟨⟨v0,v1,v2,gx,gy,st,by go_simp,by go_simp,by go_simp,by go_simp,by go_simp,by go_simp⟩,fun j=>by go_simp⟩
structure Bq (a w : World) : Prop where
 b:Below a.heap.size a w
theorem lQ {a w w':World} (hb:Below w.heap.size w w') (h:Bq a w):Bq a w':=⟨aj hb h.b⟩
theorem Bq.drew {a w:World} (h:Bq a w):Bq a w.drew:=⟨h.b.drew⟩
theorem Out.toBelowD {D:Nat→Prop} {B:Nat} {a b wX:World} (hX:Below B wX a) (h:Out D a b) (hB:B≤a.heap.size) (hD:∀ k,D k→B≤k):Below B wX b :=
 hX.trans ⟨h.os,h.tape,h.output,h.size,fun k hk=>h.block k (by omega) (fun q=>by have:=hD k q;omega)⟩
theorem Out.toBelow {B g:Nat} {a b wX:World} (hX:Below B wX a) (h:Out (fun k=>k=g) a b) (hB:B≤a.heap.size) (hg:B≤g):Below B wX b :=
 hX.trans ⟨h.os,h.tape,h.output,h.size,fun k hk=>h.block k (by omega) (by omega)⟩
theorem ZS.out {D:Nat→Prop} {g:Nat} {v0 v1 v2:Value} {gx gy st:Int} {w w':World} (ho:Out D w w') (hn:¬ D g) (h:ZS g v0 v1 v2 gx gy st w):ZS g v0 v1 v2 gx gy st w' :=
 ⟨ho.cell h.z0 hn,ho.cell h.z1 hn,ho.cell h.z2 hn,ho.cell h.z3 hn,ho.cell h.z4 hn,ho.cell h.z5 hn⟩
theorem ZF.out {D:Nat→Prop} {g:Nat} {w w':World} (ho:Out D w w') (hn:¬ D g) (h:ZF w g):ZF w' g:=by
 obtain ⟨⟨v0,v1,v2,gx,gy,st,hz⟩,hf⟩:=h;exact ⟨⟨v0,v1,v2,gx,gy,st,hz.out ho hn⟩,fun j=>(World.frozen?_of_block (ho.block _ (lt_of_cell hz.z0) hn)).trans (hf j)⟩
theorem dW.outD {α:Type} {Ly:Lay α} {D:Nat→Prop} {w w':World} {A:Option Addr} {n c:Nat} {l:List α} (ho:Out D w w') (h:dW Ly w A n c l) (hn:∀ b off,A=some ⟨b,off,none⟩→b<w.heap.size→¬ D b):dW Ly w' A n c l :=
 ⟨h.len,h.cap,h.big,fun hl=>by
  obtain ⟨b,off,e,hc⟩:=h.at_ hl
  exact ⟨b,off,e,Nat.lt_of_lt_of_le hc.lt ho.size,fun j hj i v hv=>ho.cell (hc.at_ j hj i v hv) (hn b off e hc.lt)⟩⟩
theorem Sl.outD {D:Nat→Prop} {w w':World} {A:Option Addr} {n c:Nat} {l:List V} (ho:Out D w w') (h:Sl w A n c l) (hn:∀ b off,A=some ⟨b,off,none⟩→b<w.heap.size→¬ D b):Sl w' A n c l :=
 ⟨h.len,h.cap,h.big,fun hl=>by
  obtain ⟨b,off,e,hc⟩:=h.at_ hl
  exact ⟨b,off,e,⟨Nat.lt_of_lt_of_le hc.lt ho.size,fun j hj=>ho.cell (hc.x j hj) (hn b off e hc.lt),fun j hj=>ho.cell (hc.y j hj) (hn b off e hc.lt)⟩⟩⟩
theorem iH.outD {D:Nat→Prop} {w w':World} {A:Option Addr} {n c:Nat} {L:List BE} (ho:Out D w w') (h:iH w A n c L) (hn:∀ b off,A=some ⟨b,off,none⟩→b<w.heap.size→¬ D b) (hx:∀ y ∈ L,∀ b off,y.A=some ⟨b,off,none⟩→b<w.heap.size→¬ D b):iH w' A n c L :=
 ⟨h.sl.outD ho hn,fun x hm=>(h.co x hm).outD ho (hx x hm)⟩
theorem F4 {L:List BE} {f:Nat→Nat} {y:BE} (hy:y ∈ jQ L f):∃ z ∈ L,y.A=z.A∧y.l=z.l:=by
 unfold jQ at hy;obtain ⟨i,hi,rfl⟩:=List.mem_mapIdx.1 hy;refine ⟨L[i],List.getElem_mem _,?_⟩;unfold Md
 split <;> exact ⟨rfl,rfl⟩
theorem Ag (L:List BE) (f:Nat→Nat):(jQ L f).length=L.length:=by unfold jQ;simp
theorem FR {L:List BE} {f:Nat→Nat} {y:BE} (hy:y ∈ iP L f):∃ z ∈ L,y.A=z.A∧y.l=z.l:=by
 unfold iP at hy;obtain ⟨i,hi,rfl⟩:=List.mem_mapIdx.1 hy;refine ⟨L[i]'(by simpa using hi),List.getElem_mem _,?_⟩;rw [List.getElem_map];unfold pJ
 split <;> exact ⟨rfl,rfl⟩
theorem Gf (gx gy st:Int) (y:BE):(jr gx gy st y).A=y.A∧(jr gx gy st y).l=y.l:=by
 unfold jr
 split <;> exact ⟨rfl,rfl⟩
theorem aJ.keepS {α:Type} {Ly:Lay α} {w w':World} {b off:Nat} {l:List α} (hb:Below w.heap.size w w') (h:aJ Ly w b off l):aJ Ly w' b off l:=h.below hb
theorem wD {A:Option Addr} {n c:Nat} {l:List V} (hb:Below w.heap.size w w') (h:Sl w A n c l):Sl w' A n c l:=h.below hb

structure Ic (w0 : World) (gO : Nat) (v1 v2 : Value) (gx gy st : Int) (s : Value) (o : List BE) (wr : World) : Prop where
 oc:ZS gO s v1 v2 gx gy st wr
 of:∀ j,wr.frozen? ⟨gO,j,none⟩=false
 own:aU jo 27 wr w0.heap.size s o
 co:∀ x ∈ o,Sl wr x.A x.n x.c x.l∧x.l≠[]∧∀ bx off,x.A=some ⟨bx,off,none⟩→w0.heap.size≤bx∧some bx≠s.ownBlock
 out:Out (fun k=>k=gO) w0 wr
 lt:gO<w0.heap.size
theorem su {gO:Nat} {v1 v2:Value} {gx gy st:Int} {s:Value} {o:List BE} {wr w':World} (hb:Below wr.heap.size wr w') (h:Ic w0 gO v1 v2 gx gy st s o wr):Ic w0 gO v1 v2 gx gy st s o w' :=
 ⟨h.oc.keep hb,fun j=>(World.frozen?_of_block (hb.block _ (lt_of_cell h.oc.z0))).trans (h.of j),h.own.below hb,fun x hx=>⟨(h.co x hx).1.below hb,(h.co x hx).2⟩,h.out.trans (Out.below (D:=fun _=>False) hb) (fun i _ q=>q.elim),h.lt⟩
theorem Ic.drew {gO:Nat} {v1 v2:Value} {gx gy st:Int} {s:Value} {o:List BE} {wr:World} (h:Ic w0 gO v1 v2 gx gy st s o wr):Ic w0 gO v1 v2 gx gy st s o wr.drew:=su (Below.refl _ _).drew h
theorem Ic.push {w0 wb w wa w7 : World} {gO : Nat} {v1 v2 : Value} {gx gy st : Int} {s s' : Value} {o : List BE} {y : BE} (hb : Ic w0 gO v1 v2 gx gy st s o wb) (hbw : Below wb.heap.size wb w) (hS : Sl w y.A y.n y.c y.l) (hl : y.l ≠ []) (hf : ∀ bx off, y.A = some ⟨bx, off, none⟩ → wb.heap.size ≤ bx) (hba : Below w.heap.size w wa)
  (ho:aU jo 27 w7 w0.heap.size s' (o ++ [y])) (hg:wa.grownBy w7 s.ownBlock) (hat:s'.ownBlock=s.ownBlock∨s'.ownBlock=some wa.heap.size) :
  Ic w0 gO v1 v2 gx gy st s' (o ++ [y]) (w7.setCell ⟨gO,0,none⟩ s')∧w7.cell? ⟨gO,0,none⟩=some s∧∀ k,w7.frozen? ⟨gO,k,none⟩=false:=by
 have h:=su hbw hb;have hsa:=hba.size;have hsz:=hg.size;have hsw:=hbw.size;have hl0:=h.lt;have hso:=h.out.size;have hg7:w.grownBy w7 s.ownBlock:=aS (bN hba) hg;have hneg:some gO≠s.ownBlock:=fun e=>by have:=(h.own.lt e.symm).1;omega
 have hgw:gO<w.heap.size:=by omega
 have e0:=hg7.block gO hgw hneg
 have nblk:∀ {z:BE},Sl w z.A z.n z.c z.l→z.l≠[]→(∀ bx off,z.A=some ⟨bx,off,none⟩→some bx≠s.ownBlock)→∀ bx off,z.A=some ⟨bx,off,none⟩→some bx≠s'.ownBlock:=fun {z} hs hne hno bx off e e2=>by
  have:=kI hs hne bx off e
  rcases hat with q | q
  ·exact hno bx off e (e2.trans q)
  ·rw [q] at e2;cases e2;omega
 have hnw:∀ bx off,y.A=some ⟨bx,off,none⟩→some bx≠s.ownBlock:=fun bx off e e2=>by have:=hf bx off e;have:=(hb.own.lt e2.symm).2;omega
 have c00:w7.cell? ⟨gO,0,none⟩=some s:=(World.cell?_of_block e0).trans h.oc.z0;have c10:=(World.cell?_of_block e0).trans h.oc.z1;have c20:=(World.cell?_of_block e0).trans h.oc.z2;have c30:=(World.cell?_of_block e0).trans h.oc.z3;have c40:=(World.cell?_of_block e0).trans h.oc.z4;have c50:=(World.cell?_of_block e0).trans h.oc.z5;have cf0:∀ k,w7.frozen? ⟨gO,k,none⟩=false:=fun k=>(World.frozen?_of_block e0).trans (h.of k)
 refine ⟨⟨⟨nE c00,iG c10 (by decide),iG c20 (by decide),iG c30 (by decide),iG c40 (by decide),iG c50 (by decide)⟩,eu cf0 _ _,ho.off (fun j hj=>by have:=(ho.lt hj).1;omega) 0 _,fun x hx=>?_,?_,hl0⟩,c00,cf0⟩
 ·rcases List.mem_append.1 hx with hx | hx
  ·obtain ⟨h1, h2, h3⟩ := h.co x hx;exact ⟨(jh h1 hg7 (fun bx off e=>(h3 bx off e).2)).setAt (fun bx off e=>by have:=(h3 bx off e).1;omega),h2,fun bx off e=>⟨(h3 bx off e).1,nblk h1 h2 (fun bx off e=>(h3 bx off e).2) bx off e⟩⟩
  ·rw [List.mem_singleton.1 hx];exact ⟨(jh hS hg7 hnw).setAt (fun bx off e=>by have:=hf bx off e;have:=hb.out.size;omega),hl,fun bx off e=>⟨by have:=hf bx off e;have:=hb.out.size;omega,nblk hS hl hnw bx off e⟩⟩
 ·refine Out.setCell (D := fun k => k = gO) (p := ⟨gO, 0, none⟩) ?_ (.inr rfl) _;refine h.out.trans (D':=fun k=>some k=s.ownBlock) ⟨hg7.os,hg7.tape,hg7.output,hg7.size,fun k hk hn=>hg7.block k hk (fun e=>hn e)⟩ (fun i hi e=>?_);have:=(h.own.lt e.symm).1;omega

def zy (st:Int) (Q:List QB) (T:List Int):List QB:=List.zipWith (fun q t=>(moveB q.1 q.2 (aX st t),q.2)) Q T
theorem JR {st:Int} {Q:List QB} {T:List Int} {k:Nat} {q:QB} {t:Int} (hq:Q[k]? = some q) (ht:T[k]? = some t):(zy st Q T).take (k+1)=(zy st Q T).take k ++ [(moveB q.1 q.2 (aX st t),q.2)]:=by
 rw [List.take_add_one]
 congr 1
 unfold zy;rw [List.getElem?_zipWith,hq,ht];rfl

def oI (Q:List QB) (f:Nat→Nat) (J:List Jt) (C:List Ct) (gx gy st:Int) (w:World) (e:Ending) (w':World):Prop :=
 ∃ A n c Aj nj cj Ac nc cc L',e = .returned (.tuple #[.agg #[.slice A n c,.slice Aj nj cj,.slice Ac nc cc,.int .i64 gx,.int .i64 gy,.int .i64 st],.int .i64 0])∧iH w' A n c (iP L' f)∧dW gZ w' Aj nj cj J∧dW bZ w' Ac nc cc C∧L'.map aF=Q∧Below w.heap.size w w'
theorem uZ {w : World} {A Aj Ac : Option Addr} {n c nj cj nc cc : Nat} {L : List BE} {Jl : List Jt} {Cl : List Ct} (hS : iH w A n c L) (hJ : dW gZ w Aj nj cj Jl) (hC : dW bZ w Ac nc cc Cl) (gx gy st : Int) (hE : fJ L Jl Cl gx gy st = 0) (hn0 : 0 < n)
  (K K3:List Ct) (f:Nat→Nat) (hf:f=qF (GN L) (pz Jl ++ tC K)) (Q2 Q3:List QB) (T:List Int) (hKr:∀ x ∈ K,0≤x.a∧x.a<(n:Int)∧0≤x.b∧x.b<(n:Int))
  (hCK:∀ w',iH w' A n c L→dW gZ w' Aj nj cj Jl→dW bZ w' Ac nc cc Cl→Calls Tryz.prog 17 #[.agg #[.slice A n c,.slice Aj nj cj,.slice Ac nc cc,.int .i64 gx,.int .i64 gy,.int .i64 st]] w' (dG (.int .i64 (fJ L Jl Cl gx gy st)) w'))
  (hIS:∀ w' A' c' Ak nk ck,iH w' A' n c' L→dW gZ w' Aj nj cj Jl→dW bZ w' Ak nk ck K→Calls Tryz.prog 45 #[.slice A' n c',.slice Aj nj cj,.slice Ak nk ck] w' (fun e w''=>∃ gs,e = .returned (.slice (some ⟨gs,0,none⟩) n n)∧w'.heap.size≤gs∧aJ fq w'' gs 0 ((List.range n).map f)∧(∀ j,w''.frozen? ⟨gs,j,none⟩=false)∧Below w'.heap.size w' w''))
  (hF:∀ w',iH w' A n c L→dW bZ w' Ac nc cc Cl→Calls Tryz.prog 43 #[.slice A n c,.slice Ac nc cc] w' (fun e w''=>∃ A n c,e = .returned (.tuple #[.slice A n c,.int .i64 0])∧dW bZ w'' A n c K∧Below w'.heap.size w' w''))
  (hJR:∀ w' A' n' c' L1,iH w' A' n' c' L1→L1.map aF=((jQ L f).map (jr gx gy st)).map aF→dW gZ w' Aj nj cj Jl→Calls Tryz.prog 48 #[.slice A' n' c',.slice Aj nj cj,.int .i64 st,.int .i64 8] w' (wW 0 Q2 w'))
  (hSR:∀ w' A' n' c' L2 B m d,iH w' A' n' c' L2→L2.map aF=Q2→dW bZ w' B m d K→Calls Tryz.prog 49 #[.slice A' n' c',.slice B m d,.int .i64 st,.int .i64 8] w' (nH 0 (Q3,K3) w'))
  (hPT:∀ w' A' n' c' L3,iH w' A' n' c' L3→L3.map aF=Q3→Calls Tryz.prog 50 #[.slice A' n' c',.int .i64 st] w' (fun e w''=>∃ gs,e = .returned (.slice (some ⟨gs,0,none⟩) n n)∧w'.heap.size≤gs∧(∀ j (h:j<T.length),w''.cell? ⟨gs,j,none⟩=some (.int .i64 T[j]))∧Below w'.heap.size w' w''))
  (hT:T.length=n) (hQ3:Q3.length=n) (hQ:∀ q ∈ Q3,q.2≠[]∧q.2.length≤1000∧0≤q.1.mass∧0≤q.1.calm∧q.1.calm≤1000) :
  Calls Tryz.prog 13 #[.agg #[.slice A n c,.slice Aj nj cj,.slice Ac nc cc,.int .i64 gx,.int .i64 gy,.int .i64 st]] w (oI (zy st Q3 T) f Jl K3 gx gy st w):=by
 obtain ⟨w1,hw1⟩:∃ x,x=(w.alloc (.cells #[.slice A n c,.slice Aj nj cj,.slice Ac nc cc,.int .i64 gx,.int .i64 gy,.int .i64 st] 33)).alloc (.cells #[.slice none 0 0,.slice none 0 0,.slice none 0 0,.int .i64 0,.int .i64 0,.int .i64 0] 33):=⟨_,rfl⟩;obtain ⟨gz,hgz⟩:∃ x,x=w.heap.size:=⟨_,rfl⟩;have hb1:Below w.heap.size w w1:=by rw [hw1];go_grown
 have HZ1:Hid (ZS gz (.slice A n c) (.slice Aj nj cj) (.slice Ac nc cc) gx gy st w1):=hid (by rw [hw1,hgz];exact ⟨by go_simp,by go_simp,by go_simp,by go_simp,by go_simp,by go_simp⟩);have HF1:Hid (ZF w1 (gz+1)):=hid (by rw [hw1,hgz];have h:=ZF.here (w.alloc (.cells #[.slice A n c,.slice Aj nj cj,.slice Ac nc cc,.int .i64 gx,.int .i64 gy,.int .i64 st] 33)) (.slice none 0 0) (.slice none 0 0) (.slice none 0 0) 0 0 0 33;rw [World.size_alloc] at h;exact h);obtain ⟨z0,z1,z2,z3,z4,z5⟩:=HZ1.out;have lz:=lt_of_cell z0;have HCK:=hid (hCK w1 (hS.below hb1) (hJ.below hb1) (hC.below hb1));rw [hE] at HCK;have HS:=hid hS;have HJ:=hid hJ;have HC:=hid hC;have HB1:=hid hb1;have HE:=hid hE;obtain ⟨hce,hje,-,-⟩:=nR hE;obtain ⟨hbe,-,-⟩:=fV hce;obtain ⟨h64,hval⟩:=eY hbe;have HJL:Hid (Jl.length≤100000):=hid (by have:=(iK hje).2.1;omega);have hnn:=hS.sl.len;subst hnn;have HRG:=hid (uK rfl hE).1;have HVL:=hid hval;have HCO:Hid (∀ y ∈ L,∀ bx off,y.A=some ⟨bx,off,none⟩→bx<w.heap.size):=hid (fun y hy=>kI (hS.co y hy) (fun e=>by have:=hval y hy;rw [e] at this;exact absurd (bJ this).1 (by decide)));have HQ:=hid hQ;have HKR:=hid hKr;have HIS:=hid hIS;have HF:=hid hF;have HJR:=hid hJR;have HSR:=hid hSR;have HPT:=hid hPT;have HT:=hid hT;have HQ3:=hid hQ3;have HFE:=hid hf;clear hce hje hbe hval hQ hS hJ hC hb1 hE hKr hCK hIS hF hJR hSR hPT hT hQ3 hf
 go_enter Tryz.func13,Tryz.ntmps13
 go_upto_region 1 with fail
 rw [← hw1,← hgz];have HGZ:=hid (show w.heap.size≤gz by omega);clear hw1 hgz
 go_wp2_with fail
 refine HCK.out.mono ?_;rintro e w2 ⟨rfl,hb⟩;replace HZ1:=hid (HZ1.out.keep hb);replace HF1:=hid (kF hb HF1.out);replace HB1:=hid (aj hb HB1.out);clear HCK hb z0 z1 z2 z3 z4 z5 lz;have HCJ:Hid (∀ w',Below w2.heap.size w2 w'→Calls Tryz.prog 42 #[.slice Aj nj cj] w' (fun e w''=>∃ s,e = .returned s∧aU gZ 37 w'' w'.heap.size s Jl∧Below w'.heap.size w' w'')):=hid (fun w' hb=>qP Aj nj cj Jl w' ((HJ.out.below HB1.out).below hb) HJL.out)
 go_upto_region 4 with fail
 refine (fun (hNr2:Hid (?Tr2:Prop))=>?mainr2) (hid ?prfr2)
 case mainr2 =>
  refine wp_region_noPanic ?_;refine au (S:=(S2 (fun w'=>ZS gz (.slice A L.length c) (.slice Aj nj cj) (.slice Ac nc cc) gx gy st w'∧Bq w2 w'))) (T:=(fun j=>[0,0,0,0,0,0,0,0,0,1].getD j 0)) (by kernel_rfl) (aC ⟨HZ1.out.keep ((Below.refl _ _).drew),⟨(Below.refl _ _).drew⟩⟩) (fun hH=>?_);have hWr2:aH (S2 (fun w'=>ZS gz (.slice A L.length c) (.slice Aj nj cj) (.slice Ac nc cc) gx gy st w'∧Bq w2 w')):=aK _;refine dn [(0,18),(1,19),(3,21),(4,22),(5,23),(6,24)] 4 0 0 (L':=?Lr2_1) hWr2 hH ?yr2_1 ?_
  case yr2_1=>((iterate 6 apply dA;rfl;kernel_rfl;intro w' hSw;replace hSw:=aA hSw;(try dsimp only at hSw);have q0:=hSw.1;have q1:=hSw.2;have qa0_0:=(q0).z0;have qa0_1:=(q0).z1;have qa0_2:=(q0).z2;have qa0_3:=(q0).z3;have qa0_4:=(q0).z4;have qa0_5:=(q0).z5;(try simp only [sB,sC]);go_simp;(try with_reducible rfl));exact dw)
  simp only [sB,sC];refine Ur [2,8] ?_;refine Uc 0 rfl (fun K hK=>?_) ?_
  ·try clear hb
   have hG:=hH;replace hG:=aA hG;(try dsimp only at hG);have fq0:=hG.1;have fq1:=hG.2;go_simp
   (go_at_call 42;refine (HCJ.out _ fq1.b).mono ?_;rintro e wn ⟨sj,rfl,hoj,hb⟩)
   refine hK.out _ _ (aC (by have hG:=hH;replace hG:=aA hG;(try dsimp only at hG);have q0:=hG.1;have q1:=hG.2;exact ⟨ZS.keep hb q0,lQ hb q1⟩)) (fun hH2=>?_);clear hK K hH
   rename _=>hH
   try simp only [Act.put,sA,sB,sC]
   obtain ⟨Aj2,nj2,cj2,rfl,hJ2,hJb⟩:=hoj.sl;have hJc:∀ b off,Aj2=some ⟨b,off,none⟩→b<wn.heap.size:=fun b off e=>(hoj.lt (k:=b) (by rw [e];rfl)).2
   clear hoj hG fq0 fq1;refine Ut 7 25 2 0 0 (v:=?vr2_8) rfl hWr2 hH ?yr2_8 ?_
   case yr2_8=>(intro w' hSw;clear hSw;go_simp;try (with_reducible rfl))
   simp only [sB,sC];refine U1 8 0 rfl (fun K hK=>?_)
   try clear hb
   have hG:=hH;replace hG:=aA hG;(try dsimp only at hG);have q0:=hG.1;have q1:=hG.2;go_simp;refine hK.out _ _ (aC (by have hG:=hH;replace hG:=aA hG;(try dsimp only at hG);have q0:=hG.1;have q1:=hG.2;exact ⟨ZS.keep Ba q0,lQ Ba q1⟩)) (fun hH2=>?_);clear hK K hH
   rename _=>hH
   try simp only [Act.put,sA,sB,sC]
   have hO:ZF (wn.alloc (.cells #[.slice none 0 0,.slice none 0 0,.slice none 0 0,.int .i64 0,.int .i64 0,.int .i64 0] 33)) wn.heap.size:=ZF.here wn _ _ _ 0 0 0 33;replace hJ2:=GL ((Below.refl _ _).alloc (Nat.le_refl _) (.cells #[.slice none 0 0,.slice none 0 0,.slice none 0 0,.int .i64 0,.int .i64 0,.int .i64 0] 33)) hJ2;obtain ⟨gO,hgO⟩:∃ g,g=wn.heap.size:=⟨_,rfl⟩;have hlO:w2.heap.size≤gO:=by rw [hgO];exact q1.b.size
   have hNE:∀ b off,Aj2=some ⟨b,off,none⟩→b≠gO∧w2.heap.size≤b:=fun b off e=>by have h5:=hJc b off e;have h6:w2.heap.size≤b:=hJb b off e;rw [hgO];omega
   clear hJb hJc;rw [← hgO] at hO
   try rw [← hgO]
   clear hgO q0 q1;generalize wn.alloc (.cells #[.slice none 0 0,.slice none 0 0,.slice none 0 0,.int .i64 0,.int .i64 0,.int .i64 0] 33)=wx8 at *
   refine bE (l':=tf 10 511) (by kernel_rfl) ?_
   try clear hb
   revert hH
   revert hNE
   revert hJ2
   revert hO
   revert hlO
   revert gO
   revert cj2
   revert nj2
   revert Aj2
   revert wx8
   exact hNr2.out
  refine Uc 0 rfl (fun K hK=>?_) ?_
  ·try clear hb
   have hG:=hH;replace hG:=aA hG;(try dsimp only at hG);have q0:=hG.1;have q1:=hG.2;go_simp;refine hK.out _ _ (aC (by have hG:=hH;replace hG:=aA hG;(try dsimp only at hG);have q0:=hG.1;have q1:=hG.2;exact ⟨ZS.keep Ba q0,lQ Ba q1⟩)) (fun hH2=>?_);clear hK K hH
   rename _=>hH
   try simp only [Act.put,sA,sB,sC]
   have hO:ZF ((w2.alloc (.cells #[.slice none 0 0,.slice none 0 0,.slice none 0 0,.int .i64 0,.int .i64 0,.int .i64 0] 33)).drew) w2.heap.size:=ZF.drew (ZF.here w2 _ _ _ 0 0 0 33);obtain ⟨gO,hgO⟩:∃ g,g=w2.heap.size:=⟨_,rfl⟩;have hlO:w2.heap.size≤gO:=by rw [hgO];exact q1.b.size
   rw [← hgO] at hO
   try rw [← hgO]
   clear hgO q0 q1;generalize (w2.alloc (.cells #[.slice none 0 0,.slice none 0 0,.slice none 0 0,.int .i64 0,.int .i64 0,.int .i64 0] 33)).drew=wx8 at *
   refine U1 2 0 rfl (fun K hK=>?_)
   try clear hb
   have hG:=hH;replace hG:=aA hG;(try dsimp only at hG);have fq0:=hG.1;have fq1:=hG.2;go_simp
   (go_at_call 42;refine (HCJ.out _ fq1.b).mono ?_;rintro e wn ⟨sj,rfl,hoj,hb⟩)
   refine hK.out _ _ (aC (by have hG:=hH;replace hG:=aA hG;(try dsimp only at hG);have q0:=hG.1;have q1:=hG.2;exact ⟨ZS.keep hb q0,lQ hb q1⟩)) (fun hH2=>?_);clear hK K hH
   rename _=>hH
   try simp only [Act.put,sA,sB,sC]
   obtain ⟨Aj2,nj2,cj2,rfl,hJ2,hJb⟩:=hoj.sl;have hJc:∀ b off,Aj2=some ⟨b,off,none⟩→b<wn.heap.size:=fun b off e=>(hoj.lt (k:=b) (by rw [e];rfl)).2
   have hNE:∀ b off,Aj2=some ⟨b,off,none⟩→b≠gO∧w2.heap.size≤b:=fun b off e=>by have h1:=hJb b off e;have h4:=fq1.b.size;obtain ⟨⟨_,_,_,_,_,_,h2⟩,_⟩:=hO;have h3:=lt_of_cell h2.z0;omega
   replace hO:=kF hb hO;clear hJb hJc;clear hoj hG fq0 fq1;refine Ut 7 25 1 0 0 (v:=?vr2_13) rfl hWr2 hH ?yr2_13 ?_
   case yr2_13=>(intro w' hSw;clear hSw;go_simp;try (with_reducible rfl))
   simp only [sB,sC];refine bE (l':=tf 10 511) (by kernel_rfl) ?_
   try clear hb
   revert hH
   revert hNE
   revert hJ2
   revert hO
   revert hlO
   revert gO
   revert cj2
   revert nj2
   revert Aj2
   revert wn
   exact hNr2.out
  exact bC.nil
 case prfr2 =>
  intro wX Aj2 nj2 cj2 gO hlO hO hJ2 hNE hH;have hWr2:aH (S2 (fun w'=>ZS gz (.slice A L.length c) (.slice Aj nj cj) (.slice Ac nc cc) gx gy st w'∧Bq w2 w')):=aK _;refine U1 9 1 rfl (fun K hK=>?_)
  try clear hb
  have hG:=hH;replace hG:=aA hG;(try dsimp only at hG);have fq0:=hG.1;have fq1:=hG.2;obtain ⟨⟨v0,v1,v2,v3,v4,v5,y0,y1,y2,y3,y4,y5⟩,yf⟩:=id hO;have HZS:=hid fq0;have HBL:=hid fq1;clear hG fq0 fq1;go_simp;refine hK.out _ _ (dY) (fun hH2=>?_);clear hK K hH
  rename _=>hH
  try simp only [Act.put,sA,sB,sC]
  refine ak (by kernel_rfl) ?_ _ _;refine NoPanic.normal ?_;obtain ⟨w4,hw4⟩:∃ y,y=(((((wX.setCell ⟨gO,0,none⟩ (.slice none 0 0)).setCell ⟨gO,1,none⟩ (.slice Aj2 nj2 cj2)).setCell ⟨gO,2,none⟩ (.slice none 0 0)).setCell ⟨gO,3,none⟩ (.int .i64 gx)).setCell ⟨gO,4,none⟩ (.int .i64 gy)).setCell ⟨gO,5,none⟩ (.int .i64 st):=⟨_,rfl⟩;have hgl:=lt_of_cell y0;have HOC:Hid (ZS gO (.slice none 0 0) (.slice Aj2 nj2 cj2) (.slice none 0 0) gx gy st w4):=hid (by rw [hw4];exact ⟨by go_simp,by go_simp,by go_simp,by go_simp,by go_simp,by go_simp⟩);have HOF:Hid (∀ j,w4.frozen? ⟨gO,j,none⟩=false):=hid (by rw [hw4];exact eu (eu (eu (eu (eu (eu yf _ _) _ _) _ _) _ _) _ _) _ _);have HOX:Hid (Out (fun k=>k=gO) wX w4):=hid (by rw [hw4];exact ((((((Out.refl (fun k=>k=gO) wX).setCell (p:=⟨gO,0,none⟩) (.inr rfl) _).setCell (p:=⟨gO,1,none⟩) (.inr rfl) _).setCell (p:=⟨gO,2,none⟩) (.inr rfl) _).setCell (p:=⟨gO,3,none⟩) (.inr rfl) _).setCell (p:=⟨gO,4,none⟩) (.inr rfl) _).setCell (p:=⟨gO,5,none⟩) (.inr rfl) _);have HNEO:=hid hNE;have HLO:=hid hlO;have HJX:Hid (dW gZ w4 Aj2 nj2 cj2 Jl):=hid (hJ2.outD HOX.out (fun b off e _=>(hNE b off e).1));have HZ2:=hid (lt_of_cell HZ1.out.z0);have HZ4:Hid (ZS gz (.slice A L.length c) (.slice Aj nj cj) (.slice Ac nc cc) gx gy st w4):=hid (HZS.out.out HOX.out (fun e=>by have e:gz=gO:=e;have:=HZ2.out;omega));have HB4:Hid (Below w2.heap.size w2 w4):=hid (HOX.out.toBelow HBL.out.b HBL.out.b.size hlO);have HF4:Hid (ZF w4 (gz+1)):=hid (kF HB4.out HF1.out);clear y0 y1 y2 y3 y4 y5 yf hO hJ2 hNE hH HZS HBL HOX hlO hgl
  go_upto_region 5 with fail
  rw [← hw4];clear hw4;obtain ⟨z0,z1,z2,z3,z4,z5⟩:=HZ4.out;have lz:=lt_of_cell z0;have HBS:=hid (aj HB4.out HB1.out)
  go_wp2_with fail
  refine (HF.out w4 (HS.out.below HBS.out) (HC.out.below HBS.out)).mono ?_;rintro e w6 ⟨Ak,nk,ck,rfl,hsk,hb6⟩;have HK6:=hid hsk;replace HZ4:=hid (HZ4.out.keep hb6);replace HOF:=hid (fun j=>(World.frozen?_of_block (hb6.block _ (lt_of_cell HOC.out.z0))).trans (HOF.out j));replace HOC:=hid (HOC.out.keep hb6);replace HF4:=hid (kF hb6 HF4.out);replace HJX:=hid (HJX.out.below hb6);replace HBS:=hid (aj hb6 HBS.out);replace HB4:=hid (aj hb6 HB4.out);clear hsk hb6 HF z0 z1 z2 z3 z4 z5 lz;have HSB6:=hid (HS.out.below HBS.out);have HJ6:=hid (HJ.out.below HBS.out);have hs6:=HBS.out.size;obtain ⟨z0,z1,z2,z3,z4,z5⟩:=HZ4.out;have lz:=lt_of_cell z0
  go_wp2_with fail
  refine (qL A L.length c L w6 HSB6.out.sl (by omega)).mono ?_;rintro e w7 ⟨sb,rfl,hob,hb7⟩
  obtain ⟨g,cap,rfl,hg6,hg7,hcap1,hcap2,hfr7,hcl7⟩:∃ g cap,sb = .slice (some ⟨g,0,none⟩) L.length cap∧w6.heap.size≤g∧g<w7.heap.size∧L.length≤cap∧cap≤maxLen∧(∀ j,w7.frozen? ⟨g,j,none⟩=false)∧aJ jo w7 g 0 L:=by
   rcases hob.form with ⟨h1,h2⟩ | h2
   ·rw [h2] at hn0;simp at hn0
   ·exact h2
  have HBL7:Hid (BL w7 g L):=hid ⟨hcl7,hfr7,fun x hx=>(HSB6.out.co x hx).below hb7,fun x hx bx off e=>by have:=HCO.out x hx bx off e;omega⟩;have HX7:=hid hb7;have HSLB:Hid (∀ (w':World) (L':List BE),BL w' g L'→L'.length=L.length→iH w' (some ⟨g,0,none⟩) L.length cap L'):=hid (fun w' L' h e=>⟨⟨e.symm,hcap1,by unfold maxLen at hcap2;omega,fun _=>⟨g,0,rfl,h.cl⟩⟩,h.co⟩);replace z0:=keepCell hb7 z0;replace z1:=keepCell hb7 z1;replace z2:=keepCell hb7 z2;replace z3:=keepCell hb7 z3;replace z4:=keepCell hb7 z4;replace z5:=keepCell hb7 z5;replace lz:=lt_of_cell z0;clear hob hfr7 hcl7 hb7;have HPI:=hid (HIS.out w7 _ cap _ _ _ (HSLB.out w7 L HBL7.out rfl) (HJ6.out.below HX7.out) (HK6.out.below HX7.out))
  go_wp2_with fail
  refine HPI.out.mono ?_;rintro e w8 ⟨gs,rfl,hgs,hcg,hfg,hb8⟩
  have HGR:Hid (∀ j,j<L.length→w8.cell? ⟨gs,j,none⟩=some (.int .i64 (f j:Nat))):=hid (fun j hj=>by
   have h:=hcg.at_ j (by simpa using hj) 0 (.int .i64 (f j:Nat)) (by simp [fq])
   simpa [fq] using h)
  have HX8:=hid (aj hb8 HX7.out);have HBL8:=hid (fI hb8 HBL7.out);have HGS:Hid (w6.heap.size≤gs∧g<gs∧gs<w8.heap.size):=hid ⟨by omega,by omega,hcg.lt⟩;have HFL:Hid (∀ j,j<L.length→f j<L.length):=hid (fun j hj=>by have:=(Np (GN L) (pz Jl ++ tC K)).1 j;rw [← HFE.out] at this;omega);replace z0:=keepCell hb8 z0;replace z1:=keepCell hb8 z1;replace z3:=keepCell hb8 z3;replace z4:=keepCell hb8 z4;replace z5:=keepCell hb8 z5;replace lz:=lt_of_cell z0;clear HPI hgs hcg hfg hb8 HBL7 HX7 z2
  go_wp2_with fail
  refine (EI HBL8.out rfl HGR.out (by have:=HGS.out;omega) HFL.out hcap1 (Nat.le_refl _) (by omega)).mono ?_;rintro e w9 ⟨rfl,hbl9,ho9⟩;have HX9:=hid (ho9.toBelow HX8.out HX8.out.size hg6);have HBL9:=hid hbl9;replace HGR:=hid (fun j hj=>ho9.cell (HGR.out j hj) (fun e=>by have e:gs=g:=e;have:=HGS.out;omega));have hzg:gz≠g:=by have:=HZ2.out;have:=HB4.out.size;omega
  replace z0:=ho9.cell z0 hzg;replace z1:=ho9.cell z1 hzg;replace z3:=ho9.cell z3 hzg;replace z4:=ho9.cell z4 hzg;replace z5:=ho9.cell z5 hzg;replace lz:=lt_of_cell z0;have h89:=ho9.size;clear hbl9 ho9 HX8 HBL8
  have HLO9:Hid (∀ y ∈ jQ L f,∀ bx off,y.A=some ⟨bx,off,none⟩→bx<w9.heap.size):=hid (fun y hy bx off e=>by
   obtain ⟨z,hz,e1,-⟩:=F4 hy;have h1:=HCO.out z hz bx off (by rw [← e1];exact e);have h2:=HX9.out.size
   omega)
  go_wp2_with fail
  refine (Fb HBL9.out (by rw [Ag]) HLO9.out hcap1 (by omega)).mono ?_;rintro e w10 ⟨rfl,hbl10,ho10⟩;have HX10:=hid (ho10.toBelow HX9.out HX9.out.size hg6);have HBL10:=hid hbl10;replace HGR:=hid (fun j hj=>ho10.cell (HGR.out j hj) (fun e=>by have e:gs=g:=e;have:=HGS.out;omega));replace z0:=ho10.cell z0 hzg;replace z1:=ho10.cell z1 hzg;replace z3:=ho10.cell z3 hzg;replace z4:=ho10.cell z4 hzg;replace z5:=ho10.cell z5 hzg;replace lz:=lt_of_cell z0;have h910:=ho10.size;clear hbl10 ho10 HX9 HBL9 HLO9;have HJRc:=hid (HJR.out w10 _ _ _ _ (HSLB.out w10 _ HBL10.out (by rw [List.length_map,Ag])) rfl (HJ6.out.below HX10.out))
  go_wp2_with fail
  refine HJRc.out.mono ?_;rintro e w11 ⟨A2,n2,c2,L2,rfl,hs2,hm2,hb11⟩;have HX11:=hid (aj hb11 HX10.out);replace HGR:=hid (fun j hj=>keepCell hb11 (HGR.out j hj));replace z0:=keepCell hb11 z0;replace z5:=keepCell hb11 z5;replace lz:=lt_of_cell z0;have h1011:=hb11.size;have HSRc:=hid (HSR.out w11 _ _ _ _ _ _ _ hs2 hm2 (HK6.out.below HX11.out));clear HJRc hs2 hm2 hb11 HX10 HBL10 z1 z3 z4
  go_wp2_with fail
  refine HSRc.out.mono ?_;rintro e w12 ⟨A3,B3,n3,c3,m3,d3,L3,rfl,hs3,hk3,hm3,hb12,hfA,hfy,hfB⟩;have HX12:=hid (aj hb12 HX11.out);replace HGR:=hid (fun j hj=>keepCell hb12 (HGR.out j hj));replace z0:=keepCell hb12 z0;replace z5:=keepCell hb12 z5;replace lz:=lt_of_cell z0;have h1112:=hb12.size;have HPTc:=hid (HPT.out w12 _ _ _ _ hs3 hm3);have HS3:=hid hs3;have HK3:=hid hk3;have HM3:=hid hm3;have HFR3:=hid (And.intro hfA (And.intro hfy hfB));clear HSRc hs3 hk3 hm3 hb12 hfA hfy hfB HX11
  go_wp2_with fail
  refine HPTc.out.mono ?_;rintro e w13 ⟨gT,rfl,hgT,hcT,hb13⟩;have HX13:=hid (aj hb13 HX12.out);replace HGR:=hid (fun j hj=>keepCell hb13 (HGR.out j hj));replace HS3:=hid (HS3.out.below hb13);replace HK3:=hid (HK3.out.below hb13);have HCT:=hid hcT;have HGT:=hid (show w12.heap.size≤gT from hgT);have Z5:=hid (keepCell hb13 z5);have h1213:=hb13.size
  have HSZ:Hid (w6.heap.size≤w8.heap.size∧w8.heap.size≤w11.heap.size∧w11.heap.size≤w12.heap.size∧w12.heap.size≤w13.heap.size∧gO<w6.heap.size∧gz+1<w2.heap.size):=hid (by
   have h1:=lt_of_cell HOC.out.z0
   have h2:gz+1<w2.heap.size:=by
    obtain ⟨⟨_,_,_,_,_,_,hq⟩,_⟩:=HF1.out;exact lt_of_cell hq.z0
   have h3:=HX13.out.size;have h4:=HGS.out;refine ⟨?_,?_,?_,?_,h1,h2⟩
   all_goals omega)
  clear HPTc hgT hcT hb13 HX12 z0 z5 lz h89 h910 h1011 h1112 h1213 hzg;have HLP0:Hid (Ic w13 gO (.slice Aj2 nj2 cj2) (.slice none 0 0) gx gy st (.slice none 0 0) [] w13):=hid ⟨HOC.out.keep HX13.out,fun j=>(World.frozen?_of_block (HX13.out.block _ HSZ.out.2.2.2.2.1)).trans (HOF.out j),aU.nil _ _ _ _,(fun x hx=>by cases hx),Out.refl _ _,by have:=HSZ.out;omega⟩;have HQL:Hid (L3.length=L.length∧n3=L3.length):=hid ⟨by have:=congrArg List.length HM3.out;rw [List.length_map] at this;rw [this];exact HQ3.out,HS3.out.sl.len⟩;obtain ⟨N,hN⟩:∃ N,N=L.length:=⟨_,rfl⟩;have HNN:=hid hN;have hN64:N≤64:=by omega
  have hn0':0<N:=by omega
  rw [← hN];clear hN;go_wp2
  go_loopw [74] (fun j wr=>∃ (k:Nat) (s:Value) (o:List BE),k≤N∧j = .int .i64 k∧Hid (Ic w13 gO (.slice Aj2 nj2 cj2) (.slice none 0 0) gx gy st s o wr∧o.map aF=(zy st Q3 T).take k)) (fun j _=>N-(intOf j).toNat)
  case atStart=>exact ⟨0,.slice none 0 0,[],Nat.zero_le _,rfl,hid ⟨HLP0.out,rfl⟩⟩
  case round =>
   clear HLP0;obtain ⟨k,s,o,hk,rfl,HW⟩:=hrel;obtain ⟨wo,rfl⟩:∃ wo:World,wo=wr:=⟨_,rfl⟩
   by_cases hlt:k<N
   ·have hlt' : (k : Int) < (N : Int) := by omega
    have hwk:IntKind.i64.wrap ((k:Int)+1)=(k:Int)+1:=IntWalk.i64_in _ (by omega);have hk3:k<L3.length:=by have:=HQL.out;have:=HNN.out;omega
    have hkT:k<T.length:=by have:=HT.out;have:=HNN.out;omega
    have hn3':(k:Int)<(n3:Int):=by have:=HQL.out.2;omega
    have HS3o:iH wo A3 n3 c3 L3:=HS3.out.outD HW.out.1.out (fun b off e _ q=>by have q:b=gO:=q;have:=HFR3.out.1 b off e;have:=HSZ.out;omega) (fun y hy b off e _ q=>by have q:b=gO:=q;have:=HFR3.out.2.1 y hy b off e;have:=HSZ.out;omega);obtain ⟨b3,o3,rfl,hC3⟩:=HS3o.sl.at_ (by intro h;rw [h] at hk3;simp at hk3);obtain ⟨x,hx⟩:∃ x,x=L3[k]:=⟨_,rfl⟩;have hxm:x ∈ L3:=by rw [hx];exact List.getElem_mem hk3
    have HXS:=hid (HS3o.co x hxm);have HC3:=hid hC3;have HX3:=hid hx;obtain ⟨t,ht⟩:∃ t,t=T[k]:=⟨_,rfl⟩;have hq3:Q3[k]? = some (aF x):=by rw [← HM3.out,List.getElem?_map,List.getElem?_eq_getElem hk3,← hx];rfl
    have hT3:T[k]? = some t:=by rw [List.getElem?_eq_getElem hkT,ht]
    have HXQ:=hid (HQ.out (aF x) (List.mem_of_getElem? hq3));have HTK:=hid (JR (st:=st) hq3 hT3);have ct:wo.cell? ⟨gT,k,none⟩=some (.int .i64 t):=by rw [ht];exact HW.out.1.out.cell (HCT.out k hkT) (fun q=>by have q:gT=gO:=q;have:=HGT.out;have:=HSZ.out;omega)
    have Z5o:=hid (HW.out.1.out.cell Z5.out (fun q=>by have q:gz=gO:=q;have:=HSZ.out;have:=HLO.out;omega))
    have HOL:Hid (o.length=k):=hid (by
     have h:=congrArg List.length HW.out.2;rw [List.length_map,List.length_take] at h;unfold zy at h;rw [List.length_zipWith] at h;have:=HT.out;have:=HQ3.out;have:=HNN.out
     omega)
    obtain ⟨m,hm⟩:∃ y,y=aX st t:=⟨_,rfl⟩;have HMU:Hid (∀ w',Calls Tryz.prog 52 #[.int .i64 st,.int .i64 t] w' (dG (.int .i64 m) w')):=hid (fun w'=>by rw [hm];exact bM st t w');obtain ⟨mb,hmb⟩:∃ y,y=moveB x.b x.l m:=⟨_,rfl⟩;have HMV:Hid (∀ w',Sl w' x.A x.n x.c x.l→Calls Tryz.prog 51 #[dK x.b x.A x.n x.c,.int .i64 m] w' (nK mb x.l w')):=hid (fun w' h=>by have:=wS x.b x.A x.n x.c x.l m w' h (by have:x.l.length≤1000:=HXQ.out.2.1;omega);rw [← hmb] at this;exact this);have HTK2:Hid (o.map aF ++ [(mb,x.l)]=(zy st Q3 T).take (k+1)):=hid (by rw [HTK.out,HW.out.2,hmb,hm];rfl);have HL0:=hid HW.out.1;have lct:=lt_of_cell ct;have hlo0:=lt_of_cell HL0.out.oc.z0;clear hx hxm hC3 HS3o ht hq3 hT3 hm hmb HTK HW hkT
    go_upto_region 15 with fail
    clear ct lct;refine wp_region_noPanic ?_;refine au (S:=(S2 (fun w'=>Ic w13 gO (.slice Aj2 nj2 cj2) (.slice none 0 0) gx gy st s o w'∧aJ jo w' b3 o3 L3∧Sl w' x.A x.n x.c x.l∧w'.cell? ⟨gz,5,none⟩=some (.int .i64 st)∧Bq wo w'))) (T:=(fun j=>[0,0,0,0,0,0,0,0,0,0,0,0,1,0,1].getD j 0)) (by kernel_rfl) (aC ⟨HL0.out.drew,aJ.below (Below.refl _ _).drew HC3.out,wD (Below.refl _ _).drew HXS.out,Z5o.out,⟨(Below.refl _ _).drew⟩⟩) (fun hH=>?_);have hWr1:aH (S2 (fun w'=>Ic w13 gO (.slice Aj2 nj2 cj2) (.slice none 0 0) gx gy st s o w'∧aJ jo w' b3 o3 L3∧Sl w' x.A x.n x.c x.l∧w'.cell? ⟨gz,5,none⟩=some (.int .i64 st)∧Bq wo w')):=aK _;refine dn [(0,79),(1,80),(2,81),(3,82),(4,83),(5,84),(6,85),(7,86),(8,87)] 6 0 0 (L':=?Lr1_1) hWr1 hH ?yr1_1 ?_
    case yr1_1=>((iterate 9 apply dA;rfl;kernel_rfl;intro w' hSw;replace hSw:=aA hSw;(try dsimp only at hSw);have q0:=hSw.1;have q1:=hSw.2.1;have q2:=hSw.2.2.1;have q3:=hSw.2.2.2.1;have q4:=hSw.2.2.2.2;have qa0_0:=(q0).oc.z0;obtain ⟨qa1_0,qa1_1,qa1_2,qa1_3,qa1_4,qa1_5,qa1_6,qa1_7,qa1_8,qa1_9,qa1_10,qa1_11,qa1_12⟩:=dD (q1) hk3 HX3.out;(try simp only [sB,sC]);go_simp;(try with_reducible rfl));exact dw)
    simp only [sB,sC];refine U1 9 0 rfl (fun K hK=>?_)
    try clear hb
    go_simp
    (go_at_call 52;refine (HMU.out _).mono ?_;rintro e wn ⟨rfl,hb⟩)
    refine hK.out _ _ (aC (by have hG:=hH;replace hG:=aA hG;(try dsimp only at hG);have q0:=hG.1;have q1:=hG.2.1;have q2:=hG.2.2.1;have q3:=hG.2.2.2.1;have q4:=hG.2.2.2.2;exact ⟨su hb q0,aJ.keepS hb q1,wD hb q2,keepCell hb q3,lQ hb q4⟩)) (fun hH2=>?_);clear hK K hH
    rename _=>hH
    try simp only [Act.put,sA,sB,sC]
    refine U1 10 0 rfl (fun K hK=>?_)
    try clear hb
    have hG:=hH;replace hG:=aA hG;(try dsimp only at hG);have fq0:=hG.1;have fq1:=hG.2.1;have fq2:=hG.2.2.1;have fq3:=hG.2.2.2.1;have fq4:=hG.2.2.2.2;go_simp
    (go_at_call 51;refine (HMV.out _ fq2).mono ?_;rintro e wn ⟨A4,n4,c4,rfl,hs4,hf4,hb⟩)
    refine hK.out _ _ (aC (by have hG:=hH;replace hG:=aA hG;(try dsimp only at hG);have q0:=hG.1;have q1:=hG.2.1;have q2:=hG.2.2.1;have q3:=hG.2.2.2.1;have q4:=hG.2.2.2.2;exact ⟨su hb q0,aJ.keepS hb q1,wD hb q2,keepCell hb q3,lQ hb q4⟩)) (fun hH2=>?_);clear hK K hH
    rename _=>hH
    try simp only [Act.put,sA,sB,sC]
    have hf5:∀ bx off,A4=some ⟨bx,off,none⟩→wo.heap.size≤bx:=fun bx off e=>by have h1:=hf4 bx off e;have h2:=fq4.b.size;omega
    clear hf4 hG fq0 fq1 fq2 fq3 fq4;refine U1 11 0 rfl (fun K hK=>?_)
    try clear hb
    have hG:=hH;replace hG:=aA hG;(try dsimp only at hG);have fq0:=hG.1;have fq1:=hG.2.1;have fq2:=hG.2.2.1;have fq3:=hG.2.2.2.1;have fq4:=hG.2.2.2.2;go_simp;refine hK.out _ _ (aC (by have hG:=hH;replace hG:=aA hG;(try dsimp only at hG);have q0:=hG.1;have q1:=hG.2.1;have q2:=hG.2.2.1;have q3:=hG.2.2.2.1;have q4:=hG.2.2.2.2;exact ⟨su Ba q0,aJ.keepS Ba q1,wD Ba q2,keepCell Ba q3,lQ Ba q4⟩)) (fun hH2=>?_);clear hK K hH
    rename _=>hH
    try simp only [Act.put,sA,sB,sC]
    clear fq1 fq2 fq3 hG;refine U1 12 1 rfl (fun K hK=>?_)
    (refine iy xX (by rfl) _ _ (by rfl) w13.heap.size _ _ (by rfl) (fq0.own.alloc _) _ 0 1 1 [⟨mb,A4,n4,c4,x.l⟩] (by rfl) (by rfl) (kU (aL.here _ mb A4 n4 c4 _)) (by have:=HOL.out;simp;omega) (by have:=HOL.out;simp;omega) (by have:=fq0.out.size;simp;omega) ?_;intro s' w7 ho1 hg1 hat)
    refine hK.out _ _ (dY) (fun hH2=>?_);clear hK K hH
    rename _=>hH
    try simp only [Act.put,List.getElem_toArray,List.getElem_cons_succ,List.getElem_cons_zero,sA,sB,sC]
    obtain ⟨A5,n5,c5,rfl,-,-⟩:=ho1.sl;have HQ7:=hid (Ic.push (y:=⟨mb,A4,n4,c4,x.l⟩) HL0.out fq4.b hs4 HXQ.out.1 hf5 (by go_grown) ho1 hg1 hat);clear ho1 hg1 hat fq0 fq4 hs4 hf5;refine Ut 13 92 1 1 1 (v:=?vr1_14) rfl hWr1 hH ?yr1_14 ?_
    case yr1_14=>(intro w' hSw;clear hSw;go_simp;try (with_reducible rfl))
    simp only [sB,sC];refine U1 14 1 rfl (fun K hK=>?_);obtain ⟨y0,yf⟩:=HQ7.out.2;go_simp;refine hK.out _ _ (dY) (fun hH2=>?_);clear hK K hH
    rename _=>hH
    try simp only [Act.put,sA,sB,sC]
    clear y0 yf;refine ak (by kernel_rfl) ?_ _ _;refine NoPanic.normal ?_
    try clear hH
    have HN:=hid HQ7.out.1;clear HQ7;go_wp2;go_roundw
    case rel=>exact ⟨k+1,_,_,hlt,by go_num,hid ⟨HN.out,by rw [List.map_append];exact HTK2.out⟩⟩
    case measure=>simp [intOf];omega
   ·have hke : N = k := by omega
    subst hke
    have HMO:Hid (o.map aF=zy st Q3 T):=hid (by
     have hl:(zy st Q3 T).length=N:=by
      unfold zy;rw [List.length_zipWith,HT.out,HQ3.out,HNN.out,Nat.min_self]
     rw [HW.out.2,List.take_of_length_le (by omega)])
    have hol:o.length=N:=by
     have h:=congrArg List.length HMO.out;rw [List.length_map] at h;rw [h];unfold zy;rw [List.length_zipWith,HT.out,HQ3.out,HNN.out,Nat.min_self]
    obtain ⟨gB,capB,rfl,hB1,hB2,hcB,hcB2,hfB,hclB⟩:∃ gB capB,s = .slice (some ⟨gB,0,none⟩) o.length capB∧w13.heap.size≤gB∧gB<wo.heap.size∧o.length≤capB∧capB≤maxLen∧(∀ j,wo.frozen? ⟨gB,j,none⟩=false)∧aJ jo wo gB 0 o:=by
     rcases HW.out.1.own.form with ⟨h1,h2⟩ | h2
     ·rw [h2] at hol;simp at hol;omega
     ·exact h2
    have HL0:=hid HW.out.1;have HBO:Hid (BL wo gB o):=hid ⟨hclB,hfB,fun x hx=>(HL0.out.co x hx).1,fun x hx bx off e=>fun e2=>((HL0.out.co x hx).2.2 bx off e).2 (by rw [e2];rfl)⟩;have HGR2:Hid (∀ j,j<N→wo.cell? ⟨gs,j,none⟩=some (.int .i64 (f j:Nat))):=hid (fun j hj=>HL0.out.out.cell (HGR.out j (by rw [← HNN.out];exact hj)) (fun q=>by have q:gs=gO:=q;have:=HGS.out;have:=HSZ.out;omega))
    have hqo:∀ y ∈ o,0≤y.b.mass∧0≤y.b.calm∧y.b.calm≤1000:=fun y hy=>by
     have h1:aF y ∈ zy st Q3 T:=by rw [← HMO.out];exact List.mem_map_of_mem hy
     unfold zy at h1;obtain ⟨i,hi,he⟩:=List.mem_iff_getElem.1 h1;rw [List.getElem_zipWith] at he;have hi2:i<Q3.length:=by rw [List.length_zipWith] at hi;omega
     have h2:=HQ.out Q3[i] (List.getElem_mem hi2);have e1:y.b=moveB Q3[i].1 Q3[i].2 (aX st (T[i]'(by rw [List.length_zipWith] at hi;omega))):=(congrArg Prod.fst he).symm;rw [e1];unfold moveB
     split <;> exact h2.2.2
    have HRS:=hid (E5 HBO.out hol.symm (fun y hy=>kI (HL0.out.co y hy).1 (HL0.out.co y hy).2.1) (fun y hy=>(hqo y hy).1) (fun y hy=>(hqo y hy).2) HGR2.out (by have:=HGS.out;have:=HSZ.out;omega) (fun j hj=>by rw [HNN.out];exact HFL.out j (by rw [← HNN.out];exact hj)) (by rw [← hol];exact hcB) (Nat.le_refl N) (by omega));have HCB:=hid (show N≤capB∧capB≤maxLen∧w13.heap.size≤gB from ⟨by omega,hcB2,hB1⟩);have z0:=HL0.out.oc.z0;have lz:=lt_of_cell z0;rw [hol] at z0;clear hclB hfB hqo HW HGR HGR2 HBO hcB hcB2 hB1 hlt hk
    go_wp2_with fail
    refine HRS.out.mono ?_;rintro e w15 ⟨rfl,hbl,ho15⟩;have HB15:=hid hbl;have HO15:Hid (Out (fun k=>k=gO) w13 w15):=hid (HL0.out.out.trans ho15 (fun i hi q=>by have q:i=gB:=q;have:=HCB.out.2.2;omega));have hgg:gO≠gB:=by have:=HCB.out;have:=HSZ.out;omega
    have HZO:Hid (ZS gO (.slice (some ⟨gB,0,none⟩) N capB) (.slice Aj2 nj2 cj2) (.slice none 0 0) gx gy st w15):=hid (by have h:=HL0.out.oc.out ho15 hgg;rw [hol] at h;exact h);have HZF:Hid (∀ j,w15.frozen? ⟨gO,j,none⟩=false):=hid (fun j=>(World.frozen?_of_block (ho15.block _ lz hgg)).trans (HL0.out.of j));have HF15:Hid (ZF w15 (gz+1)):=hid ((kF HX13.out HF4.out).out HO15.out (fun q=>by have q:gz+1=gO:=q;have:=HSZ.out;have:=HLO.out;omega))
    have HCOo:Hid (∀ y ∈ iP o f,∀ bx off,y.A=some ⟨bx,off,none⟩→w13.heap.size≤bx):=hid (fun y hy bx off e=>by
     obtain ⟨z,hz,e1,-⟩:=FR hy
     exact ((HL0.out.co z hz).2.2 bx off (by rw [← e1];exact e)).1)
    have HRL:Hid ((iP o f).length=N):=hid (by unfold iP;simp;exact hol);clear z0 lz hbl ho15 HRS HL0 hgg;obtain ⟨z0,z1,z2,z3,z4,z5⟩:=HZO.out;have zf:=HZF.out;have lz:=lt_of_cell z0;obtain ⟨⟨r0,r1,r2,r3,r4,r5,y0,y1,y2,y3,y4,y5⟩,yf⟩:=HF15.out;have ly:=lt_of_cell y0;have hgr:gO≠gz+1:=by have:=HSZ.out;have:=HLO.out;omega
    obtain ⟨wF,hwF⟩:∃ y,y=((((((w15.setCell ⟨gO,2,none⟩ (.slice B3 m3 d3)).setCell ⟨gz+1,0,none⟩ (.slice (some ⟨gB,0,none⟩) N capB)).setCell ⟨gz+1,1,none⟩ (.slice Aj2 nj2 cj2)).setCell ⟨gz+1,2,none⟩ (.slice B3 m3 d3)).setCell ⟨gz+1,3,none⟩ (.int .i64 gx)).setCell ⟨gz+1,4,none⟩ (.int .i64 gy)).setCell ⟨gz+1,5,none⟩ (.int .i64 st):=⟨_,rfl⟩;have HOF2:Hid (Out (fun k=>k=gO∨k=gz+1) w15 wF):=hid (by rw [hwF];exact (((((((Out.refl (fun k=>k=gO∨k=gz+1) w15).setCell (p:=⟨gO,2,none⟩) (.inr (.inl rfl)) _).setCell (p:=⟨gz+1,0,none⟩) (.inr (.inr rfl)) _).setCell (p:=⟨gz+1,1,none⟩) (.inr (.inr rfl)) _).setCell (p:=⟨gz+1,2,none⟩) (.inr (.inr rfl)) _).setCell (p:=⟨gz+1,3,none⟩) (.inr (.inr rfl)) _).setCell (p:=⟨gz+1,4,none⟩) (.inr (.inr rfl)) _).setCell (p:=⟨gz+1,5,none⟩) (.inr (.inr rfl)) _);have HOT:Hid (Out (fun k=>k=gO∨k=gz+1) w13 wF):=hid ((HO15.out.mono (fun i _ q=>Or.inl q)).trans HOF2.out (fun _ _ q=>q))
    have HRET:Hid (oI (zy st Q3 T) f Jl K3 gx gy st w (.returned (.tuple #[.agg #[.slice (some ⟨gB,0,none⟩) N capB,.slice Aj2 nj2 cj2,.slice B3 m3 d3,.int .i64 gx,.int .i64 gy,.int .i64 st],.int .i64 0])) wF):=hid (by
     have s1:=HSZ.out;have s2:=HLO.out;have s3:=HCB.out;have s4:=HB1.out.size;have s5:=HZ2.out;have s6:=HGZ.out;refine ⟨_,_,_,_,_,_,_,_,_,o,rfl,?_,?_,?_,HMO.out,?_⟩
     ·have hb : iH w15 (some ⟨gB, 0, none⟩) N capB (iP o f) := ⟨⟨HRL.out.symm, s3.1, by have := s3.2.1; unfold maxLen at this; omega, fun _ => ⟨gB, 0, rfl, HB15.out.cl⟩⟩, HB15.out.co⟩;refine hb.outD HOF2.out (fun b off e _ q=>?_) (fun y hy b off e _ q=>?_)
      ·cases e
       rcases q with q | q <;> omega
      ·have := HCOo.out y hy b off e
       rcases q with q | q <;> omega
     ·refine (HJX.out.below HX13.out).outD HOT.out (fun b off e _ q => ?_);have:=HNEO.out b off e
      rcases q with q | q <;> omega
     ·refine HK3.out.outD HOT.out (fun b off e _ q => ?_);have:=HFR3.out.2.2 b off e
      rcases q with q | q <;> omega
     ·have hw : Below w.heap.size w w13 := aj HX13.out HBS.out;refine HOT.out.toBelowD hw hw.size (fun k q=>?_)
      rcases q with q | q <;> omega)
    have q0:wF.cell? ⟨gz+1,0,none⟩=some (.slice (some ⟨gB,0,none⟩) N capB):=by rw [hwF];go_simp
    have q1:wF.cell? ⟨gz+1,1,none⟩=some (.slice Aj2 nj2 cj2):=by rw [hwF];go_simp
    have q2:wF.cell? ⟨gz+1,2,none⟩=some (.slice B3 m3 d3):=by rw [hwF];go_simp
    have q3:wF.cell? ⟨gz+1,3,none⟩=some (.int .i64 gx):=by rw [hwF];go_simp
    have q4:wF.cell? ⟨gz+1,4,none⟩=some (.int .i64 gy):=by rw [hwF];go_simp
    have q5:wF.cell? ⟨gz+1,5,none⟩=some (.int .i64 st):=by rw [hwF];go_simp
    clear HOF2 HOT;go_wp2;rw [← hwF];clear hwF;have HRE:=HRET.out;refine bodyPost_ret (v:=.tuple #[.agg #[.slice (some ⟨gB,0,none⟩) N capB,.slice Aj2 nj2 cj2,.slice B3 m3 d3,.int .i64 gx,.int .i64 gy,.int .i64 st],.int .i64 0]) (by simp [results,Tryz.results13,go_sem,q0,q1,q2,q3,q4,q5]) rfl HRE
end
end Go.Proofs.YtokgmcomgflloaaGreat
