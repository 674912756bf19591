/- Parts of a proof: contracts and laws. -/
import Derived.Test.YtokgmcomgflloaaGreatQA25
import Derived.Test.YtokgmcomgflloaaGreatQA34
import Derived.Test.YtokgmcomgflloaaGreatQA06
import Derived.Test.YtokgmcomgflloaaGreatQA21
import Derived.Test.YtokgmcomgflloaaGreatQA15
import Derived.Test.YtokgmcomgflloaaGreatQA14
import Derived.Test.YtokgmcomgflloaaGreatQA02
set_option maxRecDepth 100000
set_option maxHeartbeats 16000000
namespace Go.Proofs.YtokgmcomgflloaaGreat
section
set_option linter.unusedVariables false
set_option linter.unusedSimpArgs false
open Go.RowKit
variable {w0 w w':World}
theorem aL.farP {g:Nat} {b:Bd} {A:Option Addr} {n c:Nat} (h:aL w g b A n c) (k o:Nat) (v:Value) (hne:k≠g):aL (w.setCell ⟨k,o,none⟩ v) g b A n c :=
 ⟨aY hne h.c0,aY hne h.c1,aY hne h.c2,aY hne h.c3,aY hne h.c4,aY hne h.c5,aY hne h.c6,aY hne h.c7,aY hne h.c8,aY hne h.c9,aY hne h.c10,aY hne h.c11,aY hne h.c12,fun j=>by rw [World.frozen?_setCell];exact h.free j⟩
theorem CO : ∀ (l : List Bx) (i : Nat) (x : Bx), i < l.length → fB dP (l.set i x) = ((((fB dP l).set (i * 4) (.int .i64 x.1.1)).set (i * 4 + 1) (.int .i64 x.1.2)).set (i * 4 + 2) (.int .i64 x.2.1)).set (i * 4 + 3) (.int .i64 x.2.2)
 | [],i,x,h=>by simp at h
 | a :: l,0,x,_=>by simp [fB,dP]
 | a :: l,i+1,x,h=>by
  have ih:=CO l i x (by simpa using h)
  have e:(i+1)*4=i*4+1+1+1+1:=by omega
  rw [List.set_cons_succ,show fB dP (a :: l.set i x)=dP.enc a ++ fB dP (l.set i x) from rfl,ih,show fB dP (a :: l)=dP.enc a ++ fB dP l from rfl,e]
  simp [dP,List.set_cons_succ,Nat.add_assoc]
theorem aU.put4P {B g cap n:Nat} {e:TypeId} {l:List Bx} (h:aU dP e w B (.slice (some ⟨g,0,none⟩) n cap) l) {i:Nat} (x:Bx) (hi:i<l.length):aU dP e ((((w.setCell ⟨g,i*4,none⟩ (.int .i64 x.1.1)).setCell ⟨g,i*4+1,none⟩ (.int .i64 x.1.2)).setCell ⟨g,i*4+2,none⟩ (.int .i64 x.2.1)).setCell ⟨g,i*4+3,none⟩ (.int .i64 x.2.2)) B (.slice (some ⟨g,0,none⟩) n cap) (l.set i x):=by
 have hn:n=l.length:=by
  obtain ⟨-,h2 | ⟨g',cap',cur,hv,_⟩⟩:=h
  ·cases h2.1
  ·cases hv;rfl
 subst hn;unfold aU at h ⊢;rw [CO l i x hi,List.length_set];exact ((((h.stored _ _).1.stored _ _).1.stored _ _).1.stored _ _).1

def IQ (b:Bd) (l:List V):Bx:=if aT b l≠0 then ((0,0),(0,0)) else ((Av (wK (dO b l)),Av (xG (dO b l))),(BP (wK (dO b l)),BP (xG (dO b l))))
theorem GU (b:Bd) (l:List V):yQ b l=Js (IQ b l):=by
 unfold yQ IQ
 split <;> rfl

def vJ (st:Int) (b:Bd):Int:=aX (rE b.vx b.vy) st
def Ep (st:Int) (b:Bd):Int:=(vJ st b).tdiv 64+65536
def Pg (st:Int) (b:Bd) (l:List V):Bx:=Ec (IQ b l) (IQ (moveB b l st) l)
def swB (st:Int) (q:QB):Bx:=(((dI (Pg st q.1 q.2).1.1 (Ep st q.1),dI (Pg st q.1 q.2).1.2 (Ep st q.1))),(bT (Pg st q.1 q.2).2.1 (Ep st q.1),bT (Pg st q.1 q.2).2.2 (Ep st q.1)))
def Gg (st:Int) (b:Bd):Bool:=decide (vJ st b > 16384)
def xP (st:Int) (Q:List QB) (j:Nat):Bool:=match Q[j]? with | some q=>Gg st q.1 | none=>false
theorem Ot (st:Int) (b:Bd):IntKind.i64.wrap ((vJ st b).tdiv 64)=(vJ st b).tdiv 64∧IntKind.i64.wrap ((vJ st b).tdiv 64+65536)=Ep st b:=by
 have h:=sM (rE b.vx b.vy) st
 have h2 : -1099511627776≤(vJ st b).tdiv 64∧(vJ st b).tdiv 64≤1099511627776:=by
  unfold vJ;have h3:=Int.mul_tdiv_add_tmod (aX (rE b.vx b.vy) st) 64;have h4:=Int.tmod_lt_of_pos (aX (rE b.vx b.vy) st) (show (0:Int)<64 by omega);have h5:=Int.lt_tmod_of_pos (aX (rE b.vx b.vy) st) (show (0:Int)<64 by omega);omega
 exact ⟨IntWalk.i64_in _ (by omega),IntWalk.i64_in _ (by omega)⟩
theorem aU.freeP {B g cap n:Nat} {e:TypeId} {l:List Bx} (h:aU dP e w B (.slice (some ⟨g,0,none⟩) n cap) l):∀ j,w.frozen? ⟨g,j,none⟩=false:=by
 rcases h.form with ⟨h1,-⟩ | ⟨g',cap',hv,-,-,-,-,hf,-⟩
 ·cases h1
 ·cases hv;exact hf

structure OM (w0 : World) (gf n k : Nat) (st : Int) (L : List BE) (s : Value) (wr : World) : Prop where
 own:aU dP 64 wr (gf+1) s (((L.take k).map aF).map (swB st))
 fc:∀ j,j<n→wr.cell? ⟨gf,j,none⟩=some (.bool (decide (j<k) && xP st (L.map aF) j))
 fr:∀ j,wr.frozen? ⟨gf,j,none⟩=false
 bel:Below w0.heap.size w0 wr
 ge:w0.heap.size≤gf∧gf<wr.heap.size
theorem OM.keep {gf n k:Nat} {st:Int} {L:List BE} {s:Value} {wr w':World} (hb:Below wr.heap.size wr w') (h:OM w0 gf n k st L s wr):OM w0 gf n k st L s w' :=
 ⟨h.own.below hb,fun j hj=>keepCell hb (h.fc j hj),fun j=>(World.frozen?_of_block (hb.block _ h.ge.2)).trans (h.fr j),aj hb h.bel,h.ge.1,Nat.lt_of_lt_of_le h.ge.2 hb.size⟩

structure tF (w0 : World) (gf n m : Nat) (st : Int) (L : List BE) (s : Value) (o : List Bx) (gb : Nat) (x : BE) (wr : World) : Prop where
 own:aU dP 64 wr (gf+1) s o
 fc:∀ j,j<n→wr.cell? ⟨gf,j,none⟩=some (.bool (decide (j<m) && xP st (L.map aF) j))
 fr:∀ j,wr.frozen? ⟨gf,j,none⟩=false
 bel:Below w0.heap.size w0 wr
 ge:w0.heap.size≤gf∧gf<gb
 bd:aL wr gb x.b x.A x.n x.c
 sx:Sl wr x.A x.n x.c x.l
 nb:∀ k,s.ownBlock=some k→k≠gb
theorem tF.keep {gf n m:Nat} {st:Int} {L:List BE} {s:Value} {o:List Bx} {gb:Nat} {x:BE} {wr w':World} (hb:Below wr.heap.size wr w') (h:tF w0 gf n m st L s o gb x wr):tF w0 gf n m st L s o gb x w' :=
 ⟨h.own.below hb,fun j hj=>keepCell hb (h.fc j hj),fun j=>(World.frozen?_of_block (hb.block _ (Nat.lt_trans h.ge.2 h.bd.lt))).trans (h.fr j),aj hb h.bel,h.ge,aM hb h.bd,h.sx.below hb,h.nb⟩
theorem tF.drew {gf n m:Nat} {st:Int} {L:List BE} {s:Value} {o:List Bx} {gb:Nat} {x:BE} {wr:World} (h:tF w0 gf n m st L s o gb x wr):tF w0 gf n m st L s o gb x wr.drew:=h.keep (Below.refl _ _).drew

theorem tF.fast {gf n k:Nat} {st:Int} {L:List BE} {s:Value} {o:List Bx} {gb:Nat} {x:BE} {wr:World} (h:tF w0 gf n k st L s o gb x wr) (hk:k<n) (hx:xP st (L.map aF) k=Gg st x.b) (hA:∀ bx off,x.A=some ⟨bx,off,none⟩→bx≠gf) :
  tF w0 gf n (k+1) st L s o gb x (wr.setCell ⟨gf,k,none⟩ (.bool (Gg st x.b))):=by
 obtain ⟨l1,l2⟩:=h.ge;refine ⟨h.own.off (fun q hq=>by have:=(h.own.lt hq).1;omega) k _,fun j hj=>?_,eu h.fr _ _,h.bel.setCell (p:=⟨gf,k,none⟩) l1 _,h.ge,h.bd.farP gf k _ (by omega),h.sx.setAt hA,h.nb⟩
 by_cases e:j=k
 ·subst e;rw [decide_eq_true (by omega),Bool.true_and,hx];exact nE (h.fc j hj)
 ·rw [show decide (j < k + 1) = decide (j < k) from by by_cases c : j < k <;> simp [c] <;> omega];exact iG (h.fc j hj) (fun q=>e q.symm)

theorem tF.app {gf n m:Nat} {st:Int} {L:List BE} {s s':Value} {o o':List Bx} {gb:Nat} {x:BE} {wa w w':World} (h:tF w0 gf n m st L s o gb x wa) (hba:Below wa.heap.size wa w) (ho:aU dP 64 w' (gf+1) s' o') (hg:w.grownBy w' s.ownBlock) (hat:s'.ownBlock=s.ownBlock∨s'.ownBlock=some w.heap.size) (hA:∀ bx off,x.A=some ⟨bx,off,none⟩→some bx≠s.ownBlock):tF w0 gf n m st L s' o' gb x w':=by
 have h1:=h.keep hba
 have hne:∀ q,q=gf∨q=gb→some q≠s.ownBlock:=fun q hq e=>by
  rcases hq with rfl | rfl
  ·have:=(h.own.lt e.symm).1;omega
  ·exact h.nb q e.symm rfl
 have lb:=h1.bd.lt;have lf:gf<w.heap.size:=Nat.lt_trans h1.ge.2 lb;have eb:=hg.block gb lb (hne gb (.inr rfl));have ef:=hg.block gf lf (hne gf (.inl rfl));refine ⟨ho,fun j hj=>(World.cell?_of_block ef).trans (h1.fc j hj),fun j=>(World.frozen?_of_block ef).trans (h1.fr j),h1.bel.grown hg h1.bel.size (fun q hq=>by have:=(h1.own.lt hq).1;have:=h1.ge.1;omega),h1.ge,?_,jh h1.sx hg hA,fun q hq=>?_⟩
 ·exact ⟨(World.cell?_of_block eb).trans h1.bd.c0,(World.cell?_of_block eb).trans h1.bd.c1,(World.cell?_of_block eb).trans h1.bd.c2,(World.cell?_of_block eb).trans h1.bd.c3,(World.cell?_of_block eb).trans h1.bd.c4,(World.cell?_of_block eb).trans h1.bd.c5,(World.cell?_of_block eb).trans h1.bd.c6,(World.cell?_of_block eb).trans h1.bd.c7,(World.cell?_of_block eb).trans h1.bd.c8,(World.cell?_of_block eb).trans h1.bd.c9,(World.cell?_of_block eb).trans h1.bd.c10,(World.cell?_of_block eb).trans h1.bd.c11,(World.cell?_of_block eb).trans h1.bd.c12,fun j=>(World.frozen?_of_block eb).trans (h1.bd.free j)⟩
 ·rcases hat with e | e
  ·exact h.nb q (by rw [← e];exact hq)
  ·rw [e] at hq;cases hq;omega
theorem tF.top {gf n m g n2 cap k:Nat} {st:Int} {L:List BE} {O:List Bx} {j1 j2 j3 j4:Int} {gb:Nat} {x:BE} {wr:World} (h:tF w0 gf n m st L (.slice (some ⟨g,0,none⟩) n2 cap) (O ++ [((j1,j2),(j3,j4))]) gb x wr) (hk:O.length=k) :
  wr.cell? ⟨g,k*4,none⟩=some (.int .i64 j1)∧wr.cell? ⟨g,k*4+1,none⟩=some (.int .i64 j2)∧wr.cell? ⟨g,k*4+2,none⟩=some (.int .i64 j3)∧wr.cell? ⟨g,k*4+3,none⟩=some (.int .i64 j4):=by
 subst hk
 rcases h.own.form with ⟨h1,-⟩ | ⟨g',cap',hv,-,-,-,-,-,hC⟩
 ·cases h1
 ·cases hv
  have:=hC.box (i:=O.length) (by simp);rw [show bG (O ++ [((j1,j2),(j3,j4))]) O.length=((j1,j2),(j3,j4)) from by unfold bG;simp] at this;simpa only [Nat.zero_add] using this
theorem tF.done {gf n m g n2 cap k:Nat} {st:Int} {L:List BE} {O:List Bx} {j:Bx} {gb:Nat} {x:BE} {wr:World} (h:tF w0 gf n m st L (.slice (some ⟨g,0,none⟩) n2 cap) (O ++ [j]) gb x wr) (hk:O.length=k) (y:Bx) (hT:((L.take m).map aF).map (swB st)=O ++ [y]) :
  OM w0 gf n m st L (.slice (some ⟨g,0,none⟩) n2 cap) ((((wr.setCell ⟨g,k*4,none⟩ (.int .i64 y.1.1)).setCell ⟨g,k*4+1,none⟩ (.int .i64 y.1.2)).setCell ⟨g,k*4+2,none⟩ (.int .i64 y.2.1)).setCell ⟨g,k*4+3,none⟩ (.int .i64 y.2.2)):=by
 subst hk;have hg:=h.own.lt (k:=g) rfl;obtain ⟨l1,l2⟩:=h.ge;have ho:=h.own.put4P (i:=O.length) y (by simp);rw [show (O ++ [j]).set O.length y=O ++ [y] from by simp,← hT] at ho;exact ⟨ho,fun q hq=>aY (by omega) (aY (by omega) (aY (by omega) (aY (by omega) (h.fc q hq)))),eu (eu (eu (eu h.fr _ _) _ _) _ _) _ _,(((h.bel.setCell (p:=⟨g,O.length*4,none⟩) (by show w0.heap.size≤g;omega) _).setCell (p:=⟨g,O.length*4+1,none⟩) (by show w0.heap.size≤g;omega) _).setCell (p:=⟨g,O.length*4+2,none⟩) (by show w0.heap.size≤g;omega) _).setCell (p:=⟨g,O.length*4+3,none⟩) (by show w0.heap.size≤g;omega) _,l1,by simp only [World.size_setCell];omega⟩
theorem tu (A:Option Addr) (n c:Nat) (L:List BE) (st:Int) (w:World) (hS:iH w A n c L) (hN:n≤64) (hlo:∀ y ∈ L,∀ bx off,y.A=some ⟨bx,off,none⟩→bx<w.heap.size) (hln:∀ y ∈ L,y.l.length≤1000) (hnf:∀ p ∈ jd ((L.map aF).map (swB st)),xP st (L.map aF) p.1=false∧xP st (L.map aF) p.2=false) :
  Calls Tryz.prog 50 #[.slice A n c,.int .i64 st] w (zS n (.int .i64 65536) w):=by
 have hn:=hS.sl.len;have hcap:=hS.sl.cap;have hbig:=hS.sl.big;subst hn;have HS:=hid hS;have HNF:=hid hnf;have HLO:=hid hlo;have HLN:=hid hln;have HRP:=hid (BJ w.heap.size 1 L.length 65536 (w.alloc (.cells #[.int .i64 65536] 3)) (by go_simp) (by omega));clear hS hnf hlo hln
 go_enter Tryz.func50,Tryz.ntmps50
 go_wp2_with fail
 refine HRP.out.mono ?_;rintro e w1 ⟨go,rfl,hg1,hg2,hgc,hgf,hb1⟩;have hbb1:Below w.heap.size w w1:=aj hb1 Ba;obtain ⟨rep,hrep⟩:∃ x:Array Value,x=(List.replicate L.length (Value.bool false)).toArray:=⟨_,rfl⟩;have hmk:∀ w:World,(Instr.makeSlice 163 (.int .i64 (L.length:Int)) (.int .i64 (L.length:Int))).run Tryz.prog w = .ok (.slice (some ⟨w.heap.size,0,none⟩) L.length L.length) (w.alloc (.cells rep 4)):=fun w=>by rw [hrep];exact mV L.length (by omega) w
 obtain ⟨w3,hw3⟩:∃ x,x=w1.alloc (.cells rep 4):=⟨_,rfl⟩;obtain ⟨gf,hgf2⟩:∃ x,x=w1.heap.size:=⟨_,rfl⟩;have hb3:Below w1.heap.size w1 w3:=by rw [hw3];exact (Below.refl _ _).alloc (Nat.le_refl _) _
 have h3:w3.heap[gf]? = some (.cells rep 4):=by rw [hw3,hgf2];exact heap_alloc_new w1 _
 have hgo:w.heap.size≤go:=by rw [World.size_alloc] at hg1;omega
 have HGO:Hid (w.heap.size≤go∧go<gf∧(∀ j,j<L.length→w1.cell? ⟨go,j,none⟩=some (.int .i64 65536))∧(∀ j,w1.frozen? ⟨go,j,none⟩=false)):=hid ⟨hgo,by omega,hgc,hgf⟩;have HB13:=hid hb3
 have HP0:Hid (OM w gf L.length 0 st L (.slice none 0 0) w3):=hid ⟨aU.nil _ _ _ _,fun j hj=>by
  unfold World.cell?
  rw [h3,hrep];show (List.replicate L.length (Value.bool false)).toArray[j]? = _;rw [List.getElem?_toArray,List.getElem?_replicate,if_pos hj]
  rfl,fun j=>by unfold World.frozen?;rw [h3];simp,aj hb3 hbb1,by have:=hbb1.size;omega,(Array.getElem?_eq_some_iff.1 h3).1⟩
 have HW13:Hid (w1.heap.size=gf):=hid hgf2.symm;clear HRP hg1 hg2 hgc hgf hb1 hbb1 hb3 h3 hgo hrep
 go_upto_region 4 with fail
 rw [← hw3,← hgf2];clear hw3 hgf2 hmk;go_wp2
 go_loopw [6,27] (fun s j wr=>∃ k:Nat,k≤L.length∧j = .int .i64 k∧Hid (OM w gf L.length k st L s wr∧Below w1.heap.size w1 wr)) (fun _ j _=>L.length-(intOf j).toNat)
 case atStart=>exact ⟨0,Nat.zero_le _,rfl,hid ⟨HP0.out,HB13.out⟩⟩
 case round =>
  clear HP0 HB13;obtain ⟨k,hk,rfl,HW⟩:=hrel;obtain ⟨wo,rfl⟩:∃ wo:World,wo=wr:=⟨_,rfl⟩;obtain ⟨s,hs⟩:∃ s,s=u6:=⟨_,rfl⟩;rw [← hs] at HW ⊢;clear hs
  by_cases hlt:k<L.length
  ·have hlt' : (k : Int) < (L.length : Int) := by omega
   have hwk:IntKind.i64.wrap ((k:Int)+1)=(k:Int)+1:=IntWalk.i64_in _ (by omega);have HSo:=HS.out.below HW.out.1.bel;obtain ⟨bL,oL,rfl,hCL⟩:=HSo.sl.at_ (by intro h;rw [h] at hlt;simp at hlt);obtain ⟨x,hx⟩:∃ x,x=L[k]:=⟨_,rfl⟩;have hxm:x ∈ L:=by rw [hx];exact List.getElem_mem hlt
   have hxs:Sl wo x.A x.n x.c x.l:=HSo.co x hxm;have hLK:(L.map aF)[k]? = some (aF x):=by rw [List.getElem?_map,List.getElem?_eq_getElem hlt,← hx];rfl
   have HFN:Hid (xP st (L.map aF) k=Gg st x.b):=hid (by unfold xP;rw [hLK];rfl);have HTK:Hid (((L.take (k+1)).map aF).map (swB st)=((L.take k).map aF).map (swB st) ++ [swB st (aF x)]):=hid (by rw [List.take_add_one,List.getElem?_eq_getElem hlt,← hx];simp);obtain ⟨d0,d1,d2,d3,d4,d5,d6,d7,d8,d9,d10,d11,d12⟩:=dD hCL hlt hx;have hbl:=hCL.lt;have HAB:Hid (∀ bx off,x.A=some ⟨bx,off,none⟩→bx<w.heap.size):=hid (HLO.out x hxm);obtain ⟨w5,hw5⟩:∃ y,y=wo.alloc (.cells #[.int .i64 x.b.px,.int .i64 x.b.py,.int .i64 x.b.vx,.int .i64 x.b.vy,.int .i64 x.b.ang,.int .i64 x.b.spin,.int .i64 x.b.mass,.int .i64 x.b.iner,.int .i64 x.b.bounce,.int .i64 x.b.rub,.slice x.A x.n x.c,.bool x.b.asleep,.int .i64 x.b.calm] 27):=⟨_,rfl⟩;obtain ⟨gb,hgb⟩:∃ y,y=wo.heap.size:=⟨_,rfl⟩;have hb5:Below wo.heap.size wo w5:=by rw [hw5];exact (Below.refl _ _).alloc (Nat.le_refl _) _
   have HR5:Hid (tF w gf L.length k st L s (((L.take k).map aF).map (swB st)) gb x w5):=hid (by
    have h:=HW.out.1.keep hb5
    refine ⟨h.own,h.fc,h.fr,h.bel,⟨h.ge.1,by rw [hgb];exact HW.out.1.ge.2⟩,by rw [hw5,hgb];exact aL.here wo x.b x.A x.n x.c _,hxs.below hb5,fun q hq=>by have:=(HW.out.1.own.lt hq).2;omega⟩)
   have HGK:=hid HW.out.1.ge;have HSN:Hid (∀ q,s.ownBlock=some q→gf<q∧q<gb):=hid (fun q hq=>by have:=HW.out.1.own.lt hq;rw [hgb];omega);have HBB:Hid (Below w1.heap.size w1 w5):=hid (aj hb5 HW.out.2);have HOL:Hid ((((L.take k).map aF).map (swB st)).length=k):=hid (by simp;omega);obtain ⟨O,hO⟩:∃ O,O=((L.take k).map aF).map (swB st):=⟨_,rfl⟩;rw [← hO] at HR5 HTK HOL;obtain ⟨lv,hlv⟩:∃ y,y=rE x.b.vx x.b.vy:=⟨_,rfl⟩;have HVL:Hid (∀ w,Calls Tryz.prog 10 #[aR x.b.vx x.b.vy] w (dG (.int .i64 lv) w)):=hid (fun w=>by rw [hlv];exact rG x.b.vx x.b.vy w);obtain ⟨mv,hmv⟩:∃ y,y=aX lv st:=⟨_,rfl⟩;have HMV:Hid (∀ w,Calls Tryz.prog 52 #[.int .i64 lv,.int .i64 st] w (dG (.int .i64 mv) w)):=hid (fun w=>by rw [hmv];exact bM lv st w);have HFB:Hid (Gg st x.b=decide (mv > 16384)):=hid (by unfold Gg vJ;rw [← hlv,← hmv])
   have HMR:Hid (Ep st x.b=mv.tdiv 64+65536∧IntKind.i64.wrap (mv.tdiv 64)=mv.tdiv 64∧IntKind.i64.wrap (mv.tdiv 64+65536)=mv.tdiv 64+65536):=hid (by
    have h:=Ot st x.b;unfold Ep vJ at h;rw [← hlv,← hmv] at h
    exact ⟨by unfold Ep vJ;rw [← hlv,← hmv],h.1,h.2⟩)
   have HXL:Hid (x.l.length≤8796093022208):=hid (by have h1:=HLN.out x hxm;omega);clear hxs hLK hx hxm HSo hCL HW hb5 hO hlv hmv
   go_upto_region 7 with fail
   rw [← hw5,← hgb];clear hw5 hgb d0 d1 d2 d3 d4 d5 d6 d7 d8 d9 d10 d11 d12 hbl;obtain ⟨c0,c1,c2,c3,c4,c5,c6,c7,c8,c9,c10,c11,c12,cf⟩:=HR5.out.bd;have lb:=lt_of_cell c0
   go_wp2_with fail
   refine (HVL.out _).mono ?_;rintro e w6 ⟨rfl,hb6⟩;replace HR5:=hid (HR5.out.keep hb6);replace HBB:=hid (aj hb6 HBB.out);clear hb6
   go_wp2_with fail
   refine (HMV.out _).mono ?_;rintro e w7 ⟨rfl,hb7⟩;replace HR5:=hid (HR5.out.keep hb7);replace HBB:=hid (aj hb7 HBB.out);clear hb7 c0 c1 c2 c3 c4 c5 c6 c7 c8 c9 c10 c11 c12 cf lb;have ck:=HR5.out.fc k hlt;have cfr:=HR5.out.fr;have lk:=lt_of_cell ck;obtain ⟨w8,hw8⟩:∃ y,y=w7.setCell ⟨gf,k,none⟩ (.bool (decide (mv > 16384))):=⟨_,rfl⟩
   have HR8:Hid (tF w gf L.length (k+1) st L s O gb x w8):=hid (by
    have h:=HR5.out.fast hlt HFN.out (fun bx off e=>by have:=HAB.out bx off e;have:=HGK.out.1;omega);rw [HFB.out] at h
    rw [hw8];exact h)
   have HB8:Hid (Below w1.heap.size w1 w8):=hid (by rw [hw8];exact HBB.out.setCell (p:=⟨gf,k,none⟩) (by rw [HW13.out];exact Nat.le_refl _) _);clear HR5 HBB;obtain ⟨⟨⟨a1,a2⟩,a3,a4⟩,ha⟩:∃ a,a=IQ x.b x.l:=⟨_,rfl⟩;have HBD1:Hid (∀ w',Sl w' x.A x.n x.c x.l→Calls Tryz.prog 28 #[dK x.b x.A x.n x.c] w' (dG (Js ((a1,a2),(a3,a4))) w')):=hid (fun w' h=>by have:=mM x.b x.A x.n x.c x.l w' h;rw [GU,← ha] at this;exact this);obtain ⟨mb,hmb⟩:∃ y,y=moveB x.b x.l st:=⟨_,rfl⟩;have HMV2:Hid (∀ w',Sl w' x.A x.n x.c x.l→Calls Tryz.prog 51 #[dK x.b x.A x.n x.c,.int .i64 st] w' (nK mb x.l w')):=hid (fun w' h=>by have:=wS x.b x.A x.n x.c x.l st w' h HXL.out;rw [← hmb] at this;exact this);obtain ⟨⟨⟨b1,b2⟩,b3,b4⟩,hb⟩:∃ a,a=IQ mb x.l:=⟨_,rfl⟩;have HBD2:Hid (∀ w' A n c,Sl w' A n c x.l→Calls Tryz.prog 28 #[dK mb A n c] w' (dG (Js ((b1,b2),(b3,b4))) w')):=hid (fun w' A n c h=>by have:=mM mb A n c x.l w' h;rw [GU,← hb] at this;exact this);obtain ⟨⟨⟨j1,j2⟩,j3,j4⟩,hj⟩:∃ a,a=Pg st x.b x.l:=⟨_,rfl⟩
   have HJN:Hid (∀ w',Calls Tryz.prog 120 #[Js ((a1,a2),(a3,a4)),Js ((b1,b2),(b3,b4))] w' (dG (Js ((j1,j2),(j3,j4))) w')):=by
    have e:((j1,j2),(j3,j4))=Ec ((a1,a2),(a3,a4)) ((b1,b2),(b3,b4)):=by rw [hj,ha,hb,hmb];rfl
    refine hid (fun w'=>?_);have h:=Ef a1 a2 a3 a4 b1 b2 b3 b4 w';rw [← e] at h;exact h
   obtain ⟨fr,hfr⟩:∃ y,y=mv.tdiv 64+65536:=⟨_,rfl⟩;obtain ⟨s1,hs1⟩:∃ y,y=dI j1 fr:=⟨_,rfl⟩;obtain ⟨s2,hs2⟩:∃ y,y=dI j2 fr:=⟨_,rfl⟩;obtain ⟨s3,hs3⟩:∃ y,y=bT j3 fr:=⟨_,rfl⟩;obtain ⟨s4,hs4⟩:∃ y,y=bT j4 fr:=⟨_,rfl⟩;have HSB:Hid (∀ w',Calls Tryz.prog 11 #[aR j1 j2,aR fr fr] w' (dG (aR s1 s2) w')):=hid (fun w'=>by rw [hs1,hs2];exact je j1 j2 fr fr w');have HAD:Hid (∀ w',Calls Tryz.prog 89 #[aR j3 j4,aR fr fr] w' (dG (aR s3 s4) w')):=hid (fun w'=>by rw [hs3,hs4];exact jR j3 j4 fr fr w')
   replace HTK:Hid (((L.take (k+1)).map aF).map (swB st)=O ++ [((s1,s2),(s3,s4))]):=hid (by
    rw [HTK.out]
    congr 2
    show swB st (x.b,x.l)=_;unfold swB;dsimp only
    rw [HMR.out.1,← hfr,← hj,hs1,hs2,hs3,hs4])
   have hw1:=HMR.out.2.1;have hw2:=HMR.out.2.2;have HFR:=hid hfr;clear ha hmb hb hj hs1 hs2 hs3 hs4 hfr HMR
   go_upto_region 8 with fail
   rw [← hw8];clear hw8 ck cfr lk;refine wp_region_noPanic ?_;refine au (S:=(S2 (fun w'=>tF w gf L.length (k+1) st L s O gb x w'∧Below w1.heap.size w1 w'))) (T:=(fun j=>[0,0,0,0,0,0,0,0,0,1].getD j 0)) (by kernel_rfl) (aC ⟨HR8.out.drew,HB8.out.drew⟩) (fun hH=>?_);have hWr1:aH (S2 (fun w'=>tF w gf L.length (k+1) st L s O gb x w'∧Below w1.heap.size w1 w')):=aK _;refine dn [(0,41),(1,42),(3,44),(4,45)] 7 0 0 (L':=?Lr1_1) hWr1 hH ?yr1_1 ?_
   case yr1_1=>((iterate 4 apply dA;rfl;kernel_rfl;intro w' hSw;replace hSw:=aA hSw;(try dsimp only at hSw);have q0:=hSw.1;have q1:=hSw.2;obtain ⟨qa0_0,qa0_1,qa0_2,qa0_3,qa0_4,qa0_5,qa0_6,qa0_7,qa0_8,qa0_9,qa0_10,qa0_11,qa0_12,qa0_f⟩:=(q0).bd;(try simp only [sB,sC]);go_simp;(try with_reducible rfl));exact dw)
   simp only [sB,sC];refine U1 2 0 rfl (fun K hK=>?_)
   try clear hb
   have hG:=hH;replace hG:=aA hG;(try dsimp only at hG);have fq0:=hG.1;have fq1:=hG.2;go_simp
   (go_at_call 28;refine (HBD1.out _ fq0.sx).mono ?_;rintro e wn ⟨rfl,hb⟩)
   refine hK.out _ _ (aC (by have hG:=hH;replace hG:=aA hG;(try dsimp only at hG);have q0:=hG.1;have q1:=hG.2;exact ⟨tF.keep hb q0,aj hb q1⟩)) (fun hH2=>?_);clear hK K hH
   rename _=>hH
   try simp only [Act.put,sA,sB,sC]
   clear hG fq0 fq1;refine U1 5 0 rfl (fun K hK=>?_)
   try clear hb
   have hG:=hH;replace hG:=aA hG;(try dsimp only at hG);have fq0:=hG.1;have fq1:=hG.2;go_simp
   (go_at_call 51;refine (HMV2.out _ fq0.sx).mono ?_;rintro e wn ⟨A3,n3,c3,rfl,hs3,-,hb⟩)
   refine hK.out _ _ (aC (by have hG:=hH;replace hG:=aA hG;(try dsimp only at hG);have q0:=hG.1;have q1:=hG.2;exact ⟨tF.keep hb q0,aj hb q1⟩)) (fun hH2=>?_);clear hK K hH
   rename _=>hH
   try simp only [Act.put,sA,sB,sC]
   clear hG fq0 fq1;refine U1 6 0 rfl (fun K hK=>?_)
   try clear hb
   go_simp
   (go_at_call 28;refine (HBD2.out _ _ _ _ hs3).mono ?_;rintro e wn ⟨rfl,hb⟩)
   refine hK.out _ _ (aC (by have hG:=hH;replace hG:=aA hG;(try dsimp only at hG);have q0:=hG.1;have q1:=hG.2;exact ⟨tF.keep hb q0,aj hb q1⟩)) (fun hH2=>?_);clear hK K hH
   rename _=>hH
   try simp only [Act.put,sA,sB,sC]
   clear hs3;refine U1 7 0 rfl (fun K hK=>?_)
   try clear hb
   go_simp
   (go_at_call 120;refine (HJN.out _).mono ?_;rintro e wn ⟨rfl,hb⟩)
   refine hK.out _ _ (aC (by have hG:=hH;replace hG:=aA hG;(try dsimp only at hG);have q0:=hG.1;have q1:=hG.2;exact ⟨tF.keep hb q0,aj hb q1⟩)) (fun hH2=>?_);clear hK K hH
   rename _=>hH
   try simp only [Act.put,sA,sB,sC]
   refine U1 8 0 rfl (fun K hK=>?_)
   try clear hb
   have hG:=hH;replace hG:=aA hG;(try dsimp only at hG);have fq0:=hG.1;have fq1:=hG.2;go_simp;refine hK.out _ _ (aC (by have hG:=hH;replace hG:=aA hG;(try dsimp only at hG);have q0:=hG.1;have q1:=hG.2;exact ⟨tF.keep Ba q0,aj Ba q1⟩)) (fun hH2=>?_);clear hK K hH
   rename _=>hH
   try simp only [Act.put,sA,sB,sC]
   clear hG;refine U1 9 1 rfl (fun K hK=>?_)
   (refine iy JI (by rfl) _ _ (by rfl) (gf+1) _ _ (by rfl) (fq0.own.alloc _) _ 0 1 1 [((j1,j2),(j3,j4))] (by rfl) (by rfl) (yF (by go_simp) (by go_simp) (by go_simp) (by go_simp)) (by have:=HOL.out;simp;omega) (by have:=HOL.out;simp;omega) (by have:=fq0.ge.2;have:=fq0.bd.lt;simp;omega) ?_;intro s' w9 ho1 hg1 hat)
   refine hK.out _ _ (dY) (fun hH2=>?_);clear hK K hH
   rename _=>hH
   try simp only [Act.put,List.getElem_toArray,List.getElem_cons_succ,List.getElem_cons_zero,sA,sB,sC]
   have HR9:=hid (fq0.app (by go_grown) ho1 hg1 hat (fun bx off e e2=>by have:=HAB.out bx off e;have:=HSN.out bx e2.symm;have:=HGK.out.1;omega));have HB9:Hid (Below w1.heap.size w1 w9):=hid ((aj Ba fq1).grown hg1 (aj Ba fq1).size (fun q hq=>by have:=HSN.out q hq;have:=HW13.out;omega));clear ho1 hg1 hat fq0 fq1;refine Ut 10 6 0 1 1 (v:=?vr1_11) rfl hWr1 hH ?yr1_11 ?_
   case yr1_11=>(intro w' hSw;clear hSw;go_simp;try (with_reducible rfl))
   simp only [sB,sC];refine ak (by kernel_rfl) ?_ _ _;refine NoPanic.normal ?_
   obtain ⟨g,cap,rfl,hgg,-,-,hcap9,-,-⟩:∃ g cap,s' = .slice (some ⟨g,0,none⟩) (O ++ [((j1,j2),(j3,j4))]).length cap∧gf+1≤g∧_∧_∧_∧_∧_:=by
    rcases HR9.out.own.form with ⟨-,h2⟩ | h2
    ·simp at h2
    ·exact h2
   have HGG:Hid (w1.heap.size≤g):=hid (by rw [HW13.out];omega);obtain ⟨n9,hn9⟩:∃ n9,n9=(O ++ [((j1,j2),(j3,j4))]).length:=⟨_,rfl⟩;rw [← hn9] at HR9 ⊢;have hk9:(k:Int)<(n9:Int):=by rw [hn9];have:=HOL.out;simp;omega
   clear hn9 hgg;obtain ⟨-,-,c2,c3,-,-,-,-,-,-,-,-,-,-⟩:=HR9.out.bd;have lb:=lt_of_cell c2
   go_wp2_with fail
   refine (HVL.out _).mono ?_;rintro e w10 ⟨rfl,hb10⟩;replace HR9:=hid (HR9.out.keep hb10);replace HB9:=hid (aj hb10 HB9.out);clear hb10
   go_wp2_with fail
   refine (HMV.out _).mono ?_;rintro e w11 ⟨rfl,hb11⟩;replace HR9:=hid (HR9.out.keep hb11);replace HB9:=hid (aj hb11 HB9.out);clear hb11 c2 c3 lb
   go_upto_region 10 with fail
   rw [← HFR.out];clear hw1 hw2;refine wp_region_noPanic ?_;refine au (S:=(S2 (fun w'=>tF w gf L.length (k+1) st L (.slice (some ⟨g,0,none⟩) n9 cap) (O ++ [((j1,j2),(j3,j4))]) gb x w'∧Below w1.heap.size w1 w'))) (T:=(fun j=>[0,0,0,0,0,0,0,0,0,0,0,0,0,0,0,0,0,0,0,0,0,0,0,0,1,0,0,1].getD j 0)) (by kernel_rfl) (aC ⟨HR9.out.drew,HB9.out.drew⟩) (fun hH=>?_);have hWr2:aH (S2 (fun w'=>tF w gf L.length (k+1) st L (.slice (some ⟨g,0,none⟩) n9 cap) (O ++ [((j1,j2),(j3,j4))]) gb x w'∧Below w1.heap.size w1 w')):=aK _;refine dn [(0,58),(1,59),(4,62),(5,63),(6,64),(7,65),(8,66),(9,67),(10,68),(11,69),(13,71),(14,72),(15,73),(16,74),(17,75),(18,76),(19,77),(20,78)] 10 0 0 (L':=?Lr2_1) hWr2 hH ?yr2_1 ?_
   case yr2_1=>((iterate 18 apply dA;rfl;kernel_rfl;intro w' hSw;replace hSw:=aA hSw;(try dsimp only at hSw);have q0:=hSw.1;have q1:=hSw.2;obtain ⟨qa0_0,qa0_1,qa0_2,qa0_3⟩:=(q0).top HOL.out;(try simp only [sB,sC]);go_simp;(try with_reducible rfl));exact dw)
   simp only [sB,sC];refine dn [(2,60),(3,61)] 8 1 0 (L':=?Lr2_19) hWr2 hH ?yr2_19 ?_
   case yr2_19=>((iterate 2 apply dA;rfl;kernel_rfl;intro w' hSw;clear hSw;(try simp only [sB,sC]);go_simp;(try with_reducible rfl));exact dw)
   simp only [sB,sC];refine U1 12 0 rfl (fun K hK=>?_)
   try clear hb
   go_simp
   (go_at_call 11;refine (HSB.out _).mono ?_;rintro e wn ⟨rfl,hb⟩)
   refine hK.out _ _ (aC (by have hG:=hH;replace hG:=aA hG;(try dsimp only at hG);have q0:=hG.1;have q1:=hG.2;exact ⟨tF.keep hb q0,aj hb q1⟩)) (fun hH2=>?_);clear hK K hH
   rename _=>hH
   try simp only [Act.put,sA,sB,sC]
   refine U1 21 0 rfl (fun K hK=>?_)
   try clear hb
   go_simp
   (go_at_call 89;refine (HAD.out _).mono ?_;rintro e wn ⟨rfl,hb⟩)
   refine hK.out _ _ (aC (by have hG:=hH;replace hG:=aA hG;(try dsimp only at hG);have q0:=hG.1;have q1:=hG.2;exact ⟨tF.keep hb q0,aj hb q1⟩)) (fun hH2=>?_);clear hK K hH
   rename _=>hH
   try simp only [Act.put,sA,sB,sC]
   refine dn [(22,80),(23,81)] 4 0 0 (L':=?Lr2_23) hWr2 hH ?yr2_23 ?_
   case yr2_23=>((iterate 2 apply dA;rfl;kernel_rfl;intro w' hSw;clear hSw;(try simp only [sB,sC]);go_simp;(try with_reducible rfl));exact dw)
   simp only [sB,sC];refine U1 24 1 rfl (fun K hK=>?_)
   try clear hb
   have hG:=hH;replace hG:=aA hG;(try dsimp only at hG);have fq0:=hG.1;have fq1:=hG.2;obtain ⟨fqa0_0,fqa0_1,fqa0_2,fqa0_3⟩:=(fq0).top HOL.out;have hfz:=fq0.own.freeP;have hgl:=lt_of_cell fqa0_0;go_simp;refine hK.out _ _ (dY) (fun hH2=>?_);clear hK K hH
   rename _=>hH
   try simp only [Act.put,sA,sB,sC]
   clear hG;refine dn [(25,82),(26,83)] 1 1 1 (L':=?Lr2_26) hWr2 hH ?yr2_26 ?_
   case yr2_26=>((iterate 2 apply dA;rfl;kernel_rfl;intro w' hSw;clear hSw;(try simp only [sB,sC]);go_simp;(try with_reducible rfl));exact dw)
   simp only [sB,sC];refine U1 27 1 rfl (fun K hK=>?_);go_simp;refine hK.out _ _ (dY) (fun hH2=>?_);clear hK K hH
   rename _=>hH
   try simp only [Act.put,sA,sB,sC]
   refine ak (by kernel_rfl) ?_ _ _;refine NoPanic.normal ?_;have HN10:=hid (fq0.done HOL.out ((s1,s2),(s3,s4)) HTK.out);have HB10:Hid (Below w1.heap.size w1 _):=hid ((((fq1.setCell (p:=⟨g,k*4,none⟩) HGG.out (.int .i64 s1)).setCell (p:=⟨g,k*4+1,none⟩) HGG.out (.int .i64 s2)).setCell (p:=⟨g,k*4+2,none⟩) HGG.out (.int .i64 s3)).setCell (p:=⟨g,k*4+3,none⟩) HGG.out (.int .i64 s4));clear fq0 fq1 fqa0_0 fqa0_1 fqa0_2 fqa0_3 hfz hgl
   try clear hH
   go_wp2;go_roundw
   case rel=>exact ⟨k+1,hlt,by go_num,hid ⟨HN10.out,HB10.out⟩⟩
   case measure=>simp [intOf];omega
  ·have hke : k = L.length := by omega
   subst hke;obtain ⟨sA,sn,sc,rfl,hsl,-⟩:=HW.out.1.own.sl;rw [List.take_length] at hsl;have HPS:=hid HW.out.1;have HBW:=hid HW.out.2;obtain ⟨BX,hBX⟩:∃ B,B=(L.map aF).map (swB st):=⟨_,rfl⟩;have hbl:BX.length=L.length:=by rw [hBX];simp
   rw [← hBX] at hsl HNF;have HPC:=hid (CQ sA sn sc BX wo hsl (by omega));obtain ⟨P,hP⟩:∃ P,P=jd BX:=⟨_,rfl⟩;rw [← hP] at HPC HNF
   have HPL:Hid (∀ p ∈ P,p.1<L.length∧p.2<L.length):=hid (fun p hp=>by
    rw [hP] at hp;have:=nJ.1 hp
    omega)
   clear hsl hBX hbl hP HW hlt hk
   go_wp2_with fail
   refine HPC.out.mono ?_;rintro e w12 ⟨A4,n4,c4,rfl,hs4,-,hb4⟩;have hn4:=hs4.len;subst hn4;have hcap4:=hs4.cap;have hbig4:=hs4.big;have HS4:=hid hs4
   have HF12:Hid ((∀ j,j<L.length→w12.cell? ⟨gf,j,none⟩=some (.bool (xP st (L.map aF) j)))∧(∀ j,j<L.length→w12.cell? ⟨go,j,none⟩=some (.int .i64 65536))∧(∀ j,w12.frozen? ⟨go,j,none⟩=false)∧Below w.heap.size w w12∧go<w12.heap.size):=hid (by
    have hb1:=HW13.out;have hbw:=aj hb4 HBW.out;have hgo1:go<w1.heap.size:=by rw [hb1];exact HGO.out.2.1
    refine ⟨fun j hj=>?_,fun j hj=>keepCell hbw (HGO.out.2.2.1 j hj),fun j=>(World.frozen?_of_block (hbw.block _ hgo1)).trans (HGO.out.2.2.2 j),aj hb4 HPS.out.bel,Nat.lt_of_lt_of_le hgo1 hbw.size⟩;have h:=keepCell hb4 (HPS.out.fc j hj);rw [decide_eq_true hj,Bool.true_and] at h
    exact h)
   obtain ⟨fn,hfn⟩:∃ f:Nat→Bool,f=xP st (L.map aF):=⟨_,rfl⟩;rw [← hfn] at HF12 HNF;clear HPC hs4 hb4 HPS HBW hfn;go_wp2
   go_loopw [88] (fun j wr=>∃ t:Nat,t≤P.length∧j = .int .i64 t∧Hid (Below w12.heap.size w12 wr)) (fun j _=>P.length-(intOf j).toNat)
   case atStart=>exact ⟨0,Nat.zero_le _,rfl,hid (Below.refl _ _)⟩
   case round =>
    obtain ⟨t,ht,rfl,HB⟩:=hrel;obtain ⟨wq,rfl⟩:∃ wq:World,wq=wr:=⟨_,rfl⟩
    by_cases hlt:t<P.length
    ·have hlt' : (t : Int) < (P.length : Int) := by omega
     have hwk:IntKind.i64.wrap ((t:Int)+1)=(t:Int)+1:=IntWalk.i64_in _ (by omega);obtain ⟨p,hp⟩:∃ p,p=P[t]:=⟨_,rfl⟩;have hpm:p ∈ P:=by rw [hp];exact List.getElem_mem hlt
     obtain ⟨bP,oP,rfl,hCP⟩:=(HS4.out.below HB.out).at_ (by intro h;rw [h] at hlt;simp at hlt);obtain ⟨d0,d1⟩:=hCP.pairK hlt hp;have hbp:=hCP.lt;obtain ⟨f1,f2⟩:=HNF.out p hpm;obtain ⟨l1,l2⟩:=HPL.out p hpm;obtain ⟨i,j⟩:=p;dsimp only at d0 d1 f1 f2 l1 l2;have hi':(i:Int)<(L.length:Int):=by omega
     have hj':(j:Int)<(L.length:Int):=by omega
     obtain ⟨wp,hwp⟩:∃ y,y=wq.alloc (.cells #[.int .i64 (i:Nat),.int .i64 (j:Nat)] 72):=⟨_,rfl⟩;obtain ⟨gp,hgp⟩:∃ y,y=wq.heap.size:=⟨_,rfl⟩;have hbq:Below wq.heap.size wq wp:=by rw [hwp];go_grown
     have HBP:=hid (aj hbq HB.out);have E0:Hid (wp.cell? ⟨gp,0,none⟩=some (.int .i64 (i:Nat))):=hid (by rw [hwp,hgp];go_simp);have E1:Hid (wp.cell? ⟨gp,1,none⟩=some (.int .i64 (j:Nat))):=hid (by rw [hwp,hgp];go_simp);clear hCP hp hpm hbq HB
     go_upto_region 15 with fail
     rw [← hwp,← hgp];clear hwp hgp d0 d1 hbp;refine wp_region_noPanic ?_;refine au (S:=(S2 (fun w'=>w'.cell? ⟨gp,0,none⟩=some (.int .i64 (i:Nat))∧w'.cell? ⟨gp,1,none⟩=some (.int .i64 (j:Nat))∧Below w12.heap.size w12 w'))) (T:=(fun _=>0)) (by kernel_rfl) (aC ⟨E0.out,E1.out,HBP.out.drew⟩) (fun hH=>?_);have hWr3:aH (S2 (fun w'=>w'.cell? ⟨gp,0,none⟩=some (.int .i64 (i:Nat))∧w'.cell? ⟨gp,1,none⟩=some (.int .i64 (j:Nat))∧Below w12.heap.size w12 w')):=aK _;refine dn [(0,92),(1,93),(2,94),(3,95),(4,13),(5,14)] 0 0 0 (L':=?Lr3_1) hWr3 hH ?yr3_1 ?_
     case yr3_1=>((iterate 6 apply dA;rfl;kernel_rfl;intro w' hSw;replace hSw:=aA hSw;(try dsimp only at hSw);have q0:=hSw.1;have q1:=hSw.2.1;have q2:=hSw.2.2;(try simp only [sB,sC]);go_simp;(try with_reducible rfl));exact dw)
     simp only [sB,sC];refine ak (by kernel_rfl) ?_ _ _;refine NoPanic.normal ?_;replace hH:=aA hH
     (try dsimp only at hH)
     have q0:=hH.1;have q1:=hH.2.1;have q2:=hH.2.2;have HBQ:=hid q2;clear q0 q1 q2 hH;have g1:=keepCell HBQ.out (HF12.out.1 i l1);have g2:=keepCell HBQ.out (HF12.out.1 j l2);rw [f1] at g1;rw [f2] at g2;have lg:=lt_of_cell g1;clear f1 f2;go_wp2;go_roundw
     case rel=>exact ⟨t+1,hlt,by go_num,HBQ⟩
     case measure=>simp [intOf];omega
    ·have hte : t = P.length := by omega
     subst hte;have HFIN:Hid (zS L.length (.int .i64 65536) w (.returned (.slice (some ⟨go,0,none⟩) L.length L.length)) wq):=hid ⟨go,rfl,HGO.out.1,Nat.lt_of_lt_of_le HF12.out.2.2.2.2 HB.out.size,fun j hj=>keepCell HB.out (HF12.out.2.1 j hj),fun j=>(World.frozen?_of_block (HB.out.block _ HF12.out.2.2.2.2)).trans (HF12.out.2.2.1 j),aj HB.out HF12.out.2.2.2.1⟩;clear HB;go_wp2;refine bodyPost_ret (v:=.slice (some ⟨go,0,none⟩) L.length L.length) (by simp [results,Tryz.results50,go_sem]) rfl HFIN.out
end
end Go.Proofs.YtokgmcomgflloaaGreat
