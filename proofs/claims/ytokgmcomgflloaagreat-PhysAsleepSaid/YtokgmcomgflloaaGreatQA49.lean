/- Parts of a proof: contracts and laws. -/
import Derived.Test.YtokgmcomgflloaaGreatQA12
import Derived.Test.YtokgmcomgflloaaGreatQA08
import Derived.Test.YtokgmcomgflloaaGreatQA02
import Derived.Test.YtokgmcomgflloaaGreatQA10
import Derived.Test.YtokgmcomgflloaaGreatQA07
import Derived.Test.YtokgmcomgflloaaGreatQA06
import Derived.Test.YtokgmcomgflloaaGreatQA17
import Derived.Test.YtokgmcomgflloaaGreatQA38
set_option maxRecDepth 100000
set_option maxHeartbeats 16000000
namespace Go.Proofs.YtokgmcomgflloaaGreat
section
set_option linter.unusedVariables false
set_option linter.unusedSimpArgs false
open Go.RowKit
variable {w0 w w':World}

structure o8 (w : World) (g : Nat) (s j : Value) (gy st : Int) : Prop where
 c0:w.cell? ⟨g,0,none⟩=some s
 c1:w.cell? ⟨g,1,none⟩=some j
 c2:w.cell? ⟨g,2,none⟩=some (.slice none 0 0)
 c3:w.cell? ⟨g,3,none⟩=some (.int .i64 0)
 c4:w.cell? ⟨g,4,none⟩=some (.int .i64 gy)
 c5:w.cell? ⟨g,5,none⟩=some (.int .i64 st)
 free:∀ j,w.frozen? ⟨g,j,none⟩=false
theorem o8.lt {g:Nat} {s j:Value} {gy st:Int} (h:o8 w g s j gy st):g<w.heap.size:=lt_of_cell h.c0
theorem o8.grown {g:Nat} {s j:Value} {gy st:Int} {row:Option Nat} (h:o8 w g s j gy st) (hg:w.grownBy w' row) (hne:some g≠row):o8 w' g s j gy st:=by
 have e:∀ o,w'.cell? ⟨g,o,none⟩=w.cell? ⟨g,o,none⟩:=fun o=>World.cell?_of_block (hg.block g h.lt hne)
 exact ⟨(e _).trans h.c0,(e _).trans h.c1,(e _).trans h.c2,(e _).trans h.c3,(e _).trans h.c4,(e _).trans h.c5,fun k=>(World.frozen?_of_block (hg.block g h.lt hne)).trans (h.free k)⟩
theorem o8.set0 {g:Nat} {s j:Value} {gy st:Int} (h:o8 w g s j gy st) (s':Value):o8 (w.setCell ⟨g,0,none⟩ s') g s' j gy st:=by
 obtain ⟨h0,h1,h2,h3,h4,h5,h6⟩:=h;have hl:=lt_of_cell h0;exact ⟨by go_simp,by go_simp,by go_simp,by go_simp,by go_simp,by go_simp,fun k=>by rw [World.frozen?_setCell];exact h6 k⟩
theorem o8.set1 {g:Nat} {s j:Value} {gy st:Int} (h:o8 w g s j gy st) (j':Value):o8 (w.setCell ⟨g,1,none⟩ j') g s j' gy st:=by
 obtain ⟨h0,h1,h2,h3,h4,h5,h6⟩:=h;have hl:=lt_of_cell h0;exact ⟨by go_simp,by go_simp,by go_simp,by go_simp,by go_simp,by go_simp,fun k=>by rw [World.frozen?_setCell];exact h6 k⟩
theorem Sl.grownR {A:Option Addr} {n c:Nat} {l:List V} {row:Option Nat} (h:Sl w A n c l) (hg:w.grownBy w' row) (hne:∀ b off,A=some ⟨b,off,none⟩→some b≠row):Sl w' A n c l:=by
 cases row with
 | none=>exact h.below ⟨hg.os,hg.tape,hg.output,hg.size,fun k hk=>hg.block k hk (by simp)⟩
 | some g=>exact h.grown hg (fun b off e=>fun e2=>hne b off e (by rw [e2]))
theorem iM.grownR {g:Nat} {r:List Int} {row:Option Nat} (h:iM w g r) (hg:w.grownBy w' row) (hr:∀ k,row=some k→g<k):iM w' g r:=by
 obtain ⟨h1,h2,A,n,c,h3,h4,h5⟩:=h;have eg:some g≠row:=fun e=>by have:=hr g e.symm;omega
 refine ⟨by have:=hg.size;omega,(World.frozen?_of_block (hg.block g h1 eg)).trans h2,A,n,c,(World.cell?_of_block (hg.block g h1 eg)).trans h3,⟨h4.len,h4.cap,h4.big,fun hl=>?_⟩,h5⟩;obtain ⟨b,off,rfl,hlt,hc⟩:=h4.at_ hl;have hbg:=h5 hl b off rfl;have eb:some b≠row:=fun e=>by have:=hr b e.symm;omega
 exact ⟨b,off,rfl,by have:=hg.size;omega,fun j hj=>(World.cell?_of_block (hg.block b hlt eb)).trans (hc j hj)⟩

structure SQ (w0 : World) (g gs : Nat) (s : Value) (L : List BE) (j : Value) (gy st : Int) (w : World) : Prop where
 stm:∃ r,iM w g r
 sc:o8 w gs s j gy st
 own:aU jo 27 w (gs+1) s L
 co:∀ x ∈ L,Sl w x.A x.n x.c x.l∧jO x.b∧Made x.l∧∀ bx off,x.A=some ⟨bx,off,none⟩→gs<bx∧some bx≠s.ownBlock
 bel:Below w0.heap.size w0 w
 lt:w0.heap.size≤g∧g<gs∧gs<w.heap.size
theorem SQ.next {g gs:Nat} {s j:Value} {L:List BE} {gy st:Int} {w w':World} (h:SQ w0 g gs s L j gy st w) (hg:w.grownBy w' (some g)) (hs:∃ r,iM w' g r):SQ w0 g gs s L j gy st w':=by
 have hl:=h.lt;have hsz:=hg.size;refine ⟨hs,h.sc.grown hg (by simp;omega),h.own.kept hg ?_,fun x hx=>?_,h.bel.trans (jF hg (by omega) (by omega)),by omega⟩
 ·cases hv:s.ownBlock with
  | none=>exact .inl rfl
  | some k=>exact .inr (fun e=>by have:=(h.own.lt hv).1;cases e;omega)
 ·obtain ⟨h1, h2, h3, h4⟩ := h.co x hx;exact ⟨h1.grown hg (fun b off e=>by have:=(h4 b off e).1;omega),h2,h3,h4⟩
theorem SQ.wp {g gs:Nat} {s j:Value} {L:List BE} {gy st:Int} {w:World} (h:SQ w0 g gs s L j gy st w):gs<w.heap.size∧∀ k,s.ownBlock=some k→k<w.heap.size:=⟨h.lt.2.2,fun k hk=>(h.own.lt hk).2⟩
theorem SQ.drew {g gs:Nat} {s j:Value} {L:List BE} {gy st:Int} {w:World} (h:SQ w0 g gs s L j gy st w):SQ w0 g gs s L j gy st w.drew:=by
 have hb:Below w.heap.size w w.drew:=(Below.refl _ _).drew;obtain ⟨r,hr⟩:=h.stm;exact h.next (bN hb) ⟨r,hr.below hb⟩
theorem SQ.alloc {g gs:Nat} {s j:Value} {L:List BE} {gy st:Int} {w:World} (h:SQ w0 g gs s L j gy st w) (o:Obj):SQ w0 g gs s L j gy st (w.alloc o):=by
 have hb:Below w.heap.size w (w.alloc o):=(Below.refl _ _).alloc (Nat.le_refl _) _;obtain ⟨r,hr⟩:=h.stm;exact h.next (bN hb) ⟨r,hr.below hb⟩
theorem SQ.push {w0 : World} {g gs : Nat} {s s' j : Value} {L : List BE} {gy st : Int} {w w7 : World} {b : Bd} {l : List V} {A : Option Addr} {n c : Nat} {wp : World} {o : Obj} (h : SQ w0 g gs s L j gy st w) (hS : Sl w A n c l) (hm : jO b) (hl : Made l) (hf : ∀ bx off, A = some ⟨bx, off, none⟩ → wp.heap.size ≤ bx)
  (ho:aU jo 27 w7 (gs+1) s' (L ++ [⟨b,A,n,c,l⟩])) (hg:(w.alloc o).grownBy w7 s.ownBlock) (hat:s'.ownBlock=s.ownBlock∨s'.ownBlock=some (w.alloc o).heap.size)
  (hwp:gs<wp.heap.size∧∀ k,s.ownBlock=some k→k<wp.heap.size) :
  SQ w0 g gs s' (L ++ [⟨b,A,n,c,l⟩]) j gy st (w7.setCell ⟨gs,0,none⟩ s')∧w7.cell? ⟨gs,0,none⟩=some s∧∀ k,w7.frozen? ⟨gs,k,none⟩=false:=by
 have hlt:=h.lt;have hsz:=hg.size;have hsa:(w.alloc o).heap.size=w.heap.size+1:=by simp
 have hga:w.grownBy (w.alloc o) s.ownBlock:=World.grownBy_alloc _ _ _;have hg7:w.grownBy w7 s.ownBlock:=aS hga hg;have hne:some gs≠s.ownBlock:=fun e=>by have:=(h.own.lt e.symm).1;omega
 have hneg:some g≠s.ownBlock:=fun e=>by have:=(h.own.lt e.symm).1;omega
 have sc7:=h.sc.grown hg7 hne;have hnw:∀ bx off,A=some ⟨bx,off,none⟩→some bx≠s.ownBlock:=fun bx off e e2=>by have:=hf bx off e;have:=hwp.2 bx e2.symm;omega
 have hml:l≠[]:=by intro e;have:=(xV hl).1;rw [e] at this;simp at this
 have inlt:∀ {A':Option Addr} {n' c':Nat} {l':List V},Sl w A' n' c' l'→l'≠[]→∀ bx off,A'=some ⟨bx,off,none⟩→bx<w.heap.size:=fun {A' n' c' l'} hs hne bx off e=>by
  obtain ⟨b',off',e',hc⟩:=hs.at_ hne;rw [e] at e';cases e';exact hc.lt
 have nblk:∀ {A':Option Addr} {n' c':Nat} {l':List V},Sl w A' n' c' l'→l'≠[]→(∀ bx off,A'=some ⟨bx,off,none⟩→some bx≠s.ownBlock)→∀ bx off,A'=some ⟨bx,off,none⟩→some bx≠s'.ownBlock:=fun {A' n' c' l'} hs hne hno bx off e e2=>by
  have:=inlt hs hne bx off e
  rcases hat with q | q
  ·exact hno bx off e (e2.trans q)
  ·rw [q,hsa] at e2;cases e2;omega
 refine ⟨⟨?_,sc7.set0 s',?_,fun x hx=>?_,?_,?_⟩,sc7.c0,sc7.free⟩
 ·obtain ⟨r, hr⟩ := h.stm;refine ⟨r,?_⟩;have hr7:iM w7 g r:=hr.grownR hg7 (fun k hk=>by have:=(h.own.lt hk).1;omega);exact hr7.set hlt.2.1
 ·exact ho.off (fun k hk=>by have:=(ho.lt hk).1;omega) 0 _
 ·rcases List.mem_append.1 hx with hx | hx
  ·obtain ⟨h1, h2, h3, h4⟩ := h.co x hx;have hne':x.l≠[]:=by intro e;have:=(xV h3).1;rw [e] at this;simp at this
   refine ⟨(h1.grownR hg7 (fun bx off e=>(h4 bx off e).2)).setAt (fun bx off e=>by have:=(h4 bx off e).1;omega),h2,h3,fun bx off e=>⟨(h4 bx off e).1,nblk h1 hne' (fun bx off e=>(h4 bx off e).2) bx off e⟩⟩
  ·rw [List.mem_singleton.1 hx];refine ⟨(hS.grownR hg7 hnw).setAt (fun bx off e=>by have:=hf bx off e;omega),hm,hl,fun bx off e=>⟨by have:=hf bx off e;omega,nblk hS hml hnw bx off e⟩⟩
 ·have hB : Below w0.heap.size w0 w7 := h.bel.grown hg7 (by omega) (fun k hk => by have := (h.own.lt hk).1; omega);exact hB.setCell (p:=⟨gs,0,none⟩) (by show w0.heap.size≤gs;omega) _
 ·simp;omega
theorem SQ.pushJ {w0 : World} {g gs : Nat} {s sj : Value} {L : List BE} {gy st : Int} {w w7 : World} {x : Jt} {o : Obj} (h : SQ w0 g gs s L (.slice none 0 0) gy st w)
  (ho:aU gZ 37 w7 (gs+1) sj [x]) (hg:(w.alloc o).grownBy w7 (Value.slice none 0 0).ownBlock) :
  SQ w0 g gs s L sj gy st (w7.setCell ⟨gs,1,none⟩ sj)∧aU gZ 37 (w7.setCell ⟨gs,1,none⟩ sj) (gs+1) sj [x]∧w7.cell? ⟨gs,1,none⟩=some (.slice none 0 0)∧∀ k,w7.frozen? ⟨gs,k,none⟩=false:=by
 have hlt:=h.lt;have hsz:=hg.size;have hsa:(w.alloc o).heap.size=w.heap.size+1:=by simp
 have hga:w.grownBy (w.alloc o) none:=World.grownBy_alloc _ _ _;have hg7:w.grownBy w7 none:=aS hga hg;have hb7:Below w.heap.size w w7:=⟨hg7.os,hg7.tape,hg7.output,hg7.size,fun k hk=>hg7.block k hk (by simp)⟩;have sc7:=h.sc.grown hg7 (by simp);refine ⟨⟨?_,sc7.set1 sj,(h.own.below hb7).off (fun k hk=>by have:=(h.own.lt hk).1;omega) 1 _,fun x hx=>?_,?_,?_⟩,ho.off (fun k hk=>by have:=(ho.lt hk).1;omega) 1 _,sc7.c1,sc7.free⟩
 ·obtain ⟨r, hr⟩ := h.stm;exact ⟨r,(hr.below hb7).set hlt.2.1⟩
 ·obtain ⟨h1, h2, h3, h4⟩ := h.co x hx;exact ⟨(h1.below hb7).setAt (fun bx off e=>by have:=(h4 bx off e).1;omega),h2,h3,h4⟩
 ·exact (aj hb7 h.bel).setCell (p:=⟨gs,1,none⟩) (by show w0.heap.size≤gs;omega) _
 ·simp;omega
structure Em (w : World) (s j : Value) (L : List BE) (J : List Jt) (gy st : Int) (w' : World) : Prop where
 own:aU jo 27 w' w.heap.size s L
 co:∀ x ∈ L,Sl w' x.A x.n x.c x.l∧jO x.b∧Made x.l
 len:L.length≤5
 jown:aU gZ 37 w' w.heap.size j J
 jok:J=[]∨∃ z,(0≤z∧z≤5)∧J=[⟨0,1,0,0,0,0,z*65536⟩]∧∃ x y l,L=x :: y :: l∧0<x.b.mass+y.b.mass
 stb:819≤st∧st≤3276
 bel:Below w.heap.size w w'
 ne:∀ x ∈ L,∀ bx off,x.A=some ⟨bx,off,none⟩→some bx≠s.ownBlock
def KR (w:World) (e:Ending) (w':World):Prop:=∃ s j L J gy st,e = .returned (.agg #[s,j,.slice none 0 0,.int .i64 0,.int .i64 gy,.int .i64 st])∧Em w s j L J gy st w'
theorem pF {g:Nat} {s j:Value} {gy st:Int} (hb:Below w.heap.size w w') (h:o8 w g s j gy st):o8 w' g s j gy st:=h.grown (bN (row:=none) hb) (by simp)

theorem Em.of {w wz wf : World} {g gs : Nat} {s j : Value} {L : List BE} {J : List Jt} {gy st : Int} (hz : wz = w.alloc (.cells #[.slice none 0 0, .slice none 0 0, .slice none 0 0, .int .i64 0, .int .i64 0, .int .i64 0] 33)) (h : SQ wz g gs s L j gy st wf) (hlen : L.length ≤ 5) (hj : aU gZ 37 wf (gs + 1) j J)
  (hjok:J=[]∨∃ z,(0≤z∧z≤5)∧J=[⟨0,1,0,0,0,0,z*65536⟩]∧∃ x y l,L=x :: y :: l∧0<x.b.mass+y.b.mass) (hst:819≤st∧st≤3276) (v0 v1 v2 v3 v4 v5:Value) :
  Em w s j L J gy st ((((((wf.setCell ⟨w.heap.size,0,none⟩ v0).setCell ⟨w.heap.size,1,none⟩ v1).setCell ⟨w.heap.size,2,none⟩ v2).setCell ⟨w.heap.size,3,none⟩ v3).setCell ⟨w.heap.size,4,none⟩ v4).setCell ⟨w.heap.size,5,none⟩ v5):=by
 have hlt:=h.lt;have hzs:wz.heap.size=w.heap.size+1:=by rw [hz];simp
 have hn:∀ k,s.ownBlock=some k→k≠w.heap.size:=fun k hk=>by have:=(h.own.lt hk).1;omega
 have hnj:∀ k,j.ownBlock=some k→k≠w.heap.size:=fun k hk=>by have:=(hj.lt hk).1;omega
 refine ⟨((((((h.own.off hn 0 v0).off hn 1 v1).off hn 2 v2).off hn 3 v3).off hn 4 v4).off hn 5 v5).mono (by omega),fun x hx=>?_,hlen,((((((hj.off hnj 0 v0).off hnj 1 v1).off hnj 2 v2).off hnj 3 v3).off hnj 4 v4).off hnj 5 v5).mono (by omega),hjok,hst,?_,fun x hx bx off e=>((h.co x hx).2.2.2 bx off e).2⟩
 ·obtain ⟨h1, h2, h3, h4⟩ := h.co x hx;have hne:∀ b off,x.A=some ⟨b,off,none⟩→b≠w.heap.size:=fun b off e=>by have:=(h4 b off e).1;omega
  exact ⟨(((((h1.setAt hne).setAt hne).setAt hne).setAt hne).setAt hne).setAt hne,h2,h3⟩
 ·have hb:Below w.heap.size w wf:=by
   have h1:Below w.heap.size w wz:=by rw [hz];exact (Below.refl _ _).alloc (Nat.le_refl _) _
   exact aj h.bel h1
  exact (((((hb.setCell (Nat.le_refl _) _).setCell (Nat.le_refl _) _).setCell (Nat.le_refl _) _).setCell (Nat.le_refl _) _).setCell (Nat.le_refl _) _).setCell (Nat.le_refl _) _
theorem yw {b:Bd} (h:jO b):0≤b.mass∧b.mass≤524288:=by
 rcases h.kind with k | k <;> omega
theorem CK (A0:Option Addr) (n0 c0:Nat) (r:List Int) (w:World) (hS:Jz w A0 n0 c0 r):Calls Tryz.prog 15 #[.slice A0 n0 c0] w (KR w):=by
 obtain ⟨wz,hwz⟩:∃ wz,wz=w.alloc (.cells #[.slice none 0 0,.slice none 0 0,.slice none 0 0,.int .i64 0,.int .i64 0,.int .i64 0] 33):=⟨_,rfl⟩;have HWZ:=hid hwz;obtain ⟨W,hW⟩:∃ W,W=wz.alloc (.cells #[.slice A0 n0 c0] 99):=⟨_,rfl⟩;have hzs:wz.heap.size=w.heap.size+1:=by rw [hwz];simp
 have HZR:Hid (o8 wz w.heap.size (.slice none 0 0) (.slice none 0 0) 0 0):=by
  show o8 _ _ _ _ _ _;rw [hwz];exact ⟨by go_simp,by go_simp,by go_simp,by go_simp,by go_simp,by go_simp,fun k=>by go_simp⟩
 have hbz:Below w.heap.size w wz:=by rw [hwz];exact (Below.refl _ _).alloc (Nat.le_refl _) _
 obtain ⟨g,hg⟩:∃ g,g=wz.heap.size:=⟨_,rfl⟩;have hs:iM W g r:=⟨by rw [hW,hg];simp,by rw [hW,hg];go_simp,A0,n0,c0,by rw [hW,hg];go_simp,by rw [hW];exact (hS.below hbz).below Ba,fun hr b off e=>by obtain ⟨b',off',e2,h,_⟩:=hS.at_ hr;rw [e] at e2;cases e2;omega⟩;have HS:=hid hs;have hB:Below wz.heap.size wz W:=by rw [hW];exact (Below.refl _ _).alloc (Nat.le_refl _) _
 have hWs:W.heap.size=g+1:=by rw [hW,hg];simp
 clear hs hS
 go_enter Tryz.func15,Tryz.ntmps15
 go_wp2_with fail
 rw [← hwz,← hW];have hg1':w.heap.size+1=g:=by omega
 rw [hg1'];have hgz:wz.heap.size≤g:=by omega
 have hgw:w.heap.size<g:=by omega
 have hgW:g<W.heap.size:=by omega
 clear hg1' hg hzs hWs hW hwz;refine (bV g 11 r (by omega) (by omega) _ HS.out).mono ?_;rintro e w1 ⟨rfl,ht,hg1⟩;have HS1:=hid ht;have hB1:=hB.trans (jF hg1 (by omega) (by omega));have hs1:=hg1.size;have hb:=dB r 11 (by omega);obtain ⟨va,hva⟩:∃ va,va=cK r 11:=⟨_,rfl⟩;rw [← hva] at hb ⊢;obtain ⟨a1,a2⟩:=hb;clear hva ht hg1 HS hB;have ha1:IntKind.i64.wrap (-va) = -va:=IntWalk.i64_in _ (by omega);obtain ⟨gy,hgy⟩:∃ gy,gy = -va*65536:=⟨_,rfl⟩;have ha2:IntKind.i64.wrap (-va*65536)=gy:=by rw [hgy];exact IntWalk.i64_in _ (by omega)
 clear hgy
 go_wp2_with fail
 refine (bV g 60 r.tail (by omega) (by omega) _ HS1.out).mono ?_;rintro e w2 ⟨rfl,ht,hg1⟩;have HS2:=hid ht;have hB2:=hB1.trans (jF hg1 (by omega) (by omega));have hs2:=hg1.size;have hb:=dB r.tail 60 (by omega);obtain ⟨vb,hvb⟩:∃ vb,vb=cK r.tail 60:=⟨_,rfl⟩;rw [← hvb] at hb ⊢;obtain ⟨b1,b2⟩:=hb;clear hvb ht hg1 HS1 hB1;have hb1:IntKind.i64.wrap (20+vb)=20+vb:=IntWalk.i64_in _ (by omega);have hb0:(20+vb == 0)=false:=by simp;omega
 have hb9:¬ (20+vb=0):=by omega
 obtain ⟨st,hst⟩:∃ st,st=(65536:Int).tdiv (20+vb):=⟨_,rfl⟩
 have hstb:819≤st∧st≤3276:=by
  rw [hst,Int.tdiv_eq_ediv_of_nonneg (by omega)];refine ⟨Int.le_ediv_of_mul_le (by omega) (by omega),?_⟩;have:=Int.ediv_lt_of_lt_mul (a:=65536) (b:=3277) (show 0<20+vb by omega) (by omega);omega
 have hst1:IntKind.i64.wrap ((65536:Int).tdiv (20+vb))=st:=by rw [← hst];exact IntWalk.i64_in _ (by omega)
 have HSTB:=hid hstb;clear hst;obtain ⟨w3,hw3⟩:∃ w3,w3=w2.alloc (.cells #[.slice none 0 0,.slice none 0 0,.slice none 0 0,.int .i64 0,.int .i64 gy,.int .i64 st] 33):=⟨_,rfl⟩
 have HSC:Hid (o8 w3 w2.heap.size (.slice none 0 0) (.slice none 0 0) gy st):=by
  show o8 _ _ _ _ _ _;rw [hw3];exact ⟨by go_simp,by go_simp,by go_simp,by go_simp,by go_simp,by go_simp,fun k=>by go_simp⟩
 have HQ3:Hid (SQ wz g w2.heap.size (.slice none 0 0) [] (.slice none 0 0) gy st w3) :=
  ⟨⟨_,HS2.out.below (by rw [hw3];exact (Below.refl _ _).alloc (Nat.le_refl _) _)⟩,HSC.out,aU.nil _ _ _ _,fun x hx=>(by cases hx),by rw [hw3];exact hB2.alloc hB2.size _,by rw [hw3];simp;omega⟩
 go_upto_region 3 with fail
 rw [← hw3];clear hw3 HSC HS2 hB2 a1 a2 b1 b2 hb1 hb0 hb9 hst1 ha1 ha2;have hl2:g<w2.heap.size:=by omega
 clear hs1 hs2;generalize w2.heap.size=gs at *
 obtain ⟨r3,hr3⟩:=HQ3.out.stm
 go_wp2_with fail
 refine (bV g 6 r3 (by omega) (by omega) _ hr3).mono ?_;rintro e w4 ⟨rfl,ht,hg1⟩;have HQ4:=hid (HQ3.out.next hg1 ⟨_,ht⟩);have hb:=dB r3 6 (by omega);obtain ⟨vn,hvn⟩:∃ vn,vn=cK r3 6:=⟨_,rfl⟩;rw [← hvn] at hb ⊢;obtain ⟨n1,n2⟩:=hb;clear hvn ht hg1 HQ3 hr3;go_wp2
 go_loopw [20] (fun i wr=>∃ (k:Nat) (s:Value) (L:List BE),(k:Int)≤vn∧i = .int .i64 k∧L.length=k∧SQ wz g gs s L (.slice none 0 0) gy st wr) (fun i _=>vn.toNat-(intOf i).toNat)
 case atStart=>exact ⟨0,_,[],by omega,rfl,rfl,HQ4.out⟩
 case round =>
  obtain ⟨k,s,L,hk,rfl,hlen,hq⟩:=hrel;obtain ⟨wo,rfl⟩:∃ wo:World,wo=wr:=⟨_,rfl⟩;have HQ:=hid hq;have HL:=hid hlen;have HK:Hid (L.length≤5):=by show _≤_;omega
  clear hq hlen HQ4
  by_cases hlt:(k:Int)<vn
  ·have hkw : IntKind.i64.wrap ((k : Int) + 1) = (k : Int) + 1 := IntWalk.i64_in _ (by omega)
   go_upto_region 5 with fail
   refine wp_region_noPanic ?_;refine au (S:=(S2 (fun w'=>SQ wz g gs s L (.slice none 0 0) gy st w'))) (T:=(fun j=>[0,0,0,0,0,1,0,1].getD j 0)) (by kernel_rfl) (aC HQ.out.drew) (fun hH=>?_);have hWr1:aH (S2 (fun w'=>SQ wz g gs s L (.slice none 0 0) gy st w')):=aK _;refine dn [(0,22),(1,23),(2,24)] 5 0 0 (L':=?Lr1_1) hWr1 hH ?hyr1_1 ?_
   case hyr1_1=>((iterate 3 apply dA;rfl;kernel_rfl;intro w' hSw;replace hSw:=aA hSw;(try dsimp only at hSw);have q0:=hSw;have qa0_0:=(q0).sc.c0;have qa0_1:=(q0).sc.c1;(try simp only [sB,sC]);go_simp;(try with_reducible rfl));exact dw)
   simp only [sB,sC];refine U1 3 0 rfl (fun K hK=>?_)
   try clear hb
   have hG:=hH;replace hG:=aA hG;(try dsimp only at hG);have q0:=hG;obtain ⟨rr,hrr⟩:=q0.stm;go_simp
   (go_at_call 56;refine (BD g rr _ hrr).mono ?_;rintro e wn ⟨b,l,A1,n1,c1,rfl,hmb,hml,hsl,hf,hg,hst⟩;have hwp:=q0.wp)
   refine hK.out _ _ ?hsr1_4 (fun hH2=>?hrr1_4)
   case hsr1_4=>exact aC (q0.next hg hst)
   clear hK K hH;have hH:=hH2;clear hH2
   try simp only [Act.put,sA,sB,sC]
   refine U1 4 0 rfl (fun K hK=>?_)
   try clear hb
   have hG:=hH;replace hG:=aA hG;(try dsimp only at hG);have q0:=hG;go_simp;refine hK.out _ _ ?hsr1_5 (fun hH2=>?hrr1_5)
   case hsr1_5=>exact aC (q0.alloc _)
   clear hK K hH;have hH:=hH2;clear hH2
   try simp only [Act.put,sA,sB,sC]
   refine U1 5 1 rfl (fun K hK=>?_)
   (refine iy xX (by rfl) _ _ (by rfl) (gs+1) _ _ (by rfl) (q0.own.alloc _) _ 0 1 1 [⟨b,A1,n1,c1,l⟩] (by rfl) (by rfl) (kU (aL.here wn b A1 n1 c1 _)) (by have:=HK.out;simp;omega) (by have:=HK.out;simp;omega) (by have:=q0.lt;simp;omega) ?_;intro s' w7 ho1 hg1 hat)
   refine hK.out _ _ ?hsr1_6 (fun hH2=>?hrr1_6)
   case hsr1_6=>exact dY
   clear hK K hH;have hH:=hH2;clear hH2
   try simp only [Act.put,List.getElem_toArray,List.getElem_cons_succ,List.getElem_cons_zero,List.setIfInBounds_toArray,List.set_cons_zero,List.set_cons_succ]
   obtain ⟨A2,n2,c2,rfl,-,-⟩:=ho1.sl;have HQ7:=hid (q0.push hsl hmb hml hf ho1 hg1 hat hwp);clear q0 hsl hmb hml hf ho1 hg1 hat hg hst hwp;refine Ut 6 28 1 1 1 (v:=?vr1_7) rfl hWr1 hH ?hyr1_7 ?_
   case hyr1_7=>(intro w' hSw;clear hSw;go_simp;try (with_reducible rfl))
   simp only [sB,sC];refine U1 7 1 rfl (fun K hK=>?_);obtain ⟨y0,yf⟩:=HQ7.out.2;go_simp;refine hK.out _ _ ?hsr1_8 (fun hH2=>?hrr1_8)
   case hsr1_8=>exact dY
   clear hK K hH;have hH:=hH2;clear hH2
   try simp only [Act.put,sA,sB,sC]
   refine ak (by kernel_rfl) ?_ _ _;refine NoPanic.normal ?_;have HQ8:=hid HQ7.out.1;clear HQ7;go_wp2;go_roundw
   case rel=>exact ⟨k+1,_,_,by omega,by go_num,by rw [List.length_append,HL.out];rfl,HQ8.out⟩
   case measure=>simp [intOf] <;> omega
  ·clear hk n1 n2 HL;obtain ⟨A2,n2,c2,rfl,hs2,-⟩:=HQ.out.own.sl;have hn2:=hs2.len
   rcases L with _ | ⟨x,_ | ⟨y,l⟩⟩
   ·have hno : ¬ (1 : Int) < (n2 : Int) := by rw [hn2]; simp
    clear hs2 hn2;generalize ([]:List BE)=L at *
    go_upto_region 7 with fail
    refine wp_region_noPanic ?_;refine au (S:=(S2 (fun w'=>SQ wz g gs (.slice A2 n2 c2) L (.slice none 0 0) gy st w'))) (T:=(fun _=>0)) (by kernel_rfl) (aC HQ.out.drew) (fun hH=>?_);have hWr2:aH (S2 (fun w'=>SQ wz g gs (.slice A2 n2 c2) L (.slice none 0 0) gy st w')):=aK _;refine dn [(0,30),(1,31),(2,32),(3,33),(4,34)] 18 0 0 (L':=?Lr2_1) hWr2 hH ?hyr2_1 ?_
    case hyr2_1=>((iterate 5 apply dA;rfl;kernel_rfl;intro w' hSw;replace hSw:=aA hSw;(try dsimp only at hSw);have q0:=hSw;have qa0_0:=(q0).sc.c0;have qa0_1:=(q0).sc.c1;(try simp only [sB,sC]);go_simp;(try with_reducible rfl));exact dw)
    simp only [sB,sC];refine kX (by kernel_rfl) (fun _ _ _ _ h=>h) hWr2 0 0 (by omega) hH [(5,35),(6,36),(7,37),(8,38),(9,39),(10,40),(11,41),(12,42),(13,43),(14,44),(15,45),(16,46)] 6 _ _ _ (by kernel_rfl) (by kernel_rfl) ?_;simp only [fZ,List.set_cons_zero,List.set_cons_succ];refine dn [(17,47),(18,48)] 4 0 0 (L':=?Lr2_6) hWr2 hH ?hyr2_6 ?_
    case hyr2_6=>((iterate 2 apply dA;rfl;kernel_rfl;intro w' hSw;clear hSw;(try simp only [sB,sC]);go_simp;(try with_reducible rfl));exact dw)
    simp only [sB,sC];refine kX (by kernel_rfl) (fun _ _ _ _ h=>h) hWr2 0 0 (by omega) hH [(19,49),(20,50),(21,51)] 1 _ _ _ (by kernel_rfl) (by kernel_rfl) ?_;simp only [fZ,List.set_cons_zero,List.set_cons_succ];refine Ut 22 52 0 0 0 (v:=?vr2_8) rfl hWr2 hH ?hyr2_8 ?_
    case hyr2_8=>(intro w' hSw;clear hSw;go_simp;try (with_reducible rfl))
    simp only [sB,sC];refine ak (by kernel_rfl) ?_ _ _;refine NoPanic.normal ?_;clear hWr2 HQ;replace hH:=aA hH
    (try dsimp only at hH)
    have t0:=hH;have HQ9:=hid t0;clear t0 
    try clear hH
    generalize wo.drew=wn at *
    go_upto_region 9 with fail
    obtain ⟨x0,x1,x2,x3,x4,x5,xf⟩:=HQ9.out.sc;obtain ⟨y0,y1,y2,y3,y4,y5,yf⟩:=pF HQ9.out.bel HZR.out;have hly:=lt_of_cell y0;go_wp2;refine bodyPost_ret (v:=.agg #[.slice A2 n2 c2,.slice none 0 0,.slice none 0 0,.int .i64 0,.int .i64 gy,.int .i64 st]) (by simp [results,Tryz.results15,go_sem,y0,y1,y2,y3,y4,y5,hly]) rfl ⟨_,_,L,[],gy,st,rfl,Em.of HWZ.out HQ9.out HK.out (aU.nil _ _ _ _) (.inl rfl) HSTB.out _ _ _ _ _ _⟩
   ·have hno : ¬ (1 : Int) < (n2 : Int) := by rw [hn2]; simp
    clear hs2 hn2;generalize [x]=L at *
    go_upto_region 7 with fail
    refine wp_region_noPanic ?_;refine au (S:=(S2 (fun w'=>SQ wz g gs (.slice A2 n2 c2) L (.slice none 0 0) gy st w'))) (T:=(fun _=>0)) (by kernel_rfl) (aC HQ.out.drew) (fun hH=>?_);have hWr2:aH (S2 (fun w'=>SQ wz g gs (.slice A2 n2 c2) L (.slice none 0 0) gy st w')):=aK _;refine dn [(0,30),(1,31),(2,32),(3,33),(4,34)] 18 0 0 (L':=?Lr2_1) hWr2 hH ?hyr2_1 ?_
    case hyr2_1=>((iterate 5 apply dA;rfl;kernel_rfl;intro w' hSw;replace hSw:=aA hSw;(try dsimp only at hSw);have q0:=hSw;have qa0_0:=(q0).sc.c0;have qa0_1:=(q0).sc.c1;(try simp only [sB,sC]);go_simp;(try with_reducible rfl));exact dw)
    simp only [sB,sC];refine kX (by kernel_rfl) (fun _ _ _ _ h=>h) hWr2 0 0 (by omega) hH [(5,35),(6,36),(7,37),(8,38),(9,39),(10,40),(11,41),(12,42),(13,43),(14,44),(15,45),(16,46)] 6 _ _ _ (by kernel_rfl) (by kernel_rfl) ?_;simp only [fZ,List.set_cons_zero,List.set_cons_succ];refine dn [(17,47),(18,48)] 4 0 0 (L':=?Lr2_6) hWr2 hH ?hyr2_6 ?_
    case hyr2_6=>((iterate 2 apply dA;rfl;kernel_rfl;intro w' hSw;clear hSw;(try simp only [sB,sC]);go_simp;(try with_reducible rfl));exact dw)
    simp only [sB,sC];refine kX (by kernel_rfl) (fun _ _ _ _ h=>h) hWr2 0 0 (by omega) hH [(19,49),(20,50),(21,51)] 1 _ _ _ (by kernel_rfl) (by kernel_rfl) ?_;simp only [fZ,List.set_cons_zero,List.set_cons_succ];refine Ut 22 52 0 0 0 (v:=?vr2_8) rfl hWr2 hH ?hyr2_8 ?_
    case hyr2_8=>(intro w' hSw;clear hSw;go_simp;try (with_reducible rfl))
    simp only [sB,sC];refine ak (by kernel_rfl) ?_ _ _;refine NoPanic.normal ?_;clear hWr2 HQ;replace hH:=aA hH
    (try dsimp only at hH)
    have t0:=hH;have HQ9:=hid t0;clear t0 
    try clear hH
    generalize wo.drew=wn at *
    go_upto_region 9 with fail
    obtain ⟨x0,x1,x2,x3,x4,x5,xf⟩:=HQ9.out.sc;obtain ⟨y0,y1,y2,y3,y4,y5,yf⟩:=pF HQ9.out.bel HZR.out;have hly:=lt_of_cell y0;go_wp2;refine bodyPost_ret (v:=.agg #[.slice A2 n2 c2,.slice none 0 0,.slice none 0 0,.int .i64 0,.int .i64 gy,.int .i64 st]) (by simp [results,Tryz.results15,go_sem,y0,y1,y2,y3,y4,y5,hly]) rfl ⟨_,_,L,[],gy,st,rfl,Em.of HWZ.out HQ9.out HK.out (aU.nil _ _ _ _) (.inl rfl) HSTB.out _ _ _ _ _ _⟩
   ·have hyes : (1 : Int) < (n2 : Int) := by rw [hn2]; simp; omega
    have h0n:(0:Int)<(n2:Int):=by omega
    have h0:0<n2:=by omega
    have h1:1<n2:=by omega
    obtain ⟨gb,ob,hAe,hC⟩:=hs2.at_ (by simp);have hform:=HQ.out.own.form
    obtain ⟨rfl,hgb⟩:ob=0∧A2=some ⟨gb,0,none⟩:=by
     rcases hform with ⟨h,-⟩ | ⟨g',cap,h,-⟩
     ·cases h;cases hAe
     ·cases h;cases hAe;exact ⟨rfl,rfl⟩
    subst hgb;have hm0:wo.drew.cell? ⟨gb,6,none⟩=some (.int .i64 x.b.mass):=by have:=(dD hC (k:=0) (by simp) rfl).2.2.2.2.2.2.1;simpa using this
    have hm1:wo.drew.cell? ⟨gb,19,none⟩=some (.int .i64 y.b.mass):=by have:=(dD hC (k:=1) (by simp) rfl).2.2.2.2.2.2.1;simpa using this
    have mx:=yw (HQ.out.co x (by simp)).2.1;have my:=yw (HQ.out.co y (by simp)).2.1;have hsw:IntKind.i64.wrap (x.b.mass+y.b.mass)=x.b.mass+y.b.mass:=IntWalk.i64_in _ (by omega);have HML:Hid (0<x.b.mass+y.b.mass→∃ x' y' l',x :: y :: l=x' :: y' :: l'∧0<x'.b.mass+y'.b.mass):=fun h=>⟨x,y,l,rfl,h⟩
    have hbg:=hC.lt;clear hs2 hn2 hC hform;generalize x.b.mass=m0 at *
    generalize y.b.mass=m1 at *
    generalize x :: y :: l=L at *
    by_cases hpos:0<m0+m1
    ·replace HML := hid (HML.out hpos)
     go_upto_region 7 with fail
     refine wp_region_noPanic ?_;refine au (S:=(S3 (fun w'=>SQ wz g gs (.slice (some ⟨gb,0,none⟩) n2 c2) L (.slice none 0 0) gy st w'∧w'.cell? ⟨gb,6,none⟩=some (.int .i64 m0)∧w'.cell? ⟨gb,19,none⟩=some (.int .i64 m1)) (fun w'=>SQ wz g gs (.slice (some ⟨gb,0,none⟩) n2 c2) L (.slice none 0 0) gy st w'))) (T:=(fun j=>[0,0,0,0,0,0,0,0,0,0,0,0,0,0,0,0,0,0,0,0,1].getD j 0)) (by kernel_rfl) (iC ⟨HQ.out.drew,hm0,hm1⟩) (fun hH=>?_);have hWr4:aH (S3 (fun w'=>SQ wz g gs (.slice (some ⟨gb,0,none⟩) n2 c2) L (.slice none 0 0) gy st w'∧w'.cell? ⟨gb,6,none⟩=some (.int .i64 m0)∧w'.cell? ⟨gb,19,none⟩=some (.int .i64 m1)) (fun w'=>SQ wz g gs (.slice (some ⟨gb,0,none⟩) n2 c2) L (.slice none 0 0) gy st w')):=fP (fun _ ⟨q0,q1,q2⟩=>q0);refine dn [(0,30),(1,31),(2,32),(3,33),(4,34),(5,35),(6,36),(7,37),(8,38),(9,39),(10,40),(11,41),(12,42),(13,43),(14,44),(15,45),(16,46),(17,47),(18,48),(19,49)] 3 0 0 (L':=?Lr4_1) hWr4 hH ?hyr4_1 ?_
     case hyr4_1=>((iterate 20 apply dA;rfl;kernel_rfl;intro w' hSw;replace hSw:=dR hSw;(try dsimp only at hSw);have q0:=hSw.1;have q1:=hSw.2.1;have q2:=hSw.2.2;have qa0_0:=(q0).sc.c0;have qa0_1:=(q0).sc.c1;(try simp only [sB,sC]);go_simp;(try with_reducible rfl));exact dw)
     simp only [sB,sC];refine U1 20 1 rfl (fun K hK=>?_)
     try clear hb
     have hG:=hH;replace hG:=dR hG;(try dsimp only at hG);have q0:=hG.1;have q1:=hG.2.1;have q2:=hG.2.2;obtain ⟨rr,hrr⟩:=q0.stm;go_simp
     (go_at_call 55;refine (bV g 3 rr (by omega) (by omega) _ hrr).mono ?_;rintro e wn ⟨rfl,ht,hg⟩)
     refine hK.out _ _ ?hsr4_21 (fun hH2=>?hrr4_21)
     case hsr4_21=>exact rF (q0.next hg ⟨_,ht⟩)
     clear hK K hH;have hH:=hH2;clear hH2
     try simp only [Act.put,sA,sB,sC]
     clear ht hg hrr q0;generalize cK rr 3=v3;refine dn [(21,51),(22,52)] 0 1 1 (L':=?Lr4_22) hWr4 hH ?hyr4_22 ?_
     case hyr4_22=>((iterate 2 apply dA;rfl;kernel_rfl;intro w' hSw;clear hSw;(try simp only [sB,sC]);go_simp;(try with_reducible rfl));exact dw)
     simp only [sB,sC];refine ak (by kernel_rfl) ?_ _ _;refine NoPanic.normal ?_;clear hWr4 HQ;replace hH:=rV hH
     (try dsimp only at hH)
     have t0:=hH;have HQ9:=hid t0;clear t0 
     try clear hH
     by_cases hv3:v3=0
     ·have hvb : (v3 == 0) = true := by simp [hv3]
      clear hv3
      go_upto_region 8 with fail
      refine wp_region_noPanic ?_;refine au (S:=(S2 (fun w'=>SQ wz g gs (.slice (some ⟨gb,0,none⟩) n2 c2) L (.slice none 0 0) gy st w'))) (T:=(fun j=>[0,0,0,0,0,0,0,1,0,1].getD j 0)) (by kernel_rfl) (aC HQ9.out.drew) (fun hH=>?_);have hWr5:aH (S2 (fun w'=>SQ wz g gs (.slice (some ⟨gb,0,none⟩) n2 c2) L (.slice none 0 0) gy st w')):=aK _;refine dn [(0,53),(1,54),(2,55)] 7 0 0 (L':=?Lr5_1) hWr5 hH ?hyr5_1 ?_
      case hyr5_1=>((iterate 3 apply dA;rfl;kernel_rfl;intro w' hSw;replace hSw:=aA hSw;(try dsimp only at hSw);have q0:=hSw;have qa0_0:=(q0).sc.c0;have qa0_1:=(q0).sc.c1;(try simp only [sB,sC]);go_simp;(try with_reducible rfl));exact dw)
      simp only [sB,sC];refine U1 3 0 rfl (fun K hK=>?_)
      try clear hb
      have hG:=hH;replace hG:=aA hG;(try dsimp only at hG);have q0:=hG;obtain ⟨rr,hrr⟩:=q0.stm;go_simp
      (go_at_call 55;refine (bV g 6 rr (by omega) (by omega) _ hrr).mono ?_;rintro e wn ⟨rfl,ht,hg⟩)
      refine hK.out _ _ ?hsr5_4 (fun hH2=>?hrr5_4)
      case hsr5_4=>exact aC (q0.next hg ⟨_,ht⟩)
      clear hK K hH;have hH:=hH2;clear hH2
      try simp only [Act.put,sA,sB,sC]
      clear ht hg hrr q0;have hzb:=dB rr 6 (by omega);generalize cK rr 6=z at *
      obtain ⟨z1,z2⟩:=hzb;have hzw:IntKind.i64.wrap (z*65536)=z*65536:=IntWalk.i64_in _ (by omega);refine dn [(4,57),(5,58)] 4 0 0 (L':=?Lr5_5) hWr5 hH ?hyr5_5 ?_
      case hyr5_5=>((iterate 2 apply dA;rfl;kernel_rfl;intro w' hSw;clear hSw;(try simp only [sB,sC]);go_simp;(try with_reducible rfl));exact dw)
      simp only [sB,sC];refine U1 6 0 rfl (fun K hK=>?_)
      try clear hb
      have hG:=hH;replace hG:=aA hG;(try dsimp only at hG);have q0:=hG;go_simp;refine hK.out _ _ ?hsr5_7 (fun hH2=>?hrr5_7)
      case hsr5_7=>exact aC (q0.alloc _)
      clear hK K hH;have hH:=hH2;clear hH2
      try simp only [Act.put,sA,sB,sC]
      refine U1 7 1 rfl (fun K hK=>?_)
      (refine iy Gz (by rfl) _ _ (by rfl) (gs+1) (.slice none 0 0) [] (by rfl) (aU.nil _ _ _ _) _ 0 1 1 [⟨0,1,0,0,0,0,z*65536⟩] (by rfl) (by rfl) (rU (by go_simp) (by go_simp) (by go_simp) (by go_simp) (by go_simp) (by go_simp) (by go_simp)) (by simp) (by simp) (by have:=q0.lt;simp;omega) ?_;intro s' w7 ho1 hg1 hat)
      refine hK.out _ _ ?hsr5_8 (fun hH2=>?hrr5_8)
      case hsr5_8=>exact dY
      clear hK K hH;have hH:=hH2;clear hH2
      try simp only [Act.put,List.getElem_toArray,List.getElem_cons_succ,List.getElem_cons_zero,List.setIfInBounds_toArray,List.set_cons_zero,List.set_cons_succ]
      obtain ⟨A3,n3,c3,rfl,-,-⟩:=ho1.sl;have HQ7:=hid (q0.pushJ ho1 hg1);clear q0 ho1 hg1 hat;refine Ut 8 61 1 1 1 (v:=?vr5_9) rfl hWr5 hH ?hyr5_9 ?_
      case hyr5_9=>(intro w' hSw;clear hSw;go_simp;try (with_reducible rfl))
      simp only [sB,sC];refine U1 9 1 rfl (fun K hK=>?_);obtain ⟨y0,yf⟩:=HQ7.out.2.2;go_simp;refine hK.out _ _ ?hsr5_10 (fun hH2=>?hrr5_10)
      case hsr5_10=>exact dY
      clear hK K hH;have hH:=hH2;clear hH2
      try simp only [Act.put,sA,sB,sC]
      refine ak (by kernel_rfl) ?_ _ _;refine NoPanic.normal ?_;clear hWr5 hH;have HQ9:=hid HQ7.out.1;have HJ9:=hid HQ7.out.2.1;have HZ9:=hid (And.intro z1 z2);clear HQ7 y0 yf z1 z2 hzw
      go_upto_region 9 with fail
      obtain ⟨x0,x1,x2,x3,x4,x5,xf⟩:=HQ9.out.sc;obtain ⟨y0,y1,y2,y3,y4,y5,yf⟩:=pF HQ9.out.bel HZR.out;have hly:=lt_of_cell y0;go_wp2;refine bodyPost_ret (v:=.agg #[.slice (some ⟨gb,0,none⟩) n2 c2,.slice A3 n3 c3,.slice none 0 0,.int .i64 0,.int .i64 gy,.int .i64 st]) (by simp [results,Tryz.results15,go_sem,y0,y1,y2,y3,y4,y5,hly]) rfl ⟨_,_,L,_,gy,st,rfl,Em.of HWZ.out HQ9.out HK.out HJ9.out (.inr ⟨z,⟨HZ9.out.1,by have:=HZ9.out.2;omega⟩,rfl,HML.out⟩) HSTB.out _ _ _ _ _ _⟩
     ·have hvb : (v3 == 0) = false := by simp [hv3]
      clear hv3
      go_upto_region 9 with fail
      obtain ⟨x0,x1,x2,x3,x4,x5,xf⟩:=HQ9.out.sc;obtain ⟨y0,y1,y2,y3,y4,y5,yf⟩:=pF HQ9.out.bel HZR.out;have hly:=lt_of_cell y0;go_wp2;refine bodyPost_ret (v:=.agg #[.slice (some ⟨gb,0,none⟩) n2 c2,.slice none 0 0,.slice none 0 0,.int .i64 0,.int .i64 gy,.int .i64 st]) (by simp [results,Tryz.results15,go_sem,y0,y1,y2,y3,y4,y5,hly]) rfl ⟨_,_,L,[],gy,st,rfl,Em.of HWZ.out HQ9.out HK.out (aU.nil _ _ _ _) (.inl rfl) HSTB.out _ _ _ _ _ _⟩
    ·go_upto_region 7 with fail
     refine wp_region_noPanic ?_;refine au (S:=(S2 (fun w'=>SQ wz g gs (.slice (some ⟨gb,0,none⟩) n2 c2) L (.slice none 0 0) gy st w'∧w'.cell? ⟨gb,6,none⟩=some (.int .i64 m0)∧w'.cell? ⟨gb,19,none⟩=some (.int .i64 m1)))) (T:=(fun _=>0)) (by kernel_rfl) (aC ⟨HQ.out.drew,hm0,hm1⟩) (fun hH=>?_);have hWr3:aH (S2 (fun w'=>SQ wz g gs (.slice (some ⟨gb,0,none⟩) n2 c2) L (.slice none 0 0) gy st w'∧w'.cell? ⟨gb,6,none⟩=some (.int .i64 m0)∧w'.cell? ⟨gb,19,none⟩=some (.int .i64 m1))):=aK _;refine dn [(0,30),(1,31),(2,32),(3,33),(4,34),(5,35),(6,36),(7,37),(8,38),(9,39),(10,40),(11,41),(12,42),(13,43),(14,44),(15,45),(16,46),(17,47),(18,48)] 4 0 0 (L':=?Lr3_1) hWr3 hH ?hyr3_1 ?_
     case hyr3_1=>((iterate 19 apply dA;rfl;kernel_rfl;intro w' hSw;replace hSw:=aA hSw;(try dsimp only at hSw);have q0:=hSw.1;have q1:=hSw.2.1;have q2:=hSw.2.2;have qa0_0:=(q0).sc.c0;have qa0_1:=(q0).sc.c1;(try simp only [sB,sC]);go_simp;(try with_reducible rfl));exact dw)
     simp only [sB,sC];refine kX (by kernel_rfl) (fun _ _ _ _ h=>h) hWr3 0 0 (by omega) hH [(19,49),(20,50),(21,51)] 1 _ _ _ (by kernel_rfl) (by kernel_rfl) ?_;simp only [fZ,List.set_cons_zero,List.set_cons_succ];refine Ut 22 52 0 0 0 (v:=?vr3_20) rfl hWr3 hH ?hyr3_20 ?_
     case hyr3_20=>(intro w' hSw;clear hSw;go_simp;try (with_reducible rfl))
     simp only [sB,sC];refine ak (by kernel_rfl) ?_ _ _;refine NoPanic.normal ?_;clear hWr3 HQ;replace hH:=aA hH
     (try dsimp only at hH)
     have t0:=hH.1;have t1:=hH.2.1;have t2:=hH.2.2;have HQ9:=hid t0;clear t0 t1 t2
     try clear hH
     generalize wo.drew=wn at *
     go_upto_region 9 with fail
     obtain ⟨x0,x1,x2,x3,x4,x5,xf⟩:=HQ9.out.sc;obtain ⟨y0,y1,y2,y3,y4,y5,yf⟩:=pF HQ9.out.bel HZR.out;have hly:=lt_of_cell y0;go_wp2;refine bodyPost_ret (v:=.agg #[.slice (some ⟨gb,0,none⟩) n2 c2,.slice none 0 0,.slice none 0 0,.int .i64 0,.int .i64 gy,.int .i64 st]) (by simp [results,Tryz.results15,go_sem,y0,y1,y2,y3,y4,y5,hly]) rfl ⟨_,_,L,[],gy,st,rfl,Em.of HWZ.out HQ9.out HK.out (aU.nil _ _ _ _) (.inl rfl) HSTB.out _ _ _ _ _ _⟩
theorem mY (F : Nat) (hcf : ∀ (args : Array Value) (w : World), (callFunc F args).run Tryz.prog w = .ok (.enter F args) w) (hF : ∀ (b : Bd) (A A' : Option Addr) (n c n' c' : Nat) (l : List V) (w : World), Sl w A n c l → Sl w A' n' c' l → Calls Tryz.prog F #[dK b A n c, dK b A' n' c'] w (dG (.bool true) w))
  (A B:Option Addr) (n c n' c':Nat) (L M:List BE) (w:World) (hS:iH w A n c L) (hM:iH w B n' c' M) (he:L.map aF=M.map aF):Calls Tryz.prog 21 #[.slice A n c,.slice B n' c',.func (.func F) #[] #[]] w (dG (.bool true) w):=by
 have hn:=hS.sl.len;have hcap:=hS.sl.cap;have hbig:=hS.sl.big;have hlen:L.length=M.length:=by have:=congrArg List.length he;simpa using this
 have hn':n'=L.length:=by rw [hM.sl.len,hlen]
 have hcap':L.length≤c':=by have:=hM.sl.cap;omega
 have hbig':=hM.sl.big;subst hn hn';have HS:=hid hS;have HM:=hid hM;have HE:=hid he;have HL:=hid hlen;clear hS hM he hlen
 go_enter Tryz.func21,Tryz.ntmps21
 go_wp2
 go_loopw [17] (fun i wr=>∃ k:Nat,k≤L.length∧i = .int .i64 k∧Below w.heap.size w wr) (fun i _=>L.length-(intOf i).toNat)
 case atStart=>exact ⟨0,Nat.zero_le _,rfl,Below.refl _ _⟩
 case round =>
  obtain ⟨k,hk,rfl,hB⟩:=hrel;obtain ⟨wo,rfl⟩:∃ wo:World,wo=wr:=⟨_,rfl⟩
  by_cases hlt:k<L.length
  ·have hltM : k < M.length := by rw [← HL.out]; exact hlt
   obtain ⟨ba,off,hA,hC⟩:=(HS.out.below hB).sl.at_ (by intro h;subst h;simp at hlt);obtain ⟨bb,off2,hA2,hC2⟩:=(HM.out.below hB).sl.at_ (by intro h;subst h;simp at hltM);subst hA hA2;obtain ⟨x,hx⟩:∃ x,x=L[k]:=⟨_,rfl⟩;obtain ⟨y,hy⟩:∃ y,y=M[k]:=⟨_,rfl⟩
   have hxy:aF x=aF y:=by
    have h1:(L.map aF)[k]? = (M.map aF)[k]? := by rw [HE.out]
    rw [List.getElem?_map,List.getElem?_map,List.getElem?_eq_getElem hlt,List.getElem?_eq_getElem hltM,← hx,← hy] at h1;simpa using h1
   have hxs:Sl wo x.A x.n x.c x.l:=(HS.out.below hB).co x (by rw [hx];exact List.getElem_mem hlt);have hys:Sl wo y.A y.n y.c y.l:=(HM.out.below hB).co y (by rw [hy];exact List.getElem_mem hltM);obtain ⟨d0,d1,d2,d3,d4,d5,d6,d7,d8,d9,d10,d11,d12⟩:=dD hC hlt hx;obtain ⟨e0,e1,e2,e3,e4,e5,e6,e7,e8,e9,e10,e11,e12⟩:=dD hC2 hltM hy;have hbo:=hC.lt;have hbo2:=hC2.lt;have hlt':(k:Int)<(L.length:Int):=by omega
   have hkw:IntKind.i64.wrap ((k:Int)+1)=(k:Int)+1:=IntWalk.i64_in _ (by omega);clear hC hC2 hx hy;obtain ⟨b,A1,n1,c1,l⟩:=x;obtain ⟨b',A2,n2,c2,l'⟩:=y;have h1:b=b':=congrArg Prod.fst hxy;have h2:l=l':=congrArg Prod.snd hxy;subst h1 h2;clear hxy;dsimp only at d0 d1 d2 d3 d4 d5 d6 d7 d8 d9 d10 d11 d12 e0 e1 e2 e3 e4 e5 e6 e7 e8 e9 e10 e11 e12 hxs hys;obtain ⟨w2,hw2⟩:∃ w2,w2=(wo.alloc (.cells #[.int .i64 b.px,.int .i64 b.py,.int .i64 b.vx,.int .i64 b.vy,.int .i64 b.ang,.int .i64 b.spin,.int .i64 b.mass,.int .i64 b.iner,.int .i64 b.bounce,.int .i64 b.rub,.slice A1 n1 c1,.bool b.asleep,.int .i64 b.calm] 27)).alloc (.cells #[.int .i64 b.px,.int .i64 b.py,.int .i64 b.vx,.int .i64 b.vy,.int .i64 b.ang,.int .i64 b.spin,.int .i64 b.mass,.int .i64 b.iner,.int .i64 b.bounce,.int .i64 b.rub,.slice A2 n2 c2,.bool b.asleep,.int .i64 b.calm] 27):=⟨_,rfl⟩;have hb2:Below wo.heap.size wo w2:=by rw [hw2];go_grown
   have HK:=hid (show aL w2 wo.heap.size b A1 n1 c1 by rw [hw2];exact (aL.here wo b A1 n1 c1 _).alloc _);have HK2:=hid (show aL w2 (wo.heap.size+1) b A2 n2 c2 by rw [hw2];have:=aL.here (wo.alloc (.cells #[.int .i64 b.px,.int .i64 b.py,.int .i64 b.vx,.int .i64 b.vy,.int .i64 b.ang,.int .i64 b.spin,.int .i64 b.mass,.int .i64 b.iner,.int .i64 b.bounce,.int .i64 b.rub,.slice A1 n1 c1,.bool b.asleep,.int .i64 b.calm] 27)) b A2 n2 c2 27;simpa using this);have HF:=hid (hF b A1 A2 n1 c1 n2 c2 l w2 (hxs.below hb2) (hys.below hb2));have hB2:=aj hb2 hB;clear hxs hys hb2 hB
   go_upto_region 7 with fail
   rw [← hw2];clear hw2 d0 d1 d2 d3 d4 d5 d6 d7 d8 d9 d10 d11 d12 e0 e1 e2 e3 e4 e5 e6 e7 e8 e9 e10 e11 e12 hbo hbo2;obtain ⟨k0,k1,k2,k3,k4,k5,k6,k7,k8,k9,k10,k11,k12,kf⟩:=HK.out;obtain ⟨m0,m1,m2,m3,m4,m5,m6,m7,m8,m9,m10,m11,m12,mf⟩:=HK2.out;clear HK HK2
   go_wp2_with fail
   refine HF.out.mono ?_;rintro e w3 ⟨rfl,hb3⟩;have hB3:=aj hb3 hB2;clear hb3 hB2 HF k0 k1 k2 k3 k4 k5 k6 k7 k8 k9 k10 k11 k12 m0 m1 m2 m3 m4 m5 m6 m7 m8 m9 m10 m11 m12 kf mf;go_wp2;go_roundw
   case rel=>exact ⟨k+1,by omega,by go_num,hB3⟩
   case measure=>simp [intOf] <;> omega
  ·have hkn : k = L.length := by omega
   subst hkn;go_wp2
   go_returns
   exact bR (by simp) hB
theorem AQ {L:List BE} {C:List Ct} (hB:aZ L=0) (hl:C.length≤4096) (h:∀ x ∈ C,fT L.length x):bg L C=0:=by
 unfold bg;rw [if_neg (by simp [hB]),if_neg (by omega)]
 have go:∀ k,k≤C.length→vY L.length C k=0:=fun k=>by
  induction k with
  | zero=>intro _;rfl
  | succ k ih =>
   intro hk;rw [zL (by omega) (ih (by omega))];unfold MC;rw [if_pos (h _ (List.getElem_mem _))]
 exact go _ (Nat.le_refl _)

end
end Go.Proofs.YtokgmcomgflloaaGreat
