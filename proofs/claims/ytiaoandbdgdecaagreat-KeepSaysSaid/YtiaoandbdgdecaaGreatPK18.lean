/- Parts of a proof: contracts and laws. -/
import Derived.Test.YtiaoandbdgdecaaGreatPK17
import Derived.Test.YtiaoandbdgdecaaGreatPK14
import Derived.Test.YtiaoandbdgdecaaGreatPK08
import Derived.Test.YtiaoandbdgdecaaGreatPK12
import Derived.Test.YtiaoandbdgdecaaGreatPK05
import Derived.Test.YtiaoandbdgdecaaGreatPK03
import Derived.Test.YtiaoandbdgdecaaGreatPK04
import Derived.Test.YtiaoandbdgdecaaGreatPK11
import Derived.Test.YtiaoandbdgdecaaGreatPK13
set_option maxRecDepth 100000
set_option maxHeartbeats 16000000
namespace Go.Proofs.YtiaoandbdgdecaaGreat
section
set_option linter.unusedVariables false
set_option linter.unusedSimpArgs false
open Go.RowKit

structure Pj (w0 : World) (g : Nat) (L : List BE) (x : Jt) (p1 p2 q1 q2 v1 v2 : Int) (w : World) : Prop where
 j:w.cell? ⟨w0.heap.size,0,none⟩=some (.int .i64 x.a)∧w.cell? ⟨w0.heap.size,1,none⟩=some (.int .i64 x.b)∧w.cell? ⟨w0.heap.size,2,none⟩=some (.int .i64 x.p1)∧w.cell? ⟨w0.heap.size,3,none⟩=some (.int .i64 x.p2)∧w.cell? ⟨w0.heap.size,4,none⟩=some (.int .i64 x.q1)∧w.cell? ⟨w0.heap.size,5,none⟩=some (.int .i64 x.q2)∧w.cell? ⟨w0.heap.size,6,none⟩=some (.int .i64 x.len)
 p:w.cell? ⟨w0.heap.size+1,0,none⟩=some (.int .i64 p1)∧w.cell? ⟨w0.heap.size+1,1,none⟩=some (.int .i64 p2)
 q:w.cell? ⟨w0.heap.size+2,0,none⟩=some (.int .i64 q1)∧w.cell? ⟨w0.heap.size+2,1,none⟩=some (.int .i64 q2)
 v:w.cell? ⟨w0.heap.size+3,0,none⟩=some (.int .i64 v1)∧w.cell? ⟨w0.heap.size+3,1,none⟩=some (.int .i64 v2)
 bl:BL w g L
 bel:Below w0.heap.size w0 w
 lt:g<w0.heap.size
 lo:∀ y ∈ L,∀ bx off,y.A=some ⟨bx,off,none⟩→bx<w0.heap.size
 sz:w0.heap.size+3<w.heap.size
theorem keepPj {w0:World} {g:Nat} {L:List BE} {x:Jt} {p1 p2 q1 q2 v1 v2:Int} {w w':World} (hb:Below w.heap.size w w') (h:Pj w0 g L x p1 p2 q1 q2 v1 v2 w):Pj w0 g L x p1 p2 q1 q2 v1 v2 w':=by
 obtain ⟨h0,h1,h2,h3,h4,h5,h6⟩:=h.j
 exact ⟨⟨keepCell hb h0,keepCell hb h1,keepCell hb h2,keepCell hb h3,keepCell hb h4,keepCell hb h5,keepCell hb h6⟩,⟨keepCell hb h.p.1,keepCell hb h.p.2⟩,⟨keepCell hb h.q.1,keepCell hb h.q.2⟩,⟨keepCell hb h.v.1,keepCell hb h.v.2⟩,keepBL hb h.bl,keepBelow hb h.bel,h.lt,h.lo,Nat.lt_of_lt_of_le h.sz hb.size⟩
theorem Pj.alloc {w0:World} {g:Nat} {L:List BE} {x:Jt} {p1 p2 q1 q2 v1 v2:Int} {w:World} (h:Pj w0 g L x p1 p2 q1 q2 v1 v2 w) (o:Obj):Pj w0 g L x p1 p2 q1 q2 v1 v2 (w.alloc o):=keepPj Ba h
theorem Pj.drew {w0:World} {g:Nat} {L:List BE} {x:Jt} {p1 p2 q1 q2 v1 v2:Int} {w:World} (h:Pj w0 g L x p1 p2 q1 q2 v1 v2 w):Pj w0 g L x p1 p2 q1 q2 v1 v2 w.drew:=keepPj (Below.refl _ _).drew h

theorem BL.off {w:World} {g k o:Nat} {v:Value} {L:List BE} (h:BL w g L) (hk:k≠g) (hne:∀ x ∈ L,∀ bx off,x.A=some ⟨bx,off,none⟩→bx≠k):BL (w.setCell ⟨k,o,none⟩ v) g L :=
 ⟨⟨by simp;exact h.cl.lt,fun j hj i u hu=>far1 hk (h.cl.at_ j hj i u hu)⟩,fun j=>by rw [World.frozen?_setCell];exact h.free j,fun x hx=>(h.co x hx).setAt (hne x hx),h.ne⟩
theorem Pj.set {w0:World} {g:Nat} {L:List BE} {x:Jt} {p1 p2 q1 q2 v1 v2:Int} {w:World} {k o:Nat} {v:Value} (h:Pj w0 g L x p1 p2 q1 q2 v1 v2 w) (hk:w0.heap.size+3<k):Pj w0 g L x p1 p2 q1 q2 v1 v2 (w.setCell ⟨k,o,none⟩ v):=by
 obtain ⟨h0,h1,h2,h3,h4,h5,h6⟩:=h.j
 have hlt:=h.lt
 have n0:k≠w0.heap.size:=by omega
 have n1:k≠w0.heap.size+1:=by omega
 have n2:k≠w0.heap.size+2:=by omega
 have n3:k≠w0.heap.size+3:=by omega
 exact ⟨⟨far1 n0 h0,far1 n0 h1,far1 n0 h2,far1 n0 h3,far1 n0 h4,far1 n0 h5,far1 n0 h6⟩,⟨far1 n1 h.p.1,far1 n1 h.p.2⟩,⟨far1 n2 h.q.1,far1 n2 h.q.2⟩,⟨far1 n3 h.v.1,far1 n3 h.v.2⟩,h.bl.off (by omega) (fun y hy bx off e=>by have:=h.lo y hy bx off e;omega),h.bel.setCell (p:=⟨k,o,none⟩) (by show w0.heap.size≤k;omega) _,h.lt,h.lo,by simp;exact h.sz⟩
theorem Pj.setBd {w0:World} {g:Nat} {L:List BE} {x:Jt} {p1 p2 q1 q2 v1 v2:Int} {w:World} {k:Nat} (h:Pj w0 g L x p1 p2 q1 q2 v1 v2 w) (hk:w0.heap.size+3<k) (b:Bd) (A:Option Addr) (n c:Nat):Pj w0 g L x p1 p2 q1 q2 v1 v2 (Go.Proofs.YtiaoandbdgdecaaGreat.setBd w k b A n c):=by
 unfold Go.Proofs.YtiaoandbdgdecaaGreat.setBd
 iterate 13 refine Pj.set ?_ hk
 exact h
end
end Go.Proofs.YtiaoandbdgdecaaGreat
namespace Go.Proofs.YtiaoandbdgdecaaGreat
section
set_option linter.unusedVariables false
set_option linter.unusedSimpArgs false
open Go.RowKit

structure Vg (w : World) (g : Nat) (x y : Int) : Prop where
 a:w.cell? ⟨g,0,none⟩=some (.int .i64 x)
 b:w.cell? ⟨g,1,none⟩=some (.int .i64 y)
theorem keepVg {w w':World} {g:Nat} {x y:Int} (hb:Below w.heap.size w w') (h:Vg w g x y):Vg w' g x y:=⟨keepCell hb h.a,keepCell hb h.b⟩
theorem Vg.drew {w:World} {g:Nat} {x y:Int} (h:Vg w g x y):Vg w.drew g x y:=⟨h.a,h.b⟩
theorem Vg.next {w w':World} {g k:Nat} {x y:Int} (h:Vg w g x y) (hg:w.grownBy w' (some k)) (hne:g≠k):Vg w' g x y :=
 ⟨(World.cell?_of_block (hg.block g (lt_of_cell h.a) (by simpa using hne))).trans h.a,(World.cell?_of_block (hg.block g (lt_of_cell h.a) (by simpa using hne))).trans h.b⟩
structure Jg (w : World) (g : Nat) (x : Jt) : Prop where
 c0:w.cell? ⟨g,0,none⟩=some (.int .i64 x.a)
 c1:w.cell? ⟨g,1,none⟩=some (.int .i64 x.b)
 c2:w.cell? ⟨g,2,none⟩=some (.int .i64 x.p1)
 c3:w.cell? ⟨g,3,none⟩=some (.int .i64 x.p2)
 c4:w.cell? ⟨g,4,none⟩=some (.int .i64 x.q1)
 c5:w.cell? ⟨g,5,none⟩=some (.int .i64 x.q2)
 c6:w.cell? ⟨g,6,none⟩=some (.int .i64 x.len)
theorem keepJg {w w':World} {g:Nat} {x:Jt} (hb:Below w.heap.size w w') (h:Jg w g x):Jg w' g x :=
 ⟨keepCell hb h.c0,keepCell hb h.c1,keepCell hb h.c2,keepCell hb h.c3,keepCell hb h.c4,keepCell hb h.c5,keepCell hb h.c6⟩
theorem Jg.alloc {w:World} {g:Nat} {x:Jt} (h:Jg w g x) (o:Obj):Jg (w.alloc o) g x:=keepJg Ba h
theorem Vg.alloc {w:World} {g:Nat} {x y:Int} (h:Vg w g x y) (o:Obj):Vg (w.alloc o) g x y:=keepVg Ba h
theorem Jg.drew {w:World} {g:Nat} {x:Jt} (h:Jg w g x):Jg w.drew g x:=keepJg (Below.refl _ _).drew h
theorem Jg.next {w w':World} {g k:Nat} {x:Jt} (h:Jg w g x) (hg:w.grownBy w' (some k)) (hne:g≠k):Jg w' g x :=
 have e:=hg.block g (lt_of_cell h.c0) (by simpa using hne)
 ⟨(World.cell?_of_block e).trans h.c0,(World.cell?_of_block e).trans h.c1,(World.cell?_of_block e).trans h.c2,(World.cell?_of_block e).trans h.c3,(World.cell?_of_block e).trans h.c4,(World.cell?_of_block e).trans h.c5,(World.cell?_of_block e).trans h.c6⟩

structure RJ (w0 : World) (s : Value) (L' : List BE) (w : World) : Prop where
 own:OwnE layB 58 w w0.heap.size s L'
 co:∀ x ∈ L',Sl w x.A x.n x.c x.l∧x.l≠[]∧∀ bx off,x.A=some ⟨bx,off,none⟩→w0.heap.size≤bx∧some bx≠s.ownBlock
 bel:Below w0.heap.size w0 w
theorem sl_grownR {w w':World} {A:Option Addr} {n c:Nat} {l:List V} {row:Option Nat} (h:Sl w A n c l) (hg:w.grownBy w' row) (hne:∀ b off,A=some ⟨b,off,none⟩→some b≠row):Sl w' A n c l:=by
 cases row with
 | none=>exact h.below ⟨hg.os,hg.tape,hg.output,hg.size,fun k hk=>hg.block k hk (by simp)⟩
 | some g=>exact h.grown hg (fun b off e=>fun e2=>hne b off e (by rw [e2]))
theorem sl_lt {w:World} {A:Option Addr} {n c:Nat} {l:List V} (h:Sl w A n c l) (hl:l≠[]):∀ bx off,A=some ⟨bx,off,none⟩→bx<w.heap.size:=fun bx off e=>by
 obtain ⟨b',off',e',hc⟩:=h.at_ hl
 rw [e] at e';cases e';exact hc.lt
theorem RJ.set {w0 wb:World} {s:Value} {L':List BE} {w:World} (hb:RJ w0 s L' wb) (h:RJ w0 s L' w) {k o:Nat} {v:Value} (hk:wb.heap.size≤k):RJ w0 s L' (w.setCell ⟨k,o,none⟩ v):=by
 have hs:=hb.bel.size
 refine ⟨h.own.off (fun j hj=>by have:=(hb.own.lt hj).2;omega) o v,fun x hx=>?_,h.bel.setCell (p:=⟨k,o,none⟩) (by show w0.heap.size≤k;omega) _⟩
 obtain ⟨h1,h2,h3⟩:=h.co x hx
 exact ⟨h1.setAt (fun bx off e=>by have:=sl_lt (hb.co x hx).1 h2 bx off e;omega),h2,h3⟩
theorem RJ.push {w0 wb : World} {s s' : Value} {L' : List BE} {w w7 : World} {o : Obj} {y : BE} (hb : RJ w0 s L' wb) (h : RJ w0 s L' w) (hS : Sl w y.A y.n y.c y.l) (hl : y.l ≠ []) (hf : ∀ bx off, y.A = some ⟨bx, off, none⟩ → wb.heap.size ≤ bx)
  (ho:OwnE layB 58 w7 w0.heap.size s' (L' ++ [y])) (hg:(w.alloc o).grownBy w7 s.ownBlock) (hat:s'.ownBlock=s.ownBlock∨s'.ownBlock=some (w.alloc o).heap.size):RJ w0 s' (L' ++ [y]) w7:=by
 have hsb:=hb.bel.size
 have hsw:=h.bel.size
 have hsa:(w.alloc o).heap.size=w.heap.size+1:=by simp
 have hga:w.grownBy (w.alloc o) s.ownBlock:=World.grownBy_alloc _ _ _
 have hg7:w.grownBy w7 s.ownBlock:=grown_trans hga hg
 have nblk:∀ {z:BE},Sl w z.A z.n z.c z.l→z.l≠[]→(∀ bx off,z.A=some ⟨bx,off,none⟩→some bx≠s.ownBlock)→∀ bx off,z.A=some ⟨bx,off,none⟩→some bx≠s'.ownBlock:=fun {z} hs hne hno bx off e e2=>by
  have:=sl_lt hs hne bx off e
  rcases hat with q | q
  ·exact hno bx off e (e2.trans q)
  ·rw [q,hsa] at e2;cases e2;omega
 have hnw:∀ bx off,y.A=some ⟨bx,off,none⟩→some bx≠s.ownBlock:=fun bx off e e2=>by have:=hf bx off e;have:=(hb.own.lt e2.symm).2;omega
 refine ⟨ho,fun x hx=>?_,h.bel.grown hg7 (by omega) (fun k hk=>(hb.own.lt hk).1)⟩
 rcases List.mem_append.1 hx with hx | hx
 ·obtain ⟨h1, h2, h3⟩ := h.co x hx
  exact ⟨sl_grownR h1 hg7 (fun bx off e=>(h3 bx off e).2),h2,fun bx off e=>⟨(h3 bx off e).1,nblk h1 h2 (fun bx off e=>(h3 bx off e).2) bx off e⟩⟩
 ·rw [List.mem_singleton.1 hx]
  exact ⟨sl_grownR hS hg7 hnw,hl,fun bx off e=>⟨by have:=hf bx off e;omega,nblk hS hl hnw bx off e⟩⟩

def RV (w0:World) (v:Value) (Q:List QB) (w:World):Prop:=∃ L1:List BE,L1.map valB=Q∧Below w0.heap.size w0 w∧((v = .slice none 0 0∧L1=[])∨∃ g cap,v = .slice (some ⟨g,0,none⟩) L1.length cap∧w0.heap.size≤g∧L1.length≤cap∧cap≤maxLen∧BL w g L1)

structure Rj (w0 : World) (B g : Nat) (L : List BE) (w : World) : Prop where
 bl:BL w g L
 bel:Below w0.heap.size w0 w
 ge:w0.heap.size≤g
 gB:g<B
 hi:∀ y ∈ L,∀ bx off,y.A=some ⟨bx,off,none⟩→bx<B
 Bw:B≤w.heap.size
theorem keepRj {w0:World} {B g:Nat} {L:List BE} {w w':World} (hb:Below w.heap.size w w') (h:Rj w0 B g L w):Rj w0 B g L w' :=
 ⟨keepBL hb h.bl,keepBelow hb h.bel,h.ge,h.gB,h.hi,Nat.le_trans h.Bw hb.size⟩
theorem Rj.drew {w0:World} {B g:Nat} {L:List BE} {w:World} (h:Rj w0 B g L w):Rj w0 B g L w.drew:=keepRj (Below.refl _ _).drew h
theorem Rj.alloc {w0:World} {B g:Nat} {L:List BE} {w:World} (h:Rj w0 B g L w) (o:Obj):Rj w0 B g L (w.alloc o):=keepRj Ba h
theorem Rj.set {w0:World} {B g:Nat} {L:List BE} {w:World} (h:Rj w0 B g L w) {k o:Nat} {v:Value} (hk:B≤k):Rj w0 B g L (w.setCell ⟨k,o,none⟩ v) :=
 ⟨h.bl.off (by have:=h.gB;omega) (fun y hy bx off e=>by have:=h.hi y hy bx off e;omega),h.bel.setCell (p:=⟨k,o,none⟩) (by show w0.heap.size≤k;have:=h.gB;have:=h.ge;omega) _,h.ge,h.gB,h.hi,by simp;exact h.Bw⟩
theorem Rj.of {w0:World} {g:Nat} {L:List BE} {w:World} (h:BL w g L) (hB:Below w0.heap.size w0 w) (hg:w0.heap.size≤g) (hv:∀ x ∈ L,bodyE x.b x.l=0):Rj w0 w.heap.size g L w :=
 ⟨h,hB,hg,h.cl.lt,fun y hy=>sl_lt (h.co y hy) (fun e=>by have:=hv y hy;rw [e] at this;exact absurd (bodyE_zero this).1 (by decide)),Nat.le_refl _⟩
theorem Rj.next {w0:World} {B g:Nat} {L:List BE} {w w':World} (h:Rj w0 B g L w) (hg:w.grownBy w' (some g)):Below w0.heap.size w0 w':=h.bel.trans (below_of_grown hg h.bel.size h.ge)
end
end Go.Proofs.YtiaoandbdgdecaaGreat
namespace Go.Proofs.YtiaoandbdgdecaaGreat
section
set_option linter.unusedVariables false
set_option linter.unusedSimpArgs false
open Go.RowKit
theorem cloneCt_calls (A:Option Addr) (n c:Nat) (l:List Ct) (w:World) (hS:SlE layC w A n c l) (hl:l.length≤100000):Calls Tryz.prog 11 #[.slice A n c] w fun e w'=>∃ s,e = .returned s∧OwnE layC 40 w' w.heap.size s l∧Below w.heap.size w w':=by
 have hcmp:∀ w':World,(binOp .eql 25 (.slice A n c) (.slice none 0 0)).run Tryz.prog w' = .ok (.bool A.isNone) w':=fun w'=>Lib.run_eql_slice_nil w' 25 _ A n c 0 0 Tryz.underlying25
 cases A with
 | none =>
  have hl0:l=[]:=by
   rcases l with _ | ⟨a,r⟩
   ·rfl
   ·obtain ⟨b,off,h,_⟩:=hS.at_ (by simp);cases h
  subst hl0
  clear hS
  go_enter Tryz.func11,Tryz.ntmps11
  go_wp2
  refine bodyPost_ret (v:=.slice none 0 0) (by simp [results,Tryz.results11,go_sem]) rfl ⟨_,rfl,OwnE.nil _ _ _ _,Below.refl _ _⟩
 | some ad =>
  have hn:=hS.len
  have HS:=hid hS
  clear hS
  subst hn
  have HO:Hid (OwnE layC 40 (w.alloc (.cells #[] 40)) w.heap.size (.slice (some ⟨w.heap.size,0,none⟩) 0 0) []):=⟨by simp [flatE],.inr ⟨w.heap.size,0,#[],rfl,Nat.le_refl _,heap_alloc_new w _,Nat.le_refl _,Nat.zero_le _,by simp,by simp [flatE]⟩⟩
  have hb0:Below w.heap.size w (w.alloc (.cells #[] 40)):=by go_grown
  go_enter Tryz.func11,Tryz.ntmps11
  go_wp2_with (at_builtin;refine wpList_append_S tyContact rfl _ _ rfl w.heap.size _ [] rfl HO.out _ _ _ l rfl (HS.out.below hb0) (by first | omega | (simp;omega)) (by first | omega | (simp;omega)) (by simp) ?_;intro v' w1 ho1 hg1 hat;have HO1:=hid ho1;have hb1:=hid (hb0.grown hg1 (by simp) (fun k hk=>(HO.out.lt hk).1));clear ho1 hg1 hat)
  obtain ⟨A',n',c',rfl,-,-⟩:=HO1.out.sl
  refine bodyPost_ret (v:=.slice A' n' c') (by simp [results,Tryz.results11,go_sem]) rfl ⟨_,rfl,by simpa using HO1.out,hb1.out⟩
theorem run_eqCt (x:Ct) (w:World):(Op.equalIn 10000 40 (ctV x) (ctV x)).run Tryz.prog w = .ok true w:=by
 have hS:Tryz.prog.underlying 40=some (.struct (Tryz.prog.fieldsOf 40)):=by kernel_rfl
 have hp:Tryz.prog.stoodInHeld 40=false:=by kernel_rfl
 have hS2:Tryz.prog.underlying 27=some (.struct (Tryz.prog.fieldsOf 27)):=by kernel_rfl
 have hp2:Tryz.prog.stoodInHeld 27=false:=by kernel_rfl
 have inner:∀ a b:Int,∀ w,(Op.equalIn 9999 27 (.agg #[.int .i64 a,.int .i64 b]) (.agg #[.int .i64 a,.int .i64 b])).run Tryz.prog w = .ok true w:=fun a b w=>by
  rw [show (9999:Nat)=9998+1 from rfl,run_equalIn_agg w 9998 27 _ _ hS2 hp2]
  simp only [Program.fieldsOf,Tryz.underlying27]
  go_simp
 obtain ⟨a,b,id,px,py,nx,ny,dep,push,sli⟩:=x
 show (Op.equalIn 10000 40 (.agg #[.int .i64 a,.int .i64 b,.int .i64 id,.int .i64 px,.int .i64 py,.int .i64 nx,.int .i64 ny,.int .i64 dep,.int .i64 push,.int .i64 sli]) (.agg #[.int .i64 a,.int .i64 b,.int .i64 id,.int .i64 px,.int .i64 py,.int .i64 nx,.int .i64 ny,.int .i64 dep,.int .i64 push,.int .i64 sli])).run Tryz.prog w = .ok true w
 rw [show (10000:Nat)=9999+1 from rfl,run_equalIn_agg w 9999 40 _ _ hS hp]
 simp only [Program.fieldsOf,Tryz.underlying40]
 go_simp
theorem equalCt_calls (A B:Option Addr) (n c m c':Nat) (l:List Ct) (w:World) (hS:SlE layC w A n c l) (hR:SlE layC w B m c' l) :
  Calls Tryz.prog 15 #[.slice A n c,.slice B m c'] w (Ret (.bool true) w):=by
 have hn:=hS.len
 have hcap:=hS.cap
 have hbig:=hS.big
 have hn':=hR.len
 have hcap':=hR.cap
 have hbig':=hR.big
 subst hn hn'
 have HS:=hid hS
 have HR:=hid hR
 clear hS hR
 go_enter Tryz.func15,Tryz.ntmps15
 go_wp2
 go_loopw [13] (fun i wr=>∃ k:Nat,k≤l.length∧i = .int .i64 k∧Below w.heap.size w wr) (fun i _=>l.length-(intOf i).toNat)
 case atStart=>exact ⟨0,Nat.zero_le _,rfl,Below.refl _ _⟩
 case round =>
  obtain ⟨k,hk,rfl,hB⟩:=hrel
  obtain ⟨wo,rfl⟩:∃ wo:World,wo=wr:=⟨_,rfl⟩
  by_cases hlt:k<l.length
  ·obtain ⟨ba, oa, hA, hC⟩ := (HS.out.below hB).at_ (by intro h; subst h; simp at hlt)
   obtain ⟨bb,ob,hA2,hC2⟩:=(HR.out.below hB).at_ (by intro h;subst h;simp at hlt)
   subst hA hA2
   obtain ⟨x,hx⟩:∃ x,x=l[k]:=⟨_,rfl⟩
   have HX:=hid hx
   have HEQ:=run_eqCt x
   have hlt':(k:Int)<(l.length:Int):=by omega
   have hkw:IntKind.i64.wrap ((k:Int)+1)=(k:Int)+1:=IntWalk.i64_in _ (by omega)
   clear hx
   go_upto_region 6 with fail
   refine wp_region_noPanic ?_
   refine wp_region_U (S:=(S2 (fun w'=>CellsE layC w' ba oa l∧CellsE layC w' bb ob l∧Below w.heap.size w w'))) (T:=(fun _=>0)) (by kernel_rfl) (S2i0 ⟨CellsE.below (Below.refl _ _).drew hC,CellsE.below (Below.refl _ _).drew hC2,hB.drew⟩) (fun hH=>?_)
   have hWr1:Weaker (S2 (fun w'=>CellsE layC w' ba oa l∧CellsE layC w' bb ob l∧Below w.heap.size w w')):=weaker2 _
   refine Utn [(0,16),(1,17),(2,18),(3,19),(4,20),(5,21),(6,22),(7,23),(8,24)] 0 0 0 (L':=?Lr1_1) hWr1 hH ?hyr1_1 ?_
   case hyr1_1=>((iterate 9 apply tkC;rfl;kernel_rfl;intro w' hSw;replace hSw:=S2o0 hSw;(try dsimp only at hSw);have q0:=hSw.1;have q1:=hSw.2.1;have q2:=hSw.2.2;obtain ⟨qa0_0,qa0_1,qa0_2,qa0_3,qa0_4,qa0_5,qa0_6,qa0_7,qa0_8,qa0_9⟩:=cells_ct (q0) hlt HX.out;obtain ⟨c1_0,c1_1,c1_2,c1_3,c1_4,c1_5,c1_6,c1_7,c1_8,c1_9⟩:=cells_ct (q1) hlt HX.out;(try simp only [sB,sC]);go_simp;(try with_reducible rfl));exact tkN)
   simp only [sB,sC]
   refine wpAnyU_done (by kernel_rfl) ?_ _ _
   refine NoPanic.normal ?_
   clear hWr1
   replace hH:=S2o0 hH
   (try dsimp only at hH)
   have t0:=hH.1
   have t1:=hH.2.1
   have t2:=hH.2.2
   have hB2:=t2
   clear t0 t1 t2 hH
   go_wp2
   go_roundw
   case rel=>exact ⟨k+1,by omega,by go_num,hB2⟩
   case measure=>simp [intOf] <;> omega
  ·have hkn : k = l.length := by omega
   subst hkn
   go_wp2
   go_returns
   exact ret_bool (by simp) hB
end
end Go.Proofs.YtiaoandbdgdecaaGreat
