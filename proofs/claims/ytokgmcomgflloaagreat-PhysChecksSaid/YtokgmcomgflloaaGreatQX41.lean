/- Parts of a proof: contracts and laws. -/
import Derived.Test.YtokgmcomgflloaaGreatQX19
import Derived.Test.YtokgmcomgflloaaGreatQX15
import Derived.Test.YtokgmcomgflloaaGreatQX40
import Derived.Test.YtokgmcomgflloaaGreatQX04
set_option maxRecDepth 100000
set_option maxHeartbeats 16000000
namespace Go.Proofs.YtokgmcomgflloaaGreat
section
set_option linter.unusedVariables false
set_option linter.unusedSimpArgs false
open Go.RowKit
variable {w0 w w':World}

structure Rw where
 t1:Int
 t2:Int
 ease:Int
 slip:Int
 lift:Int
 bound:Int
def Gq (Q:List QB) (x:Ct) (v1 v2:Int):Int:=Ig (qB Q x.a) (qB Q x.b) x.px x.py x.px x.py v1 v2
def relE (Q:List QB) (x:Ct) (v1 v2:Int):Int:=GV (qB Q x.a) (qB Q x.b) x.px x.py x.px x.py v1 v2
def GA (x:Ct) (st:Int):Int:=kT (bn (max 0 (x.dep-512)) 8192) st
def Iy (Q:List QB) (x:Ct) (st:Int):Int:=if Gq Q x x.nx x.ny < -32768 then dQ (GA x st) (bn (max (qB Q x.a).bounce (qB Q x.b).bounce) (-(Gq Q x x.nx x.ny))) else GA x st
def I9 (Q:List QB) (st:Int) (x:Ct):Rw:=⟨-x.ny,x.nx,relE Q x x.nx x.ny,relE Q x (-x.ny) x.nx,Iy Q x st,min (qB Q x.a).rub (qB Q x.b).rub⟩
def FE (Q:List QB) (x:Ct) (j1 j2:Int):List QB:=Bo Q x.a.toNat x.b.toNat x.px x.py x.px x.py j1 j2
def Ii (Q:List QB) (x:Ct) (r:Rw):List QB:=FE Q x (dQ (bn x.nx x.push) (bn r.t1 x.sli)) (dQ (bn x.ny x.push) (bn r.t2 x.sli))
def zL (Q:List QB) (x:Ct) (r:Rw):Int:=cZ (fO x.sli (kT (Gq Q x r.t1 r.t2) r.slip)) (bn r.bound x.push)
def Gy (Q:List QB) (x:Ct) (r:Rw):List QB × Ct :=
 if r.slip=0 then (Q,x) else (FE Q x (bn r.t1 (fO (zL Q x r) x.sli)) (bn r.t2 (fO (zL Q x r) x.sli)),{ x with sli:=zL Q x r })
def Af (Q:List QB) (x:Ct) (r:Rw):Int:=max 0 (dQ x.push (kT (fO r.lift (Gq Q x x.nx x.ny)) r.ease))
def II (Q:List QB) (x:Ct) (r:Rw):List QB × Ct :=
 if r.ease=0 then (Q,x) else (FE Q x (bn x.nx (fO (Af Q x r) x.push)) (bn x.ny (fO (Af Q x r) x.push)),{ x with push:=Af Q x r })
def DY (Q:List QB) (x:Ct) (r:Rw):List QB × Ct:=II (Gy Q x r).1 (Gy Q x r).2 r
def GJ (Q:List QB) (C:List Ct) (st:Int):List Rw:=C.map (I9 Q st)
def Aw (Q : List QB) (C : List Ct) (R : List Rw) : Nat → List QB
 | 0=>Q
 | k+1=>match C[k]?,R[k]? with | some x,some r=>Ii (Aw Q C R k) x r | _,_=>Aw Q C R k
def Ia (S:List QB × List Ct) (R:List Rw) (i:Nat):List QB × List Ct:=match S.2[i]?,R[i]? with | some x,some r=>((DY S.1 x r).1,S.2.set i (DY S.1 x r).2) | _,_=>S
def GH (S : List QB × List Ct) (R : List Rw) (n : Nat) : Nat → List QB × List Ct
 | 0=>S
 | k+1=>Ia (GH S R n k) R (k % n)
def rT (Q:List QB) (C:List Ct) (st:Int) (r:Nat):List QB × List Ct:=GH (Aw Q C (GJ Q C st) C.length,C) (GJ Q C st) C.length (r*C.length)


structure Cg (w : World) (g : Nat) (x : Ct) : Prop where
 c0:w.cell? ⟨g,0,none⟩=some (.int .i64 x.a)
 c1:w.cell? ⟨g,1,none⟩=some (.int .i64 x.b)
 c2:w.cell? ⟨g,2,none⟩=some (.int .i64 x.id)
 c3:w.cell? ⟨g,3,none⟩=some (.int .i64 x.px)
 c4:w.cell? ⟨g,4,none⟩=some (.int .i64 x.py)
 c5:w.cell? ⟨g,5,none⟩=some (.int .i64 x.nx)
 c6:w.cell? ⟨g,6,none⟩=some (.int .i64 x.ny)
 c7:w.cell? ⟨g,7,none⟩=some (.int .i64 x.dep)
 c8:w.cell? ⟨g,8,none⟩=some (.int .i64 x.push)
 c9:w.cell? ⟨g,9,none⟩=some (.int .i64 x.sli)
theorem zi {g:Nat} {x:Ct} (hb:Below w.heap.size w w') (h:Cg w g x):Cg w' g x:=⟨keepCell hb h.c0,keepCell hb h.c1,keepCell hb h.c2,keepCell hb h.c3,keepCell hb h.c4,keepCell hb h.c5,keepCell hb h.c6,keepCell hb h.c7,keepCell hb h.c8,keepCell hb h.c9⟩
theorem Cg.drew {g:Nat} {x:Ct} (h:Cg w g x):Cg w.drew g x:=zi (Below.refl _ _).drew h
theorem Cg.alloc {g:Nat} {x:Ct} (h:Cg w g x) (o:Obj):Cg (w.alloc o) g x:=zi Ba h
theorem Cg.next {g k:Nat} {x:Ct} (h:Cg w g x) (hg:w.grownBy w' (some k)) (hne:g≠k):Cg w' g x :=
 have e:=hg.block g (lt_of_cell h.c0) (by simpa using hne)
 ⟨(World.cell?_of_block e).trans h.c0,(World.cell?_of_block e).trans h.c1,(World.cell?_of_block e).trans h.c2,(World.cell?_of_block e).trans h.c3,(World.cell?_of_block e).trans h.c4,(World.cell?_of_block e).trans h.c5,(World.cell?_of_block e).trans h.c6,(World.cell?_of_block e).trans h.c7,(World.cell?_of_block e).trans h.c8,(World.cell?_of_block e).trans h.c9⟩

structure Rt (w0 : World) (g : Nat) (L : List BE) (w : World) : Prop where
 bl:BL w g L
 gr:w0.grownBy w (some g)
 lt:g<w0.heap.size
theorem D8 {g:Nat} {L:List BE} {w w':World} (hb:Below w.heap.size w w') (h:Rt w0 g L w):Rt w0 g L w':=⟨eX hb h.bl,fA h.gr (dz hb),h.lt⟩
theorem Rt.drew {g:Nat} {L:List BE} {w:World} (h:Rt w0 g L w):Rt w0 g L w.drew:=D8 (Below.refl _ _).drew h
theorem Rt.alloc {g:Nat} {L:List BE} {w:World} (h:Rt w0 g L w) (o:Obj):Rt w0 g L (w.alloc o):=D8 Ba h
structure Rz (w : World) (g : Nat) : Prop where
 c:∀ j,j<6→∃ v,w.cell? ⟨g,j,none⟩=some v
 free:∀ j,w.frozen? ⟨g,j,none⟩=false
theorem Rz.lt {g:Nat} (h:Rz w g):g<w.heap.size:=by
 obtain ⟨v,hv⟩:=h.c 0 (by omega);exact lt_of_cell hv
theorem Ho {g:Nat} (hb:Below w.heap.size w w') (h:Rz w g):Rz w' g :=
 ⟨fun j hj=>by obtain ⟨v,hv⟩:=h.c j hj;exact ⟨v,keepCell hb hv⟩,fun j=>((bX hb).2 _ _ h.lt).trans (h.free j)⟩
theorem Rz.set {g:Nat} (h:Rz w g) (a:Addr) (u:Value):Rz (w.setCell a u) g:=⟨fun j hj=>by
  obtain ⟨v,hv⟩:=h.c j hj
  by_cases e:a=⟨g,j,none⟩
  ·subst e;exact ⟨u,by go_simp⟩
  ·exact ⟨v,by go_simp⟩,fun j=>by rw [World.frozen?_setCell];exact h.free j⟩
theorem Rz.all {g:Nat} (h:Rz w g):∃ z0 z1 z2 z3 z4 z5:Value,w.cell? ⟨g,0,none⟩=some z0∧w.cell? ⟨g,1,none⟩=some z1∧w.cell? ⟨g,2,none⟩=some z2∧w.cell? ⟨g,3,none⟩=some z3∧w.cell? ⟨g,4,none⟩=some z4∧w.cell? ⟨g,5,none⟩=some z5:=by
 obtain ⟨z0,h0⟩:=h.c 0 (by omega);obtain ⟨z1,h1⟩:=h.c 1 (by omega);obtain ⟨z2,h2⟩:=h.c 2 (by omega);obtain ⟨z3,h3⟩:=h.c 3 (by omega);obtain ⟨z4,h4⟩:=h.c 4 (by omega);obtain ⟨z5,h5⟩:=h.c 5 (by omega);exact ⟨z0,z1,z2,z3,z4,z5,h0,h1,h2,h3,h4,h5⟩

structure Rg (w : World) (g : Nat) (a0 a1 a2 a3 a4 a5 : Int) : Prop where
 c0:w.cell? ⟨g,0,none⟩=some (.int .i64 a0)
 c1:w.cell? ⟨g,1,none⟩=some (.int .i64 a1)
 c2:w.cell? ⟨g,2,none⟩=some (.int .i64 a2)
 c3:w.cell? ⟨g,3,none⟩=some (.int .i64 a3)
 c4:w.cell? ⟨g,4,none⟩=some (.int .i64 a4)
 c5:w.cell? ⟨g,5,none⟩=some (.int .i64 a5)
 f:∀ j,w.frozen? ⟨g,j,none⟩=false
section
variable {w0 w w':World}
variable {w w':World} {g:Nat} {a0 a1 a2 a3 a4 a5:Int}
theorem Hq (hb:Below w.heap.size w w') (h:Rg w g a0 a1 a2 a3 a4 a5):Rg w' g a0 a1 a2 a3 a4 a5:=⟨keepCell hb h.c0,keepCell hb h.c1,keepCell hb h.c2,keepCell hb h.c3,keepCell hb h.c4,keepCell hb h.c5,fun j=>((bX hb).2 _ _ (lt_of_cell h.c0)).trans (h.f j)⟩
theorem Rg.drew (h:Rg w g a0 a1 a2 a3 a4 a5):Rg w.drew g a0 a1 a2 a3 a4 a5:=Hq (Below.refl _ _).drew h
theorem Rg.s2 (h:Rg w g a0 a1 a2 a3 a4 a5) (v:Int):Rg (w.setCell ⟨g,2,none⟩ (.int .i64 v)) g a0 a1 v a3 a4 a5:=by
 obtain ⟨h0,h1,h2,h3,h4,h5,hf⟩:=h;exact ⟨by go_simp,by go_simp,by go_simp,by go_simp,by go_simp,by go_simp,fun j=>by rw [World.frozen?_setCell];exact hf j⟩
theorem Rg.s3 (h:Rg w g a0 a1 a2 a3 a4 a5) (v:Int):Rg (w.setCell ⟨g,3,none⟩ (.int .i64 v)) g a0 a1 a2 v a4 a5:=by
 obtain ⟨h0,h1,h2,h3,h4,h5,hf⟩:=h;exact ⟨by go_simp,by go_simp,by go_simp,by go_simp,by go_simp,by go_simp,fun j=>by rw [World.frozen?_setCell];exact hf j⟩
theorem Rg.s4 (h:Rg w g a0 a1 a2 a3 a4 a5) (v:Int):Rg (w.setCell ⟨g,4,none⟩ (.int .i64 v)) g a0 a1 a2 a3 v a5:=by
 obtain ⟨h0,h1,h2,h3,h4,h5,hf⟩:=h;exact ⟨by go_simp,by go_simp,by go_simp,by go_simp,by go_simp,by go_simp,fun j=>by rw [World.frozen?_setCell];exact hf j⟩
end

structure Ps (w0 : World) (gs g cap : Nat) (L : List BE) (x : Ct) (w : World) : Prop where
 sv:w.cell? ⟨gs,0,none⟩=some (.slice (some ⟨g,0,none⟩) L.length cap)
 cg:Cg w w0.heap.size x
 bl:BL w g L
 bel:Below w0.heap.size w0 w
 lt:g<w0.heap.size
 ls:gs<w0.heap.size
 lo:∀ y ∈ L,∀ bx off,y.A=some ⟨bx,off,none⟩→bx<w0.heap.size
 rz:Rz w (w0.heap.size+1)
 sz:w0.heap.size+1<w.heap.size
section
variable {w0 w w':World}
variable {w0 w w':World} {gs g cap:Nat} {L:List BE} {x:Ct}
theorem EJ (hb:Below w.heap.size w w') (h:Ps w0 gs g cap L x w):Ps w0 gs g cap L x w':=⟨keepCell hb h.sv,zi hb h.cg,eX hb h.bl,ah hb h.bel,h.lt,h.ls,h.lo,Ho hb h.rz,Nat.lt_of_lt_of_le h.sz hb.size⟩
theorem Ps.drew (h:Ps w0 gs g cap L x w):Ps w0 gs g cap L x w.drew:=EJ (Below.refl _ _).drew h
theorem Ps.alloc (h:Ps w0 gs g cap L x w) (o:Obj):Ps w0 gs g cap L x (w.alloc o):=EJ Ba h
theorem Ps.set {k o:Nat} {v:Value} (h:Ps w0 gs g cap L x w) (hk:w0.heap.size+1<k):Ps w0 gs g cap L x (w.setCell ⟨k,o,none⟩ v):=by
 have hlt:=h.lt;have hls:=h.ls;exact ⟨aW (by omega) h.sv,h.cg.next (aX w k o v) (by omega),h.bl.off (by omega) (fun y hy bx off e=>by have:=h.lo y hy bx off e;omega),h.bel.setCell (p:=⟨k,o,none⟩) (by show w0.heap.size≤k;omega) _,h.lt,h.ls,h.lo,h.rz.set _ _,by simp;exact h.sz⟩
theorem Ps.setBd {k:Nat} (h:Ps w0 gs g cap L x w) (hk:w0.heap.size+1<k) (b:Bd) (A:Option Addr) (n c:Nat):Ps w0 gs g cap L x (Go.Proofs.YtokgmcomgflloaaGreat.setBd w k b A n c):=by
 unfold Go.Proofs.YtokgmcomgflloaaGreat.setBd
 iterate 13 refine Ps.set ?_ hk
 exact h
end
def encR (x:Rw):List Value:=[.int .i64 x.t1,.int .i64 x.t2,.int .i64 x.ease,.int .i64 x.slip,.int .i64 x.lift,.int .i64 x.bound]
def GL:Lay Rw:=⟨encR,6,fun _=>rfl,fun x v hv=>by simp only [encR,List.mem_cons,List.mem_nil_iff,or_false] at hv;rcases hv with rfl | rfl | rfl | rfl | rfl | rfl <;> rfl,by omega⟩
theorem Rz.here (w:World) (t:TypeId):Rz (w.alloc (.cells #[.int .i64 0,.int .i64 0,.int .i64 0,.int .i64 0,.int .i64 0,.int .i64 0] t)) w.heap.size:=⟨fun j hj=>match j,hj with | 0,_ | 1,_ | 2,_ | 3,_ | 4,_ | 5,_=>⟨.int .i64 0,by go_simp⟩,fun j=>by go_simp⟩
theorem Rz.drew {g:Nat} (h:Rz w g):Rz w.drew g:=⟨h.c,h.free⟩
theorem Rg.next {g k:Nat} {a0 a1 a2 a3 a4 a5:Int} (h:Rg w g a0 a1 a2 a3 a4 a5) (hg:w.grownBy w' (some k)) (hne:g≠k):Rg w' g a0 a1 a2 a3 a4 a5 :=
 have e:=hg.block g (lt_of_cell h.c0) (by simpa using hne)
 ⟨(World.cell?_of_block e).trans h.c0,(World.cell?_of_block e).trans h.c1,(World.cell?_of_block e).trans h.c2,(World.cell?_of_block e).trans h.c3,(World.cell?_of_block e).trans h.c4,(World.cell?_of_block e).trans h.c5,fun j=>(World.frozen?_of_block e).trans (h.f j)⟩

structure yS (w w' : World) (g c : Nat) : Prop where
 os:w'.os=w.os
 tape:w'.tape=w.tape
 output:w'.output=w.output
 size:w.heap.size≤w'.heap.size
 block:∀ k,k<w.heap.size→k≠g→k≠c→w'.heap[k]? = w.heap[k]?
theorem yS.refl (w:World) (g c:Nat):yS w w g c:=⟨rfl,rfl,rfl,Nat.le_refl _,fun _ _ _ _=>rfl⟩
theorem yS.step {a b d:World} {g c:Nat} (h:yS a b g c) {k:Nat} (hg:b.grownBy d (some k)) (hk:k=g∨k=c):yS a d g c :=
 ⟨hg.os.trans h.os,hg.tape.trans h.tape,hg.output.trans h.output,Nat.le_trans h.size hg.size,fun j hj h1 h2=>(hg.block j (Nat.lt_of_lt_of_le hj h.size) (by simp;omega)).trans (h.block j hj h1 h2)⟩
theorem yS.below {a b d:World} {g c:Nat} (h:yS a b g c) (hb:Below b.heap.size b d):yS a d g c :=
 ⟨hb.os.trans h.os,hb.tape.trans h.tape,hb.output.trans h.output,Nat.le_trans h.size hb.size,fun j hj h1 h2=>(hb.block j (Nat.lt_of_lt_of_le hj h.size)).trans (h.block j hj h1 h2)⟩
theorem yS.off {a b:World} {g c k:Nat} (h:yS a b g c) (o:Nat) (v:Value) (hk:a.heap.size≤k):yS a (b.setCell ⟨k,o,none⟩ v) g c :=
 have hg:=aX b k o v
 ⟨hg.os.trans h.os,hg.tape.trans h.tape,hg.output.trans h.output,Nat.le_trans h.size hg.size,fun j hj h1 h2=>(hg.block j (Nat.lt_of_lt_of_le hj h.size) (by simp;omega)).trans (h.block j hj h1 h2)⟩

structure Sr (w0 : World) (gs g gc gq cap cc cq : Nat) (L : List BE) (C : List Ct) (R : List Rw) (w : World) : Prop where
 s0:w.cell? ⟨gs,0,none⟩=some (.slice (some ⟨g,0,none⟩) L.length cap)
 s1:w.cell? ⟨gs,1,none⟩=some (.slice (some ⟨gc,0,none⟩) C.length cc)
 s2:w.cell? ⟨gs,2,none⟩=some (.slice (some ⟨gq,0,none⟩) R.length cq)
 bl:BL w g L
 cl:aH dH w gc 0 C
 cf:∀ j,w.frozen? ⟨gc,j,none⟩=false
 rl:aH GL w gq 0 R
 nc:∀ y ∈ L,∀ bx off,y.A=some ⟨bx,off,none⟩→bx≠gc
 gr:yS w0 w g gc
 lt:g<w0.heap.size∧gc<w0.heap.size∧gq<w0.heap.size∧gs<w0.heap.size
 ne:g≠gc∧g≠gs∧gc≠gs∧g≠gq∧gc≠gq
section
variable {w0 w w':World}
variable {w0 w w':World} {gs g gc gq cap cc cq:Nat} {L:List BE} {C:List Ct} {R:List Rw}
theorem EH (hb:Below w.heap.size w w') (h:Sr w0 gs g gc gq cap cc cq L C R w):Sr w0 gs g gc gq cap cc cq L C R w' :=
 ⟨keepCell hb h.s0,keepCell hb h.s1,keepCell hb h.s2,eX hb h.bl,h.cl.below hb,fun j=>((bX hb).2 _ _ h.cl.lt).trans (h.cf j),h.rl.below hb,h.nc,h.gr.below hb,h.lt,h.ne⟩
theorem Sr.drew (h:Sr w0 gs g gc gq cap cc cq L C R w):Sr w0 gs g gc gq cap cc cq L C R w.drew:=EH (Below.refl _ _).drew h
theorem Sr.alloc (h:Sr w0 gs g gc gq cap cc cq L C R w) (o:Obj):Sr w0 gs g gc gq cap cc cq L C R (w.alloc o):=EH Ba h
theorem Sr.off {k o:Nat} {v:Value} (h:Sr w0 gs g gc gq cap cc cq L C R w) (hk:w0.heap.size≤k) (hn:∀ y ∈ L,∀ bx off,y.A=some ⟨bx,off,none⟩→bx≠k):Sr w0 gs g gc gq cap cc cq L C R (w.setCell ⟨k,o,none⟩ v):=by
 obtain ⟨l1,l2,l3,l4⟩:=h.lt;exact ⟨aW (by omega) h.s0,aW (by omega) h.s1,aW (by omega) h.s2,h.bl.off (by omega) hn,⟨by simp;exact h.cl.lt,fun j hj i u hu=>aW (by omega) (h.cl.at_ j hj i u hu)⟩,fun j=>by rw [World.frozen?_setCell];exact h.cf j,⟨by simp;exact h.rl.lt,fun j hj i u hu=>aW (by omega) (h.rl.at_ j hj i u hu)⟩,h.nc,h.gr.off _ _ hk,h.lt,h.ne⟩
theorem Sr.push {L2:List BE} (h:Sr w0 gs g gc gq cap cc cq L C R w) (hbl:BL w' g L2) (hl:L2.length=L.length) (hg:w.grownBy w' (some g)) (hn:∀ y ∈ L2,y ∈ L∨∀ bx off,y.A=some ⟨bx,off,none⟩→w.heap.size≤bx):Sr w0 gs g gc gq cap cc cq L2 C R w':=by
 obtain ⟨l1,l2,l3,l4⟩:=h.lt;obtain ⟨n1,n2,n3,n4,n5⟩:=h.ne;have hs:=h.gr.size;have e:∀ k,k<w0.heap.size→k≠g→w'.heap[k]? = w.heap[k]? := fun k hk hne=>hg.block k (by omega) (by simpa using hne)
 have ec:=e gc l2 (by omega);have eq:=e gq l3 (by omega);have es:=e gs l4 (by omega);refine ⟨by rw [hl];exact (World.cell?_of_block es).trans h.s0,(World.cell?_of_block es).trans h.s1,(World.cell?_of_block es).trans h.s2,hbl,⟨Nat.lt_of_lt_of_le h.cl.lt hg.size,fun j hj i u hu=>(World.cell?_of_block ec).trans (h.cl.at_ j hj i u hu)⟩,fun j=>(World.frozen?_of_block ec).trans (h.cf j),⟨Nat.lt_of_lt_of_le h.rl.lt hg.size,fun j hj i u hu=>(World.cell?_of_block eq).trans (h.rl.at_ j hj i u hu)⟩,fun y hy bx off e2=>?_,h.gr.step hg (.inl rfl),h.lt,h.ne⟩
 rcases hn y hy with q | q
 ·exact h.nc y q bx off e2
 ·have:=q bx off e2;omega
end
end
end Go.Proofs.YtokgmcomgflloaaGreat
