/- Parts of a proof: contracts and laws. -/
import Derived.Test.YtokgmcomgflloaaGreatQA07
import Derived.Test.YtokgmcomgflloaaGreatQA06
import Derived.Test.YtokgmcomgflloaaGreatQA04
import Derived.Test.YtokgmcomgflloaaGreatQA02
import Derived.Maps.AppendAt
set_option maxRecDepth 100000
set_option maxHeartbeats 16000000
namespace Go.Proofs.YtokgmcomgflloaaGreat
section
set_option linter.unusedVariables false
set_option linter.unusedSimpArgs false
open Go.RowKit
variable {w0 w w':World}

structure BE where
 b:Bd
 A:Option Addr
 n:Nat
 c:Nat
 l:List V
def kQ (x:BE):List Value:=[.int .i64 x.b.px,.int .i64 x.b.py,.int .i64 x.b.vx,.int .i64 x.b.vy,.int .i64 x.b.ang,.int .i64 x.b.spin,.int .i64 x.b.mass,.int .i64 x.b.iner,.int .i64 x.b.bounce,.int .i64 x.b.rub,.slice x.A x.n x.c,.bool x.b.asleep,.int .i64 x.b.calm]
def jo:Lay BE:=⟨kQ,13,fun _=>rfl,fun x v hv=>by simp only [kQ,List.mem_cons,List.mem_nil_iff,or_false] at hv;rcases hv with rfl | rfl | rfl | rfl | rfl | rfl | rfl | rfl | rfl | rfl | rfl | rfl | rfl <;> rfl,by omega⟩
structure iH (w : World) (A : Option Addr) (n c : Nat) (L : List BE) : Prop where
 sl:dW jo w A n c L
 co:∀ x ∈ L,Sl w x.A x.n x.c x.l
theorem iH.below {A:Option Addr} {n c:Nat} {L:List BE} (h:iH w A n c L) (hb:Below w.heap.size w w'):iH w' A n c L:=⟨h.sl.below hb,fun x hx=>(h.co x hx).below hb⟩
theorem iH.alloc {A:Option Addr} {n c:Nat} {L:List BE} (h:iH w A n c L) (o:Obj):iH (w.alloc o) A n c L:=h.below Ba
theorem iH.drew {A:Option Addr} {n c:Nat} {L:List BE} (h:iH w A n c L):iH w.drew A n c L:=h.below (Below.refl _ _).drew
theorem Bl {A:Option Addr} {n c:Nat} {L:List BE} (hb:Below w.heap.size w w') (h:iH w A n c L):iH w' A n c L:=h.below hb

theorem dD {ba off k:Nat} {L:List BE} {x:BE} (h:aJ jo w ba off L) (hk:k<L.length) (hx:x=L[k]) :
  w.cell? ⟨ba,off+k*13,none⟩=some (.int .i64 x.b.px)∧w.cell? ⟨ba,off+k*13+1,none⟩=some (.int .i64 x.b.py)∧w.cell? ⟨ba,off+k*13+2,none⟩=some (.int .i64 x.b.vx)∧w.cell? ⟨ba,off+k*13+3,none⟩=some (.int .i64 x.b.vy)∧w.cell? ⟨ba,off+k*13+4,none⟩=some (.int .i64 x.b.ang)∧w.cell? ⟨ba,off+k*13+5,none⟩=some (.int .i64 x.b.spin)∧w.cell? ⟨ba,off+k*13+6,none⟩=some (.int .i64 x.b.mass)∧w.cell? ⟨ba,off+k*13+7,none⟩=some (.int .i64 x.b.iner)∧w.cell? ⟨ba,off+k*13+8,none⟩=some (.int .i64 x.b.bounce)∧w.cell? ⟨ba,off+k*13+9,none⟩=some (.int .i64 x.b.rub)∧w.cell? ⟨ba,off+k*13+10,none⟩=some (.slice x.A x.n x.c)∧w.cell? ⟨ba,off+k*13+11,none⟩=some (.bool x.b.asleep)∧w.cell? ⟨ba,off+k*13+12,none⟩=some (.int .i64 x.b.calm):=by
 subst hx;exact ⟨h.at_ k hk 0 _ rfl,h.at_ k hk 1 _ rfl,h.at_ k hk 2 _ rfl,h.at_ k hk 3 _ rfl,h.at_ k hk 4 _ rfl,h.at_ k hk 5 _ rfl,h.at_ k hk 6 _ rfl,h.at_ k hk 7 _ rfl,h.at_ k hk 8 _ rfl,h.at_ k hk 9 _ rfl,h.at_ k hk 10 _ rfl,h.at_ k hk 11 _ rfl,h.at_ k hk 12 _ rfl⟩

def dM (L : List BE) : Nat → Int
 | 0=>0
 | k+1=>if dM L k≠0 then dM L k else match L[k]? with | some x=>aT x.b x.l | none=>0
def aZ (L:List BE):Int:=if 64<L.length then 2 else dM L L.length
theorem jX {L:List BE} {k:Nat} (hk:k<L.length):dM L (k+1)=if dM L k≠0 then dM L k else aT L[k].b L[k].l:=by
 rw [dM,List.getElem?_eq_getElem hk]
theorem qQ (L : List BE) {k : Nat} : ∀ {m : Nat}, m ≤ L.length → k < m → dM L (k + 1) ≠ 0 → dM L m = dM L (k + 1)
 | 0,_,h,_=>by omega
 | m+1,hm,h,hz=>by
  rcases Nat.lt_or_ge k m with g | g
  ·have := qQ L (m := m) (by omega) g hz
   rw [jX (by omega),if_pos (by rw [this];exact hz),this]
  ·rw [show m=k by omega]
theorem qI {L : List BE} : ∀ {m : Nat}, m ≤ L.length → dM L m = 0 → ∀ k (hk : k < L.length), k < m → aT L[k].b L[k].l = 0
 | 0,_,_,k,_,h=>by omega
 | m+1,hm,hz,k,hk,h=>by
  rw [jX (by omega)] at hz
  by_cases h0:dM L m=0
  ·rw [if_neg (by simp [h0])] at hz
   rcases Nat.lt_or_ge k m with g | g
   ·exact qI (by omega) h0 k hk g
   ·have : k = m := by omega
    subst this
    exact hz
  ·rw [if_pos h0] at hz
   exact absurd hz h0
theorem eY {L:List BE} (h:aZ L=0):L.length≤64∧∀ x ∈ L,aT x.b x.l=0:=by
 unfold aZ at h
 by_cases h64:64<L.length
 ·rw [if_pos h64] at h;cases h
 ·rw [if_neg h64] at h;refine ⟨by omega,fun x hx=>?_⟩;obtain ⟨k,hk,rfl⟩:=List.getElem_of_mem hx;exact qI (Nat.le_refl _) h k hk hk
theorem nL (A:Option Addr) (n c:Nat) (L:List BE) (w:World) (hS:iH w A n c L):Calls Tryz.prog 81 #[.slice A n c] w (dG (.int .i64 (aZ L)) w):=by
 have hn:=hS.sl.len;have hcap:=hS.sl.cap;have hbig:=hS.sl.big;subst hn
 by_cases h64:64<L.length
 ·have HE : Hid (aZ L = 2) := by show _ = _; unfold aZ; rw [if_pos h64]
  clear hS
  go_enter Tryz.func81,Tryz.ntmps81
  go_wp2
  go_returns
  exact aB HE.out.symm (Below.refl _ _)
 have HE:Hid (aZ L=dM L L.length):=by show _=_;unfold aZ;rw [if_neg h64]
 have HS:=hid hS;clear hS
 go_enter Tryz.func81,Tryz.ntmps81
 go_wp2
 go_loopw [11] (fun i wr=>∃ k:Nat,k≤L.length∧i = .int .i64 k∧dM L k=0∧Below w.heap.size w wr) (fun i _=>L.length-(intOf i).toNat)
 case atStart=>exact ⟨0,Nat.zero_le _,rfl,rfl,Below.refl _ _⟩
 case round =>
  obtain ⟨k,hk,rfl,hz,hB⟩:=hrel;obtain ⟨wo,rfl⟩:∃ wo:World,wo=wr:=⟨_,rfl⟩;have HSw:=hid (HS.out.below hB)
  by_cases hlt:k<L.length
  ·obtain ⟨ba, off, hA, hC⟩ := HSw.out.sl.at_ (by intro h; subst h; simp at hlt);subst hA;obtain ⟨x,hx⟩:∃ x,x=L[k]:=⟨_,rfl⟩;have HX:=hid (show Sl wo x.A x.n x.c x.l from HSw.out.co x (by rw [hx];exact List.getElem_mem hlt));have HZ:Hid (dM L (k+1)=aT x.b x.l):=by show _=_;rw [jX hlt,if_neg (by simp [hz]),hx]
   have HZ0:=hid hz;obtain ⟨d0,d1,d2,d3,d4,d5,d6,d7,d8,d9,d10,d11,d12⟩:=dD hC hlt hx;have hbo:=hC.lt;have hlt':(k:Int)<(L.length:Int):=by omega
   have hkw:IntKind.i64.wrap ((k:Int)+1)=(k:Int)+1:=IntWalk.i64_in _ (by omega);clear hC hx hz HSw
   go_wp2_with fail
   have HX2:=hid (HX.out.alloc (.cells #[.int .i64 x.b.px,.int .i64 x.b.py,.int .i64 x.b.vx,.int .i64 x.b.vy,.int .i64 x.b.ang,.int .i64 x.b.spin,.int .i64 x.b.mass,.int .i64 x.b.iner,.int .i64 x.b.bounce,.int .i64 x.b.rub,.slice x.A x.n x.c,.bool x.b.asleep,.int .i64 x.b.calm] 27));refine (iJ x.b x.A x.n x.c x.l _ HX2.out).mono ?_;rintro e w1 ⟨rfl,hb1⟩;have hB1:Below w.heap.size w w1:=aj hb1 (hB.alloc hB.size _);clear hb1 HX HX2 hB
   by_cases hE:aT x.b x.l=0
   ·rw [hE];go_wp2;go_roundw
    case rel=>exact ⟨k+1,by omega,by go_num,by rw [HZ.out,hE],hB1⟩
    case measure=>simp [intOf];omega
   ·have hne : (aT x.b x.l != 0) = true := by simp [hE]
    have HR:Hid (aT x.b x.l=aZ L):=by show _=_;rw [HE.out,qQ L (by omega) hlt (by rw [HZ.out];exact hE),HZ.out]
    clear HZ;go_wp2
    go_returns
    exact aB HR.out hB1
  ·have hkn : k = L.length := by omega
   subst hkn;clear HSw;have HR:Hid (aZ L=0):=by show _=_;rw [HE.out];exact hz
   clear hz;go_wp2
   go_returns
   exact aB HR.out.symm hB
def P8 (x y:Int):Int:=if y<x then y else x
def lC (r : List Int) : Nat → Int
 | 0=>r.getD 0 0
 | k+1=>P8 (lC r k) (r.getD (k+1) 0)
def Av (r:List Int):Int:=lC r (r.length-1)
def Qa (x y:Int):Int:=if y > x then y else x
def lK (r : List Int) : Nat → Int
 | 0=>r.getD 0 0
 | k+1=>Qa (lK r k) (r.getD (k+1) 0)
def BP (r:List Int):Int:=lK r (r.length-1)

def pq (w:World) (B:Nat) (v:Value) (r:List Int):Prop:=w.ownsRow B 3 1 v r.length (r.map fun x=>.int .i64 x)
theorem pq.nil (w:World) (B:Nat):pq w B (.slice none 0 0) []:=World.ownsRow_nil _ _ _ _
theorem pq.kept {B:Nat} {v:Value} {r:List Int} {row:Option Nat} (h:pq w B v r) (hg:w.grownBy w' row) (hr:v.ownBlock=none∨v.ownBlock≠row):pq w' B v r:=World.ownsRow.kept h hg hr
theorem pq.below {B:Nat} {v:Value} {r:List Int} (h:pq w B v r) (hb:Below w.heap.size w w'):pq w' B v r :=
 h.kept (bN (row:=none) hb) (by cases hv:v.ownBlock with | none=>exact .inl rfl | some k=>exact .inr (by simp))
theorem pq.alloc {B:Nat} {v:Value} {r:List Int} (h:pq w B v r) (o:Obj):pq (w.alloc o) B v r:=World.ownsRow.alloc h o
theorem pq.drew {B:Nat} {v:Value} {r:List Int} (h:pq w B v r):pq w.drew B v r:=h
theorem pq.grown {B:Nat} {v:Value} {r:List Int} (h:pq w B v r) (hg:w.grownBy w' v.ownBlock) (hB:B≤w.heap.size):Below B w w' :=
 (Below.refl B w).grown hg hB (fun k hk=>(World.ownsRow.lt h k hk).1)
theorem pq.sl {B:Nat} {v:Value} {r:List Int} (h:pq w B v r):∃ A n c,v = .slice A n c∧Jz w A n c r:=by
 have hc:=fun g hg=>World.ownsRow.cells h (g:=g) hg
 obtain ⟨h1,h2 | ⟨g,cap,cur,rfl,hb,hg,hn,hm,hs,ht⟩⟩:=h
 ·obtain ⟨rfl, h0⟩ := h2;refine ⟨none,0,0,rfl,⟨h0.symm,by omega,by omega,fun hl=>?_⟩⟩;exact absurd (List.length_eq_zero_iff.1 h0) hl
 ·refine ⟨_, _, _, rfl, ⟨rfl, hn, by unfold maxLen at hm; omega, fun _ => ⟨g, 0, rfl, (Array.getElem?_eq_some_iff.1 hg).1, fun j hj => ?_⟩⟩⟩;have:=hc g rfl j (.int .i64 (r.getD j 0)) (by simp [hj]);have hadd:(⟨g,0,none⟩:Addr).add j=⟨g,0+j,none⟩:=by unfold Addr.add;split <;> simp_all
  rwa [hadd] at this


structure DC (w : World) (g : Nat) (z : Int) : Prop where
 c:w.cell? ⟨g,0,none⟩=some (.int .i64 z)
 lt:g<w.heap.size
theorem DC.here (w:World) (z:Int) (t:TypeId):DC (w.alloc (.cells #[.int .i64 z] t)) w.heap.size z:=⟨by go_simp,by simp⟩
theorem DC.drew {g:Nat} {z:Int} (h:DC w g z):DC w.drew g z:=⟨h.c,h.lt⟩

structure B4 (w : World) (g : Nat) : Prop where
 c:∃ x y z u:Value,w.cell? ⟨g,0,none⟩=some x∧w.cell? ⟨g,1,none⟩=some y∧w.cell? ⟨g,2,none⟩=some z∧w.cell? ⟨g,3,none⟩=some u
 free:∀ j,w.frozen? ⟨g,j,none⟩=false
theorem B4.lt {g:Nat} (h:B4 w g):g<w.heap.size:=by obtain ⟨⟨_,_,_,_,h0,_⟩,_⟩:=h;exact lt_of_cell h0
theorem MQ {B g:Nat} (hb:Below B w w') (hg:g<B) (h:B4 w g):B4 w' g:=by
 obtain ⟨⟨x,y,z,u,h0,h1,h2,h3⟩,hf⟩:=h;exact ⟨⟨x,y,z,u,((dF hb).1 _ _ hg).trans h0,((dF hb).1 _ _ hg).trans h1,((dF hb).1 _ _ hg).trans h2,((dF hb).1 _ _ hg).trans h3⟩,fun j=>((dF hb).2 _ _ hg).trans (hf j)⟩
theorem Fe {g:Nat} (hb:Below w.heap.size w w') (h:B4 w g):B4 w' g:=MQ hb h.lt h
theorem B4.alloc {g:Nat} (h:B4 w g) (o:Obj):B4 (w.alloc o) g:=Fe Ba h
theorem B4.drew {g:Nat} (h:B4 w g):B4 w.drew g:=⟨h.c,h.free⟩
theorem B4.here (w:World) (a b c d:Int) (t:TypeId):B4 (w.alloc (.cells #[.int .i64 a,.int .i64 b,.int .i64 c,.int .i64 d] t)) w.heap.size :=
 ⟨⟨.int .i64 a,.int .i64 b,.int .i64 c,.int .i64 d,by go_simp,by go_simp,by go_simp,by go_simp⟩,fun j=>by go_simp⟩
def wK (l:List V):List Int:=l.map fun p=>p.1
def xG (l:List V):List Int:=l.map fun p=>p.2
theorem G6 (l:List V):(wK l).length=l.length:=by simp [wK]
theorem MR (l:List V):(xG l).length=l.length:=by simp [xG]
abbrev EG (x y u v:Int):Value:=.agg #[.int .i64 x,.int .i64 y,.int .i64 u,.int .i64 v]
theorem Iz:(Tryz.prog.info? 27).map (fun i=>(i.zero,i.size,i.bytes))=some (some (.agg #[.int .i64 0,.int .i64 0,.int .i64 0,.int .i64 0,.int .i64 0,.int .i64 0,.int .i64 0,.int .i64 0,.int .i64 0,.int .i64 0,.slice none 0 0,.bool false,.int .i64 0]),13,120):=by kernel_rfl
theorem xX:IY jo 29 27 120:=⟨Tryz.underlying29,by obtain ⟨i0,hi,hz0,hz1,hz2⟩:=info_parts Iz;exact ⟨i0,_,hi,hz0,hz1,hz2,rfl⟩⟩
theorem kU {g:Nat} {x:BE} (hb:aL w g x.b x.A x.n x.c):aJ jo w g 0 [x]:=by
 refine ⟨hb.lt,fun j hj i v hv=>?_⟩;have hj0:j=0:=by simpa using hj
 subst hj0;rw [Nat.zero_mul,Nat.zero_add]
 try rw [Nat.zero_add]
 have hv:(kQ x)[i]? = some v:=hv;unfold kQ at hv
 match i,hv with
 | 0,hv=>have e:some _=some v:=hv;cases e;exact hb.c0
 | 1,hv=>have e:some _=some v:=hv;cases e;exact hb.c1
 | 2,hv=>have e:some _=some v:=hv;cases e;exact hb.c2
 | 3,hv=>have e:some _=some v:=hv;cases e;exact hb.c3
 | 4,hv=>have e:some _=some v:=hv;cases e;exact hb.c4
 | 5,hv=>have e:some _=some v:=hv;cases e;exact hb.c5
 | 6,hv=>have e:some _=some v:=hv;cases e;exact hb.c6
 | 7,hv=>have e:some _=some v:=hv;cases e;exact hb.c7
 | 8,hv=>have e:some _=some v:=hv;cases e;exact hb.c8
 | 9,hv=>have e:some _=some v:=hv;cases e;exact hb.c9
 | 10,hv=>have e:some _=some v:=hv;cases e;exact hb.c10
 | 11,hv=>have e:some _=some v:=hv;cases e;exact hb.c11
 | 12,hv=>have e:some _=some v:=hv;cases e;exact hb.c12
 | i+13,hv=>simp at hv

structure Jt where
 a:Int
 b:Int
 p1:Int
 p2:Int
 q1:Int
 q2:Int
 len:Int
def ML (x:Jt):List Value:=[.int .i64 x.a,.int .i64 x.b,.int .i64 x.p1,.int .i64 x.p2,.int .i64 x.q1,.int .i64 x.q2,.int .i64 x.len]
def gZ:Lay Jt:=⟨ML,7,fun _=>rfl,fun x v hv=>by simp only [ML,List.mem_cons,List.mem_nil_iff,or_false] at hv;rcases hv with rfl | rfl | rfl | rfl | rfl | rfl | rfl <;> rfl,by omega⟩
abbrev P7 (x:Jt):Value:=.agg #[.int .i64 x.a,.int .i64 x.b,.int .i64 x.p1,.int .i64 x.p2,.int .i64 x.q1,.int .i64 x.q2,.int .i64 x.len]
theorem EY:(Tryz.prog.info? 37).map (fun i=>(i.zero,i.size,i.bytes))=some (some (.agg #[.int .i64 0,.int .i64 0,.int .i64 0,.int .i64 0,.int .i64 0,.int .i64 0,.int .i64 0]),7,56):=by kernel_rfl
theorem Gz:IY gZ 30 37 56:=⟨Tryz.underlying30,by obtain ⟨i0,hi,hz0,hz1,hz2⟩:=info_parts EY;exact ⟨i0,_,hi,hz0,hz1,hz2,rfl⟩⟩
theorem yB {b off k:Nat} {l:List Jt} {x:Jt} (h:aJ gZ w b off l) (hk:k<l.length) (hx:x=l[k]) :
  w.cell? ⟨b,off+k*7,none⟩=some (.int .i64 x.a)∧w.cell? ⟨b,off+k*7+1,none⟩=some (.int .i64 x.b)∧w.cell? ⟨b,off+k*7+2,none⟩=some (.int .i64 x.p1)∧w.cell? ⟨b,off+k*7+3,none⟩=some (.int .i64 x.p2)∧w.cell? ⟨b,off+k*7+4,none⟩=some (.int .i64 x.q1)∧w.cell? ⟨b,off+k*7+5,none⟩=some (.int .i64 x.q2)∧w.cell? ⟨b,off+k*7+6,none⟩=some (.int .i64 x.len):=by
 subst hx;exact ⟨h.at_ k hk 0 _ rfl,h.at_ k hk 1 _ rfl,h.at_ k hk 2 _ rfl,h.at_ k hk 3 _ rfl,h.at_ k hk 4 _ rfl,h.at_ k hk 5 _ rfl,h.at_ k hk 6 _ rfl⟩
theorem rU {g:Nat} {x:Jt} (h0:w.cell? ⟨g,0,none⟩=some (.int .i64 x.a)) (h1:w.cell? ⟨g,1,none⟩=some (.int .i64 x.b)) (h2:w.cell? ⟨g,2,none⟩=some (.int .i64 x.p1)) (h3:w.cell? ⟨g,3,none⟩=some (.int .i64 x.p2)) (h4:w.cell? ⟨g,4,none⟩=some (.int .i64 x.q1)) (h5:w.cell? ⟨g,5,none⟩=some (.int .i64 x.q2)) (h6:w.cell? ⟨g,6,none⟩=some (.int .i64 x.len)):aJ gZ w g 0 [x]:=by
 refine ⟨lt_of_cell h0,fun j hj i v hv=>?_⟩;have hj0:j=0:=by simpa using hj
 subst hj0;rw [Nat.zero_mul,Nat.zero_add]
 try rw [Nat.zero_add]
 have hv:(ML x)[i]? = some v:=hv;unfold ML at hv
 match i,hv with
 | 0,hv=>have e:some _=some v:=hv;cases e;exact h0
 | 1,hv=>have e:some _=some v:=hv;cases e;exact h1
 | 2,hv=>have e:some _=some v:=hv;cases e;exact h2
 | 3,hv=>have e:some _=some v:=hv;cases e;exact h3
 | 4,hv=>have e:some _=some v:=hv;cases e;exact h4
 | 5,hv=>have e:some _=some v:=hv;cases e;exact h5
 | 6,hv=>have e:some _=some v:=hv;cases e;exact h6
 | i+7,hv=>simp at hv
theorem aW {g o o':Nat} {v u:Value} (h:w.cell? ⟨g,o',none⟩=some u) (hne:o≠o'):(w.setCell ⟨g,o,none⟩ v).cell? ⟨g,o',none⟩=some u:=by
 have n1:¬ o=o':=hne;have n2:¬ o'=o:=fun e=>hne e.symm
 go_simp
theorem dH {g o:Nat} {v u:Value} (h:w.cell? ⟨g,o,none⟩=some u):(w.setCell ⟨g,o,none⟩ v).cell? ⟨g,o,none⟩=some v:=by go_simp

def fF (w:World) (g o:Nat) (b:Bd) (A:Option Addr) (n c:Nat):World:=(((((((((((((w.setCell ⟨g,o,none⟩ (.int .i64 b.px)).setCell ⟨g,o+1,none⟩ (.int .i64 b.py)).setCell ⟨g,o+2,none⟩ (.int .i64 b.vx)).setCell ⟨g,o+3,none⟩ (.int .i64 b.vy)).setCell ⟨g,o+4,none⟩ (.int .i64 b.ang)).setCell ⟨g,o+5,none⟩ (.int .i64 b.spin)).setCell ⟨g,o+6,none⟩ (.int .i64 b.mass)).setCell ⟨g,o+7,none⟩ (.int .i64 b.iner)).setCell ⟨g,o+8,none⟩ (.int .i64 b.bounce)).setCell ⟨g,o+9,none⟩ (.int .i64 b.rub)).setCell ⟨g,o+10,none⟩ (.slice A n c)).setCell ⟨g,o+11,none⟩ (.bool b.asleep)).setCell ⟨g,o+12,none⟩ (.int .i64 b.calm))
theorem KN {g o o':Nat} {u:Value} {b:Bd} {A:Option Addr} {n c:Nat} (h:w.cell? ⟨g,o',none⟩=some u) (hne:o'<o∨o+13≤o'):(fF w g o b A n c).cell? ⟨g,o',none⟩=some u:=by
 unfold fF
 iterate 13 refine aW ?_ (by omega)
 exact h
theorem JE {g o:Nat} (x:BE) (hz:∀ i,i<13→∃ u,w.cell? ⟨g,o+i,none⟩=some u):∀ (i:Nat) (v:Value),(kQ x)[i]? = some v→(fF w g o x.b x.A x.n x.c).cell? ⟨g,o+i,none⟩=some v:=fun i v hv0=>by
 have hv:(kQ x)[i]? = some v:=hv0;unfold kQ at hv
 revert hv
 exact match i with
 | 0=>fun hv=>by
  have e:some _=some v:=hv
  cases e
  obtain ⟨u,hu⟩:=hz 0 (by omega);unfold fF;simp only [Nat.add_zero] at hu ⊢
  iterate 12 refine aW ?_ (by omega)
  refine dH (u:=u) ?_;exact hu
 | 1=>fun hv=>by
  have e:some _=some v:=hv
  cases e
  obtain ⟨u,hu⟩:=hz 1 (by omega);unfold fF
  iterate 11 refine aW ?_ (by omega)
  refine dH (u:=u) ?_
  iterate 1 refine aW ?_ (by omega)
  exact hu
 | 2=>fun hv=>by
  have e:some _=some v:=hv
  cases e
  obtain ⟨u,hu⟩:=hz 2 (by omega);unfold fF
  iterate 10 refine aW ?_ (by omega)
  refine dH (u:=u) ?_
  iterate 2 refine aW ?_ (by omega)
  exact hu
 | 3=>fun hv=>by
  have e:some _=some v:=hv
  cases e
  obtain ⟨u,hu⟩:=hz 3 (by omega);unfold fF
  iterate 9 refine aW ?_ (by omega)
  refine dH (u:=u) ?_
  iterate 3 refine aW ?_ (by omega)
  exact hu
 | 4=>fun hv=>by
  have e:some _=some v:=hv
  cases e
  obtain ⟨u,hu⟩:=hz 4 (by omega);unfold fF
  iterate 8 refine aW ?_ (by omega)
  refine dH (u:=u) ?_
  iterate 4 refine aW ?_ (by omega)
  exact hu
 | 5=>fun hv=>by
  have e:some _=some v:=hv
  cases e
  obtain ⟨u,hu⟩:=hz 5 (by omega);unfold fF
  iterate 7 refine aW ?_ (by omega)
  refine dH (u:=u) ?_
  iterate 5 refine aW ?_ (by omega)
  exact hu
 | 6=>fun hv=>by
  have e:some _=some v:=hv
  cases e
  obtain ⟨u,hu⟩:=hz 6 (by omega);unfold fF
  iterate 6 refine aW ?_ (by omega)
  refine dH (u:=u) ?_
  iterate 6 refine aW ?_ (by omega)
  exact hu
 | 7=>fun hv=>by
  have e:some _=some v:=hv
  cases e
  obtain ⟨u,hu⟩:=hz 7 (by omega);unfold fF
  iterate 5 refine aW ?_ (by omega)
  refine dH (u:=u) ?_
  iterate 7 refine aW ?_ (by omega)
  exact hu
 | 8=>fun hv=>by
  have e:some _=some v:=hv
  cases e
  obtain ⟨u,hu⟩:=hz 8 (by omega);unfold fF
  iterate 4 refine aW ?_ (by omega)
  refine dH (u:=u) ?_
  iterate 8 refine aW ?_ (by omega)
  exact hu
 | 9=>fun hv=>by
  have e:some _=some v:=hv
  cases e
  obtain ⟨u,hu⟩:=hz 9 (by omega);unfold fF
  iterate 3 refine aW ?_ (by omega)
  refine dH (u:=u) ?_
  iterate 9 refine aW ?_ (by omega)
  exact hu
 | 10=>fun hv=>by
  have e:some _=some v:=hv
  cases e
  obtain ⟨u,hu⟩:=hz 10 (by omega);unfold fF
  iterate 2 refine aW ?_ (by omega)
  refine dH (u:=u) ?_
  iterate 10 refine aW ?_ (by omega)
  exact hu
 | 11=>fun hv=>by
  have e:some _=some v:=hv
  cases e
  obtain ⟨u,hu⟩:=hz 11 (by omega);unfold fF
  iterate 1 refine aW ?_ (by omega)
  refine dH (u:=u) ?_
  iterate 11 refine aW ?_ (by omega)
  exact hu
 | 12=>fun hv=>by
  have e:some _=some v:=hv
  cases e
  obtain ⟨u,hu⟩:=hz 12 (by omega);unfold fF;refine dH (u:=u) ?_
  iterate 12 refine aW ?_ (by omega)
  exact hu
 | i+13=>fun hv=>by simp at hv
theorem iF (w:World) (g o:Nat) (b:Bd) (A:Option Addr) (n c:Nat):w.grownBy (fF w g o b A n c) (some g):=by
 unfold fF
 iterate 12 refine aS ?_ (aN _ g _ _)
 exact aN _ g _ _
theorem EP {g o g' j:Nat} {b:Bd} {A:Option Addr} {n c:Nat}:(fF w g o b A n c).frozen? ⟨g',j,none⟩=w.frozen? ⟨g',j,none⟩:=by
 unfold fF
 iterate 13 rw [World.frozen?_setCell]

structure BL (w : World) (g : Nat) (L : List BE) : Prop where
 cl:aJ jo w g 0 L
 free:∀ j,w.frozen? ⟨g,j,none⟩=false
 co:∀ x ∈ L,Sl w x.A x.n x.c x.l
 ne:∀ x ∈ L,∀ bx off,x.A=some ⟨bx,off,none⟩→bx≠g
theorem fI {g:Nat} {L:List BE} (hb:Below w.heap.size w w') (h:BL w g L):BL w' g L :=
 ⟨h.cl.below hb,fun j=>((dF hb).2 _ _ h.cl.lt).trans (h.free j),fun x hx=>(h.co x hx).below hb,h.ne⟩
theorem BL.drew {g:Nat} {L:List BE} (h:BL w g L):BL w.drew g L:=fI (Below.refl _ _).drew h
theorem BL.alloc {g:Nat} {L:List BE} (h:BL w g L) (o:Obj):BL (w.alloc o) g L:=fI Ba h

theorem BL.set {g:Nat} {L:List BE} (h:BL w g L) {k:Nat} (hk:k<L.length) (x:BE) (hs:Sl w x.A x.n x.c x.l) (hn:∀ bx off,x.A=some ⟨bx,off,none⟩→bx≠g):BL (fF w g (k*13) x.b x.A x.n x.c) g (L.set k x):=by
 have hgr:=iF w g (k*13) x.b x.A x.n x.c;refine ⟨⟨Nat.lt_of_lt_of_le h.cl.lt hgr.size,fun j hj i v hv=>?_⟩,fun j=>by rw [EP];exact h.free j,fun y hy=>?_,fun y hy=>?_⟩
 ·have hj' : j < L.length := by simpa using hj
  by_cases e:j=k
  ·subst e;have hv:(kQ x)[i]? = some v:=by have hv2:(kQ (L.set j x)[j])[i]? = some v:=hv;rwa [List.getElem_set_self] at hv2
   have:=JE (w:=w) (g:=g) (o:=j*13) x (fun i hi=>by
    have hlen:(kQ L[j]).length=13:=rfl
    exact ⟨_,by have:=h.cl.at_ j hj' i ((kQ L[j])[i]'(by omega)) (List.getElem?_eq_getElem _);rw [Nat.zero_add] at this;exact this⟩) i v hv
   show (fF w g (j*13) x.b x.A x.n x.c).cell? ⟨g,0+j*13+i,none⟩=some v;rw [Nat.zero_add];exact this
  ·have hv : (kQ L[j])[i]? = some v := by have hv2 : (kQ (L.set k x)[j])[i]? = some v := hv; rwa [List.getElem_set_ne (by omega)] at hv2
   have hi:i<13:=by
    have hlen:(kQ L[j]).length=13:=rfl
    rcases Nat.lt_or_ge i 13 with q | q
    ·exact q
    ·rw [List.getElem?_eq_none (by omega)] at hv;cases hv
   have:=h.cl.at_ j hj' i v hv;have this:w.cell? ⟨g,0+j*13+i,none⟩=some v:=this;show (fF w g (k*13) x.b x.A x.n x.c).cell? ⟨g,0+j*13+i,none⟩=some v;exact KN this (by omega)
 ·rcases List.mem_or_eq_of_mem_set hy with q | rfl
  ·exact (h.co y q).grown hgr (h.ne y q)
  ·exact hs.grown hgr hn
 ·rcases List.mem_or_eq_of_mem_set hy with q | rfl
  ·exact h.ne y q
  ·exact hn
end
end Go.Proofs.YtokgmcomgflloaaGreat
