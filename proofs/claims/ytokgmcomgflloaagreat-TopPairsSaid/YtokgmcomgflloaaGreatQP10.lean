/- Parts of a proof: contracts and laws. -/
import Derived.Test.YtokgmcomgflloaaGreatQP09
import Derived.Test.YtokgmcomgflloaaGreatQP02
import Derived.BigQuiet
import Derived.Test.YtokgmcomgflloaaGreatQP06
import Derived.Test.YtokgmcomgflloaaGreatQP03
import Derived.Test.YtokgmcomgflloaaGreatQP08
import Derived.Maps.AppendAt
import Derived.Shelf.LaySoft
import Derived.Shelf.SlicesG.Cmp
import Derived.Shelf.SlSortCmp.InsertionK
import Derived.Shelf.SlSortCmp.Kit1
set_option maxRecDepth 100000
set_option maxHeartbeats 16000000
namespace Go.Proofs.YtokgmcomgflloaaGreat
section
set_option linter.unusedVariables false
set_option linter.unusedSimpArgs false
open Go.RowKit
variable {w0 w w':World}

structure BE where
 b:Bd
 A:Option Addr
 n:Nat
 c:Nat
 l:List V
def kD (x:BE):List Value:=[.int .i64 x.b.px,.int .i64 x.b.py,.int .i64 x.b.vx,.int .i64 x.b.vy,.int .i64 x.b.ang,.int .i64 x.b.spin,.int .i64 x.b.mass,.int .i64 x.b.iner,.int .i64 x.b.bounce,.int .i64 x.b.rub,.slice x.A x.n x.c,.bool x.b.asleep,.int .i64 x.b.calm]
def jc:Lay BE:=⟨kD,13,fun _=>rfl,fun x v hv=>by simp only [kD,List.mem_cons,List.mem_nil_iff,or_false] at hv;rcases hv with rfl | rfl | rfl | rfl | rfl | rfl | rfl | rfl | rfl | rfl | rfl | rfl | rfl <;> rfl,by omega⟩
structure kM (w : World) (A : Option Addr) (n c : Nat) (L : List BE) : Prop where
 sl:dN jc w A n c L
 co:∀ x ∈ L,Sl w x.A x.n x.c x.l
theorem kM.below {A:Option Addr} {n c:Nat} {L:List BE} (h:kM w A n c L) (hb:Below w.heap.size w w'):kM w' A n c L:=⟨h.sl.below hb,fun x hx=>(h.co x hx).below hb⟩
theorem kM.alloc {A:Option Addr} {n c:Nat} {L:List BE} (h:kM w A n c L) (o:Obj):kM (w.alloc o) A n c L:=h.below Ba
theorem kM.drew {A:Option Addr} {n c:Nat} {L:List BE} (h:kM w A n c L):kM w.drew A n c L:=h.below (Below.refl _ _).drew

theorem dP {ba off k:Nat} {L:List BE} {x:BE} (h:aM jc w ba off L) (hk:k<L.length) (hx:x=L[k]) :
  w.cell? ⟨ba,off+k*13,none⟩=some (.int .i64 x.b.px)∧w.cell? ⟨ba,off+k*13+1,none⟩=some (.int .i64 x.b.py)∧w.cell? ⟨ba,off+k*13+2,none⟩=some (.int .i64 x.b.vx)∧w.cell? ⟨ba,off+k*13+3,none⟩=some (.int .i64 x.b.vy)∧w.cell? ⟨ba,off+k*13+4,none⟩=some (.int .i64 x.b.ang)∧w.cell? ⟨ba,off+k*13+5,none⟩=some (.int .i64 x.b.spin)∧w.cell? ⟨ba,off+k*13+6,none⟩=some (.int .i64 x.b.mass)∧w.cell? ⟨ba,off+k*13+7,none⟩=some (.int .i64 x.b.iner)∧w.cell? ⟨ba,off+k*13+8,none⟩=some (.int .i64 x.b.bounce)∧w.cell? ⟨ba,off+k*13+9,none⟩=some (.int .i64 x.b.rub)∧w.cell? ⟨ba,off+k*13+10,none⟩=some (.slice x.A x.n x.c)∧w.cell? ⟨ba,off+k*13+11,none⟩=some (.bool x.b.asleep)∧w.cell? ⟨ba,off+k*13+12,none⟩=some (.int .i64 x.b.calm):=by
 subst hx;exact ⟨h.at_ k hk 0 _ rfl,h.at_ k hk 1 _ rfl,h.at_ k hk 2 _ rfl,h.at_ k hk 3 _ rfl,h.at_ k hk 4 _ rfl,h.at_ k hk 5 _ rfl,h.at_ k hk 6 _ rfl,h.at_ k hk 7 _ rfl,h.at_ k hk 8 _ rfl,h.at_ k hk 9 _ rfl,h.at_ k hk 10 _ rfl,h.at_ k hk 11 _ rfl,h.at_ k hk 12 _ rfl⟩

def fB (L : List BE) : Nat → Int
 | 0=>0
 | k+1=>if fB L k≠0 then fB L k else match L[k]? with | some x=>bG x.b x.l | none=>0
def aX (L:List BE):Int:=if 64<L.length then 2 else fB L L.length
theorem jP {L:List BE} {k:Nat} (hk:k<L.length):fB L (k+1)=if fB L k≠0 then fB L k else bG L[k].b L[k].l:=by
 rw [fB,List.getElem?_eq_getElem hk]
theorem qg (L : List BE) {k : Nat} : ∀ {m : Nat}, m ≤ L.length → k < m → fB L (k + 1) ≠ 0 → fB L m = fB L (k + 1)
 | 0,_,h,_=>by omega
 | m+1,hm,h,hz=>by
  rcases Nat.lt_or_ge k m with g | g
  ·have := qg L (m := m) (by omega) g hz
   rw [jP (by omega),if_pos (by rw [this];exact hz),this]
  ·rw [show m=k by omega]
theorem pW {L : List BE} : ∀ {m : Nat}, m ≤ L.length → fB L m = 0 → ∀ k (hk : k < L.length), k < m → bG L[k].b L[k].l = 0
 | 0,_,_,k,_,h=>by omega
 | m+1,hm,hz,k,hk,h=>by
  rw [jP (by omega)] at hz
  by_cases h0:fB L m=0
  ·rw [if_neg (by simp [h0])] at hz
   rcases Nat.lt_or_ge k m with g | g
   ·exact pW (by omega) h0 k hk g
   ·have : k = m := by omega
    subst this
    exact hz
  ·rw [if_pos h0] at hz
   exact absurd hz h0
theorem gK {L:List BE} (h:aX L=0):L.length≤64∧∀ x ∈ L,bG x.b x.l=0:=by
 unfold aX at h
 by_cases h64:64<L.length
 ·rw [if_pos h64] at h;cases h
 ·rw [if_neg h64] at h;refine ⟨by omega,fun x hx=>?_⟩;obtain ⟨k,hk,rfl⟩:=List.getElem_of_mem hx;exact pW (Nat.le_refl _) h k hk hk
theorem kI (A:Option Addr) (n c:Nat) (L:List BE) (w:World) (hS:kM w A n c L):Calls Tryz.prog 81 #[.slice A n c] w (dS (.int .i64 (aX L)) w):=by
 have hn:=hS.sl.len;have hcap:=hS.sl.cap;have hbig:=hS.sl.big;subst hn
 by_cases h64:64<L.length
 ·have HE : Hid (aX L = 2) := by show _ = _; unfold aX; rw [if_pos h64]
  clear hS
  go_enter Tryz.func81,Tryz.ntmps81
  go_wp2
  go_returns
  exact aH HE.out.symm (Below.refl _ _)
 have HE:Hid (aX L=fB L L.length):=by show _=_;unfold aX;rw [if_neg h64]
 have HS:=hid hS;clear hS
 go_enter Tryz.func81,Tryz.ntmps81
 go_wp2
 go_loopw [11] (fun i wr=>∃ k:Nat,k≤L.length∧i = .int .i64 k∧fB L k=0∧Below w.heap.size w wr) (fun i _=>L.length-(intOf i).toNat)
 case atStart=>exact ⟨0,Nat.zero_le _,rfl,rfl,Below.refl _ _⟩
 case round =>
  obtain ⟨k,hk,rfl,hz,hB⟩:=hrel;obtain ⟨wo,rfl⟩:∃ wo:World,wo=wr:=⟨_,rfl⟩;have HSw:=hid (HS.out.below hB)
  by_cases hlt:k<L.length
  ·obtain ⟨ba, off, hA, hC⟩ := HSw.out.sl.at_ (by intro h; subst h; simp at hlt);subst hA;obtain ⟨x,hx⟩:∃ x,x=L[k]:=⟨_,rfl⟩;have HX:=hid (show Sl wo x.A x.n x.c x.l from HSw.out.co x (by rw [hx];exact List.getElem_mem hlt));have HZ:Hid (fB L (k+1)=bG x.b x.l):=by show _=_;rw [jP hlt,if_neg (by simp [hz]),hx]
   have HZ0:=hid hz;obtain ⟨d0,d1,d2,d3,d4,d5,d6,d7,d8,d9,d10,d11,d12⟩:=dP hC hlt hx;have hbo:=hC.lt;have hlt':(k:Int)<(L.length:Int):=by omega
   have hkw:IntKind.i64.wrap ((k:Int)+1)=(k:Int)+1:=IntWalk.i64_in _ (by omega);clear hC hx hz HSw
   go_wp2_with fail
   have HX2:=hid (HX.out.alloc (.cells #[.int .i64 x.b.px,.int .i64 x.b.py,.int .i64 x.b.vx,.int .i64 x.b.vy,.int .i64 x.b.ang,.int .i64 x.b.spin,.int .i64 x.b.mass,.int .i64 x.b.iner,.int .i64 x.b.bounce,.int .i64 x.b.rub,.slice x.A x.n x.c,.bool x.b.asleep,.int .i64 x.b.calm] 27));refine (nH x.b x.A x.n x.c x.l _ HX2.out).mono ?_;rintro e w1 ⟨rfl,hb1⟩;have hB1:Below w.heap.size w w1:=aj hb1 (hB.alloc hB.size _);clear hb1 HX HX2 hB
   by_cases hE:bG x.b x.l=0
   ·rw [hE];go_wp2;go_roundw
    case rel=>exact ⟨k+1,by omega,by go_num,by rw [HZ.out,hE],hB1⟩
    case measure=>simp [intOf];omega
   ·have hne : (bG x.b x.l != 0) = true := by simp [hE]
    have HR:Hid (bG x.b x.l=aX L):=by show _=_;rw [HE.out,qg L (by omega) hlt (by rw [HZ.out];exact hE),HZ.out]
    clear HZ;go_wp2
    go_returns
    exact aH HR.out hB1
  ·have hkn : k = L.length := by omega
   subst hkn;clear HSw;have HR:Hid (aX L=0):=by show _=_;rw [HE.out];exact hz
   clear hz;go_wp2
   go_returns
   exact aH HR.out.symm hB
def SA (x y:Int):Int:=if y<x then y else x
def jV (r : List Int) : Nat → Int
 | 0=>r.getD 0 0
 | k+1=>SA (jV r k) (r.getD (k+1) 0)
def vv (r:List Int):Int:=jV r (r.length-1)
def Sz (x y:Int):Int:=if y > x then y else x
def jX (r : List Int) : Nat → Int
 | 0=>r.getD 0 0
 | k+1=>Sz (jX r k) (r.getD (k+1) 0)
def uW (r:List Int):Int:=jX r (r.length-1)

def nM (w:World) (B:Nat) (v:Value) (r:List Int):Prop:=w.ownsRow B 3 1 v r.length (r.map fun x=>.int .i64 x)
theorem nM.nil (w:World) (B:Nat):nM w B (.slice none 0 0) []:=World.ownsRow_nil _ _ _ _
theorem nM.kept {B:Nat} {v:Value} {r:List Int} {row:Option Nat} (h:nM w B v r) (hg:w.grownBy w' row) (hr:v.ownBlock=none∨v.ownBlock≠row):nM w' B v r:=World.ownsRow.kept h hg hr
theorem nM.below {B:Nat} {v:Value} {r:List Int} (h:nM w B v r) (hb:Below w.heap.size w w'):nM w' B v r :=
 h.kept (bW (row:=none) hb) (by cases hv:v.ownBlock with | none=>exact .inl rfl | some k=>exact .inr (by simp))
theorem nM.alloc {B:Nat} {v:Value} {r:List Int} (h:nM w B v r) (o:Obj):nM (w.alloc o) B v r:=World.ownsRow.alloc h o
theorem nM.drew {B:Nat} {v:Value} {r:List Int} (h:nM w B v r):nM w.drew B v r:=h
theorem nM.grown {B:Nat} {v:Value} {r:List Int} (h:nM w B v r) (hg:w.grownBy w' v.ownBlock) (hB:B≤w.heap.size):Below B w w' :=
 (Below.refl B w).grown hg hB (fun k hk=>(World.ownsRow.lt h k hk).1)
theorem nM.sl {B:Nat} {v:Value} {r:List Int} (h:nM w B v r):∃ A n c,v = .slice A n c∧J5 w A n c r:=by
 have hc:=fun g hg=>World.ownsRow.cells h (g:=g) hg
 obtain ⟨h1,h2 | ⟨g,cap,cur,rfl,hb,hg,hn,hm,hs,ht⟩⟩:=h
 ·obtain ⟨rfl, h0⟩ := h2;refine ⟨none,0,0,rfl,⟨h0.symm,by omega,by omega,fun hl=>?_⟩⟩;exact absurd (List.length_eq_zero_iff.1 h0) hl
 ·refine ⟨_, _, _, rfl, ⟨rfl, hn, by unfold maxLen at hm; omega, fun _ => ⟨g, 0, rfl, (Array.getElem?_eq_some_iff.1 hg).1, fun j hj => ?_⟩⟩⟩;have:=hc g rfl j (.int .i64 (r.getD j 0)) (by simp [hj]);have hadd:(⟨g,0,none⟩:Addr).add j=⟨g,0+j,none⟩:=by unfold Addr.add;split <;> simp_all
  rwa [hadd] at this


structure CO (w : World) (g : Nat) (z : Int) : Prop where
 c:w.cell? ⟨g,0,none⟩=some (.int .i64 z)
 lt:g<w.heap.size
theorem CO.here (w:World) (z:Int) (t:TypeId):CO (w.alloc (.cells #[.int .i64 z] t)) w.heap.size z:=⟨by go_simp,by simp⟩
theorem CO.drew {g:Nat} {z:Int} (h:CO w g z):CO w.drew g z:=⟨h.c,h.lt⟩

structure B4 (w : World) (g : Nat) : Prop where
 c:∃ x y z u:Value,w.cell? ⟨g,0,none⟩=some x∧w.cell? ⟨g,1,none⟩=some y∧w.cell? ⟨g,2,none⟩=some z∧w.cell? ⟨g,3,none⟩=some u
 free:∀ j,w.frozen? ⟨g,j,none⟩=false
theorem B4.lt {g:Nat} (h:B4 w g):g<w.heap.size:=by obtain ⟨⟨_,_,_,_,h0,_⟩,_⟩:=h;exact lt_of_cell h0
theorem OG {B g:Nat} (hb:Below B w w') (hg:g<B) (h:B4 w g):B4 w' g:=by
 obtain ⟨⟨x,y,z,u,h0,h1,h2,h3⟩,hf⟩:=h;exact ⟨⟨x,y,z,u,((cO hb).1 _ _ hg).trans h0,((cO hb).1 _ _ hg).trans h1,((cO hb).1 _ _ hg).trans h2,((cO hb).1 _ _ hg).trans h3⟩,fun j=>((cO hb).2 _ _ hg).trans (hf j)⟩
theorem FJ {g:Nat} (hb:Below w.heap.size w w') (h:B4 w g):B4 w' g:=OG hb h.lt h
theorem B4.alloc {g:Nat} (h:B4 w g) (o:Obj):B4 (w.alloc o) g:=FJ Ba h
theorem B4.drew {g:Nat} (h:B4 w g):B4 w.drew g:=⟨h.c,h.free⟩
theorem B4.here (w:World) (a b c d:Int) (t:TypeId):B4 (w.alloc (.cells #[.int .i64 a,.int .i64 b,.int .i64 c,.int .i64 d] t)) w.heap.size :=
 ⟨⟨.int .i64 a,.int .i64 b,.int .i64 c,.int .i64 d,by go_simp,by go_simp,by go_simp,by go_simp⟩,fun j=>by go_simp⟩
def r9 (l:List V):List Int:=l.map fun p=>p.1
def sJ (l:List V):List Int:=l.map fun p=>p.2
theorem AZ (l:List V):(r9 l).length=l.length:=by simp [r9]
theorem Ic (l:List V):(sJ l).length=l.length:=by simp [sJ]
abbrev FU (x y u v:Int):Value:=.agg #[.int .i64 x,.int .i64 y,.int .i64 u,.int .i64 v]
theorem Jq:(Tryz.prog.info? 27).map (fun i=>(i.zero,i.size,i.bytes))=some (some (.agg #[.int .i64 0,.int .i64 0,.int .i64 0,.int .i64 0,.int .i64 0,.int .i64 0,.int .i64 0,.int .i64 0,.int .i64 0,.int .i64 0,.slice none 0 0,.bool false,.int .i64 0]),13,120):=by kernel_rfl
theorem wO:MX jc 29 27 120:=⟨Tryz.underlying29,by obtain ⟨i0,hi,hz0,hz1,hz2⟩:=info_parts Jq;exact ⟨i0,_,hi,hz0,hz1,hz2,rfl⟩⟩
theorem kC {g:Nat} {x:BE} (hb:aW w g x.b x.A x.n x.c):aM jc w g 0 [x]:=by
 refine ⟨hb.lt,fun j hj i v hv=>?_⟩;have hj0:j=0:=by simpa using hj
 subst hj0;rw [Nat.zero_mul,Nat.zero_add]
 try rw [Nat.zero_add]
 have hv:(kD x)[i]? = some v:=hv;unfold kD at hv
 match i,hv with
 | 0,hv=>have e:some _=some v:=hv;cases e;exact hb.c0
 | 1,hv=>have e:some _=some v:=hv;cases e;exact hb.c1
 | 2,hv=>have e:some _=some v:=hv;cases e;exact hb.c2
 | 3,hv=>have e:some _=some v:=hv;cases e;exact hb.c3
 | 4,hv=>have e:some _=some v:=hv;cases e;exact hb.c4
 | 5,hv=>have e:some _=some v:=hv;cases e;exact hb.c5
 | 6,hv=>have e:some _=some v:=hv;cases e;exact hb.c6
 | 7,hv=>have e:some _=some v:=hv;cases e;exact hb.c7
 | 8,hv=>have e:some _=some v:=hv;cases e;exact hb.c8
 | 9,hv=>have e:some _=some v:=hv;cases e;exact hb.c9
 | 10,hv=>have e:some _=some v:=hv;cases e;exact hb.c10
 | 11,hv=>have e:some _=some v:=hv;cases e;exact hb.c11
 | 12,hv=>have e:some _=some v:=hv;cases e;exact hb.c12
 | i+13,hv=>simp at hv

structure Jt where
 a:Int
 b:Int
 p1:Int
 p2:Int
 q1:Int
 q2:Int
 len:Int
def OV (x:Jt):List Value:=[.int .i64 x.a,.int .i64 x.b,.int .i64 x.p1,.int .i64 x.p2,.int .i64 x.q1,.int .i64 x.q2,.int .i64 x.len]
def kF:Lay Jt:=⟨OV,7,fun _=>rfl,fun x v hv=>by simp only [OV,List.mem_cons,List.mem_nil_iff,or_false] at hv;rcases hv with rfl | rfl | rfl | rfl | rfl | rfl | rfl <;> rfl,by omega⟩
theorem Gm:(Tryz.prog.info? 37).map (fun i=>(i.zero,i.size,i.bytes))=some (some (.agg #[.int .i64 0,.int .i64 0,.int .i64 0,.int .i64 0,.int .i64 0,.int .i64 0,.int .i64 0]),7,56):=by kernel_rfl
theorem Iy:MX kF 30 37 56:=⟨Tryz.underlying30,by obtain ⟨i0,hi,hz0,hz1,hz2⟩:=info_parts Gm;exact ⟨i0,_,hi,hz0,hz1,hz2,rfl⟩⟩
theorem BQ {g:Nat} {x:Jt} (h0:w.cell? ⟨g,0,none⟩=some (.int .i64 x.a)) (h1:w.cell? ⟨g,1,none⟩=some (.int .i64 x.b)) (h2:w.cell? ⟨g,2,none⟩=some (.int .i64 x.p1)) (h3:w.cell? ⟨g,3,none⟩=some (.int .i64 x.p2)) (h4:w.cell? ⟨g,4,none⟩=some (.int .i64 x.q1)) (h5:w.cell? ⟨g,5,none⟩=some (.int .i64 x.q2)) (h6:w.cell? ⟨g,6,none⟩=some (.int .i64 x.len)):aM kF w g 0 [x]:=by
 refine ⟨lt_of_cell h0,fun j hj i v hv=>?_⟩;have hj0:j=0:=by simpa using hj
 subst hj0;rw [Nat.zero_mul,Nat.zero_add]
 try rw [Nat.zero_add]
 have hv:(OV x)[i]? = some v:=hv;unfold OV at hv
 match i,hv with
 | 0,hv=>have e:some _=some v:=hv;cases e;exact h0
 | 1,hv=>have e:some _=some v:=hv;cases e;exact h1
 | 2,hv=>have e:some _=some v:=hv;cases e;exact h2
 | 3,hv=>have e:some _=some v:=hv;cases e;exact h3
 | 4,hv=>have e:some _=some v:=hv;cases e;exact h4
 | 5,hv=>have e:some _=some v:=hv;cases e;exact h5
 | 6,hv=>have e:some _=some v:=hv;cases e;exact h6
 | i+7,hv=>simp at hv
def lJ (f : Nat → Int) : Nat → Int
 | 0=>0
 | k+1=>if lJ f k≠0 then lJ f k else f k
theorem mX {f : Nat → Int} : ∀ {m : Nat}, lJ f m = 0 → ∀ k, k < m → f k = 0
 | 0,_,k,h=>by omega
 | m+1,hz,k,h=>by
  have hz:(if lJ f m≠0 then lJ f m else f m)=0:=hz
  by_cases h0:lJ f m=0
  ·rw [if_neg (by simp [h0])] at hz
   rcases Nat.lt_or_ge k m with g | g
   ·exact mX h0 k g
   ·rw [show k=m by omega];exact hz
  ·rw [if_pos h0] at hz;exact absurd hz h0
def Bf (L:List BE) (i:Int):Int:=match L[i.toNat]? with | some x=>x.b.mass | none=>0
def Iq (n:Nat) (x:Jt):Bool:=decide (x.a<0) || (decide ((n:Int)≤x.b) || (decide (x.b≤x.a) || (!aL 2097152 x.p1 x.p2 || (!aL 2097152 x.q1 x.q2 || (decide (x.len<0) || decide (65536000<x.len))))))
def SG (L:List BE) (x:Jt):Int:=if Iq L.length x=true then 1 else if Bf L x.a=0∧Bf L x.b=0 then 3 else 0
def QH (L:List BE) (J:List Jt) (k:Nat):Int:=lJ (fun i=>match J[i]? with | some x=>SG L x | none=>0) k
def dK (L:List BE) (J:List Jt):Int:=if aX L≠0 then aX L else if 32<J.length then 2 else QH L J J.length
theorem ni {L:List BE} {J:List Jt} (h:dK L J=0):aX L=0∧J.length≤32∧∀ x ∈ J,SG L x=0:=by
 unfold dK at h
 by_cases h0:aX L=0
 ·rw [if_neg (by simp [h0])] at h
  by_cases h1:32<J.length
  ·rw [if_pos h1] at h;cases h
  ·rw [if_neg h1] at h;refine ⟨h0,by omega,fun x hx=>?_⟩;obtain ⟨k,hk,rfl⟩:=List.getElem_of_mem hx;have:=mX h k hk;simpa [hk] using this
 ·rw [if_pos h0] at h;exact absurd h h0
theorem Di {L:List BE} {x:Jt} (h:SG L x=0):(0≤x.a∧x.a<x.b∧x.b<(L.length:Int))∧aL 2097152 x.p1 x.p2=true∧aL 2097152 x.q1 x.q2=true∧(0≤x.len∧x.len≤65536000)∧¬ (Bf L x.a=0∧Bf L x.b=0):=by
 unfold SG at h
 by_cases hb:Iq L.length x=true
 ·rw [if_pos hb] at h;cases h
 ·rw [if_neg hb] at h;have hb2:Iq L.length x=false:=by simpa using hb
  simp only [Iq,Bool.or_eq_false_iff,decide_eq_false_iff_not,Bool.not_eq_false'] at hb2;obtain ⟨h1,h2,h3,h4,h5,h6,h7⟩:=hb2;refine ⟨by omega,h4,h5,by omega,fun hm=>?_⟩;rw [if_pos hm] at h;cases h
structure Ct where
 a:Int
 b:Int
 id:Int
 px:Int
 py:Int
 nx:Int
 ny:Int
 dep:Int
 push:Int
 sli:Int
def o9 (x:Ct):List Value:=[.int .i64 x.a,.int .i64 x.b,.int .i64 x.id,.int .i64 x.px,.int .i64 x.py,.int .i64 x.nx,.int .i64 x.ny,.int .i64 x.dep,.int .i64 x.push,.int .i64 x.sli]
def iC:Lay Ct:=⟨o9,10,fun _=>rfl,fun x v hv=>by simp only [o9,List.mem_cons,List.mem_nil_iff,or_false] at hv;rcases hv with rfl | rfl | rfl | rfl | rfl | rfl | rfl | rfl | rfl | rfl <;> rfl,by omega⟩
theorem Av:(Tryz.prog.info? 106).map (fun i=>(i.zero,i.size,i.bytes))=some (some (.agg #[.int .i64 0,.int .i64 0,.int .i64 0,.int .i64 0,.int .i64 0,.int .i64 0,.int .i64 0,.int .i64 0,.int .i64 0,.int .i64 0]),10,80):=by kernel_rfl
theorem IL:MX iC 31 106 80:=⟨Tryz.underlying31,by obtain ⟨i0,hi,hz0,hz1,hz2⟩:=info_parts Av;exact ⟨i0,_,hi,hz0,hz1,hz2,rfl⟩⟩

def Gp (n:Nat) (x:Ct):Prop:=(0≤x.a∧x.a<x.b∧x.b<(n:Int)∧0≤x.id)∧(-65536000≤x.px∧x.px≤65536000 ∧ -65536000≤x.py∧x.py≤65536000)∧(-65536≤x.nx∧x.nx≤65536 ∧ -65536≤x.ny∧x.ny≤65536)∧(0≤x.dep∧x.dep≤65536000)∧(0≤x.push∧x.push≤1099511627776)∧(-1099511627776≤x.sli∧x.sli≤1099511627776)
instance (n:Nat) (x:Ct):Decidable (Gp n x):=by unfold Gp;infer_instance
def SX (n:Nat) (x:Ct):Int:=if Gp n x then 0 else 1
def P8 (n:Nat) (C:List Ct) (k:Nat):Int:=lJ (fun i=>match C[i]? with | some x=>SX n x | none=>0) k
def bI (L:List BE) (C:List Ct):Int:=if aX L≠0 then aX L else if 4096<C.length then 2 else P8 L.length C C.length
theorem kS {L:List BE} {C:List Ct} (h:bI L C=0):aX L=0∧C.length≤4096∧∀ x ∈ C,Gp L.length x:=by
 unfold bI at h
 by_cases h0:aX L=0
 ·rw [if_neg (by simp [h0])] at h
  by_cases h1:4096<C.length
  ·rw [if_pos h1] at h;cases h
  ·rw [if_neg h1] at h;refine ⟨h0,by omega,fun x hx=>?_⟩;obtain ⟨k,hk,rfl⟩:=List.getElem_of_mem hx;have h3:=mX h k hk;have h3:SX L.length C[k]=0:=by simpa [hk] using h3
   unfold SX at h3
   by_cases g:Gp L.length C[k]
   ·exact g
   ·rw [if_neg g] at h3;cases h3
 ·rw [if_pos h0] at h;exact absurd h h0
end
section
set_option linter.unusedVariables false
set_option linter.unusedSimpArgs false
open Go.Shelf
open Go.RowKit Go.Sort Go.Lib
variable {w0 w w':World}
def yP:Go.Shelf.Ren:=⟨fun | 5=>75 | 7=>139 | n=>n,fun | 22=>3 | 3=>3 | 4=>4 | n=>n,fun | n=>n⟩
theorem Jr : Go.Proofs.SlLaysC2.n5 Tryz.prog yP := {
 mixed:=by kernel_rfl
 f5:=⟨Tryz.f75.name,by decide,Tryz.func75.trans (congrArg some (by kernel_rfl))⟩
 f7:=⟨Tryz.f139.name,by decide,Tryz.func139.trans (congrArg some (by kernel_rfl))⟩
 t3:=Tryz.underlying3
 a3:=Tryz.isAgg3
 z3:=Tryz.sizeOf3
 v3:=Tryz.zeroValue3
 t4:=Tryz.underlying4
 a4:=Tryz.isAgg4
 z4:=Tryz.sizeOf4
 v4:=Tryz.zeroValue4
 t22:=Tryz.underlying3
 a22:=Tryz.isAgg3
 z22:=Tryz.sizeOf3
 v22:=Tryz.zeroValue3 }
theorem jw (x y:Int) (w:World):Calls Tryz.prog 75 #[.int .i64 x,.int .i64 y] w fun e w'=>e = .returned (.int .i64 (Lib.compareInt x y))∧w'=w:=AnyG.cmp_Compare_int Jr x y w

abbrev Bx:=(Int × Int) × (Int × Int)
def dn:Lay Bx:=⟨fun b=>[.int .i64 b.1.1,.int .i64 b.1.2,.int .i64 b.2.1,.int .i64 b.2.2],4,fun _=>rfl,fun x v hv=>by simp at hv;rcases hv with rfl | rfl | rfl | rfl <;> rfl,by omega⟩
def aV (l:List Bx) (i:Nat):Bx:=l.getD i ((0,0),(0,0))
theorem aM.box {b off:Nat} {l:List Bx} (h:aM dn w b off l) {i:Nat} (hi:i<l.length) :
  w.cell? ⟨b,off+i*4,none⟩=some (.int .i64 (aV l i).1.1)∧w.cell? ⟨b,off+i*4+1,none⟩=some (.int .i64 (aV l i).1.2)∧w.cell? ⟨b,off+i*4+2,none⟩=some (.int .i64 (aV l i).2.1)∧w.cell? ⟨b,off+i*4+3,none⟩=some (.int .i64 (aV l i).2.2):=by
 have e:aV l i=l[i]:=by unfold aV;simp [hi]
 rw [e];exact ⟨h.at_ i hi 0 _ rfl,h.at_ i hi 1 _ rfl,h.at_ i hi 2 _ rfl,h.at_ i hi 3 _ rfl⟩
end
section
set_option linter.unusedVariables false
set_option linter.unusedSimpArgs false
open Go.RowKit Go.Sort
variable {w0 w w':World}
section
variable {w0 w w':World}
variable {α:Type} {L:Lay α} {e:TypeId}
theorem Eb [Inhabited α] (d:Array α):(flatK L.enc L.k d).toList=eY L d.toList:=by
 apply List.ext_getElem?
 intro t
 rcases Nat.lt_or_ge t (d.size*L.k) with ht | ht
 ·obtain ⟨j, i, hj, hi, e, h⟩ := tN (L := L) d.toList t (by simpa using ht);rw [h];have hp:=L.pos;have hjd:j<d.size:=by simpa using hj
  have e1:t / L.k=j:=by rw [e,Nat.mul_comm,Nat.mul_add_div hp,Nat.div_eq_of_lt hi,Nat.add_zero]
  have e2:t % L.k=i:=by rw [e,Nat.mul_comm,Nat.mul_add_mod,Nat.mod_eq_of_lt hi]
  have g:=get_flatK L.enc L.k d t ht;rw [e1,e2,getElem!_pos _ _ (by simpa using ht),getElem!_pos d j hjd,getElem!_pos _ i (by rw [L.hk];exact hi)] at g;rw [Array.getElem?_toList,Array.getElem?_eq_getElem (by simpa using ht),g,List.getElem?_eq_getElem (by rw [L.hk];exact hi)];simp
 ·rw [List.getElem?_eq_none (by simpa using ht),List.getElem?_eq_none (by rw [kK];simpa using ht)]

theorem aN.holds [Inhabited α] {w:World} {B g n cap:Nat} {l:List α} (h:aN L e w B (.slice (some ⟨g,0,none⟩) n cap) l):HoldsK L.enc L.k w g 0 l.toArray:=by
 rcases h.form with ⟨h1,-⟩ | ⟨g',cap',hv,-,-,-,-,hf,hc⟩
 ·cases h1
 ·cases hv
  intro t ht;rw [size_flatK] at ht;simp only [List.size_toArray] at ht;refine ⟨?_,hf _⟩;obtain ⟨j,i,hj,hi,et,h2⟩:=tN (L:=L) l t ht;have hp:=L.pos;have e1:t / L.k=j:=by rw [et,Nat.mul_comm,Nat.mul_add_div hp,Nat.div_eq_of_lt hi,Nat.add_zero]
  have e2:t % L.k=i:=by rw [et,Nat.mul_comm,Nat.mul_add_mod,Nat.mod_eq_of_lt hi]
  have g1:=get_flatK L.enc L.k l.toArray t (by simpa using ht);rw [e1,e2] at g1;rw [g1];have hg:(L.enc l[j])[i]? = some ((L.enc l[j])[i]'(by rw [L.hk];exact hi)):=List.getElem?_eq_getElem _;have:=hc.at_ j hj i _ hg;rw [show (0:Nat)+j*L.k+i=0+t by omega] at this;rw [this];have hj2:l.toArray[j]! = l[j]:=by rw [getElem!_pos _ _ (by simpa using hj)];simp
  rw [hj2,getElem!_pos _ i (by rw [L.hk];exact hi)];rfl
theorem Bv [Inhabited α] {w:World} {g n:Nat} {os:Array Obj} {cur:Array Value} {fr:Nat × Nat} (d:Array α) (hb:w.heap[g]? = some (.cells cur e fr)) :
  (sortWorldK L.enc L.k w g 0 n d os).heap[g]? = some (.cells (putCells id 0 (flatK L.enc L.k d) cur) e fr):=by
 have hg:g<w.heap.size:=(Array.getElem?_eq_some_iff.1 hb).1;unfold sortWorldK putRowK;rw [heap_grow_old _ _ (by simpa [putRow,mapBlock,Sort.ahead] using hg)];simp [putRow,mapBlock,Sort.ahead,Array.getElem?_modify,hb,onCells]
theorem fU [Inhabited α] {w:World} {g n:Nat} {os:Array Obj} (d:Array α):w.grownBy (sortWorldK L.enc L.k w g 0 n d os) (some g):=by
 unfold sortWorldK putRowK;refine ⟨rfl,rfl,rfl,by simp [putRow,mapBlock,Sort.ahead],fun k hk hne=>?_⟩;rw [heap_grow_old _ _ (by simpa [putRow,mapBlock,Sort.ahead] using hk)];have:g≠k:=fun e=>hne (by rw [e])
 simp [putRow,mapBlock,Sort.ahead,Array.getElem?_modify,this]
theorem vU (cur:Array Value) (F:Array Value) (h:F.size≤cur.size):(putCells id 0 F cur).toList.take F.size=F.toList:=by
 apply List.ext_getElem?
 intro j
 by_cases hj:j<F.size
 ·rw [List.getElem?_take_of_lt hj, Array.getElem?_toList];simp [putCells,hj,show j<cur.size by omega]
 ·rw [List.getElem?_take_eq_none (by omega),List.getElem?_eq_none (by simp;omega)]

theorem aN.sorted [Inhabited α] {w:World} {B g n cap m:Nat} {os:Array Obj} {l:List α} (h:aN L e w B (.slice (some ⟨g,0,none⟩) n cap) l) (d:Array α) (hs:d.size=l.length) :
  aN L e (sortWorldK L.enc L.k w g 0 m d os) B (.slice (some ⟨g,0,none⟩) n cap) d.toList:=by
 obtain ⟨h1,⟨h2,-⟩ | ⟨g',cap',cur,hv,hb,hg,hn,hm,hsz,ht⟩⟩:=h
 ·cases h2
 ·cases hv
  refine ⟨by rw [kK],.inr ⟨g,cap,_,by simp [hs],hb,Bv d hg,by rw [Array.length_toList,hs];exact hn,hm,by simp [putCells,hsz],?_⟩⟩;have e1:d.toList.length*L.k=(flatK L.enc L.k d).size:=by simp
  rw [e1,vU _ _ (by rw [size_flatK,hs,hsz];exact Nat.mul_le_mul_right _ hn),Eb]
end

theorem iA {α:Type} [Inhabited α] (enc:α→Value) (w:World) (g off m:Nat) (d:Array α) (os:Array Obj):sortWorld enc w g off m d os=sortWorldK (fun x=>[enc x]) 1 w g off m d os:=by
 have e:flatK (fun x=>[enc x]) 1 d=d.map enc:=by
  apply Array.ext
  ·simp
  ·intro i h1 h2;have g1:=get_flatK (fun x=>[enc x]) 1 d i (by simpa using h1);rw [getElem!_pos (flatK (fun x=>[enc x]) 1 d) i h1] at g1;rw [g1];have hi:i<d.size:=by simpa using h2
   simp [Nat.mod_one,hi]
 unfold sortWorld sortWorldK putRowK putRow;rw [e]
 congr 2
 funext cur
 unfold putCells;apply Array.ext
 ·simp
 ·intro i h1 h2;rw [Array.getElem_mapIdx,Array.getElem_mapIdx];have es:(d.map enc).size=d.size:=by simp
  by_cases hh:off≤i∧i<off+d.size
  ·rw [if_pos hh, if_pos (by rw [es]; exact hh), getElem!_pos (d.map enc) (i - off) (by simp; omega), getElem!_pos d (i - off) (by omega)];simp
  ·rw [if_neg hh,if_neg (by rw [es];exact hh)]
theorem holds_one {α:Type} [Inhabited α] {enc:α→Value} {w:World} {g off:Nat} {d:Array α} (h:HoldsK (fun x=>[enc x]) 1 w g off d):Holds enc w g off d:=by
 intro j hj;have:=h j (by rw [size_flatK];omega);have g1:=get_flatK (fun x=>[enc x]) 1 d j (by omega);rw [g1] at this;simpa [Nat.mod_one] using this
end
end Go.Proofs.YtokgmcomgflloaaGreat
