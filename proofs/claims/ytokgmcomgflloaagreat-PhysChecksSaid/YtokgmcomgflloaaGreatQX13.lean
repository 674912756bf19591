/- Parts of a proof: contracts and laws. -/
import Derived.Test.YtokgmcomgflloaaGreatQX12
import Derived.Test.YtokgmcomgflloaaGreatQX04
import Derived.Test.YtokgmcomgflloaaGreatQX08
import Derived.Maps.AppendAt
set_option maxRecDepth 100000
set_option maxHeartbeats 16000000
namespace Go.Proofs.YtokgmcomgflloaaGreat
section
set_option linter.unusedVariables false
set_option linter.unusedSimpArgs false
open Go.RowKit
variable {w0 w w':World}

structure BE where
 b:Bd
 A:Option Addr
 n:Nat
 c:Nat
 l:List V
def iK (x:BE):List Value:=[.int .i64 x.b.px,.int .i64 x.b.py,.int .i64 x.b.vx,.int .i64 x.b.vy,.int .i64 x.b.ang,.int .i64 x.b.spin,.int .i64 x.b.mass,.int .i64 x.b.iner,.int .i64 x.b.bounce,.int .i64 x.b.rub,.slice x.A x.n x.c,.bool x.b.asleep,.int .i64 x.b.calm]
def jH:Lay BE:=⟨iK,13,fun _=>rfl,fun x v hv=>by simp only [iK,List.mem_cons,List.mem_nil_iff,or_false] at hv;rcases hv with rfl | rfl | rfl | rfl | rfl | rfl | rfl | rfl | rfl | rfl | rfl | rfl | rfl <;> rfl,by omega⟩
structure iE (w : World) (A : Option Addr) (n c : Nat) (L : List BE) : Prop where
 sl:dD jH w A n c L
 co:∀ x ∈ L,Sl w x.A x.n x.c x.l
theorem iE.below {A:Option Addr} {n c:Nat} {L:List BE} (h:iE w A n c L) (hb:Below w.heap.size w w'):iE w' A n c L:=⟨h.sl.below hb,fun x hx=>(h.co x hx).below hb⟩
theorem iE.alloc {A:Option Addr} {n c:Nat} {L:List BE} (h:iE w A n c L) (o:Obj):iE (w.alloc o) A n c L:=h.below Ba
theorem iE.drew {A:Option Addr} {n c:Nat} {L:List BE} (h:iE w A n c L):iE w.drew A n c L:=h.below (Below.refl _ _).drew

theorem dB {ba off k:Nat} {L:List BE} {x:BE} (h:aH jH w ba off L) (hk:k<L.length) (hx:x=L[k]) :
  w.cell? ⟨ba,off+k*13,none⟩=some (.int .i64 x.b.px)∧w.cell? ⟨ba,off+k*13+1,none⟩=some (.int .i64 x.b.py)∧w.cell? ⟨ba,off+k*13+2,none⟩=some (.int .i64 x.b.vx)∧w.cell? ⟨ba,off+k*13+3,none⟩=some (.int .i64 x.b.vy)∧w.cell? ⟨ba,off+k*13+4,none⟩=some (.int .i64 x.b.ang)∧w.cell? ⟨ba,off+k*13+5,none⟩=some (.int .i64 x.b.spin)∧w.cell? ⟨ba,off+k*13+6,none⟩=some (.int .i64 x.b.mass)∧w.cell? ⟨ba,off+k*13+7,none⟩=some (.int .i64 x.b.iner)∧w.cell? ⟨ba,off+k*13+8,none⟩=some (.int .i64 x.b.bounce)∧w.cell? ⟨ba,off+k*13+9,none⟩=some (.int .i64 x.b.rub)∧w.cell? ⟨ba,off+k*13+10,none⟩=some (.slice x.A x.n x.c)∧w.cell? ⟨ba,off+k*13+11,none⟩=some (.bool x.b.asleep)∧w.cell? ⟨ba,off+k*13+12,none⟩=some (.int .i64 x.b.calm):=by
 subst hx;exact ⟨h.at_ k hk 0 _ rfl,h.at_ k hk 1 _ rfl,h.at_ k hk 2 _ rfl,h.at_ k hk 3 _ rfl,h.at_ k hk 4 _ rfl,h.at_ k hk 5 _ rfl,h.at_ k hk 6 _ rfl,h.at_ k hk 7 _ rfl,h.at_ k hk 8 _ rfl,h.at_ k hk 9 _ rfl,h.at_ k hk 10 _ rfl,h.at_ k hk 11 _ rfl,h.at_ k hk 12 _ rfl⟩

def cB (L : List BE) : Nat → Int
 | 0=>0
 | k+1=>if cB L k≠0 then cB L k else match L[k]? with | some x=>aJ x.b x.l | none=>0
def aG (L:List BE):Int:=if 64<L.length then 2 else cB L L.length
theorem fK {L:List BE} {k:Nat} (hk:k<L.length):cB L (k+1)=if cB L k≠0 then cB L k else aJ L[k].b L[k].l:=by
 rw [cB,List.getElem?_eq_getElem hk]
theorem jG (L : List BE) {k : Nat} : ∀ {m : Nat}, m ≤ L.length → k < m → cB L (k + 1) ≠ 0 → cB L m = cB L (k + 1)
 | 0,_,h,_=>by omega
 | m+1,hm,h,hz=>by
  rcases Nat.lt_or_ge k m with g | g
  ·have := jG L (m := m) (by omega) g hz
   rw [fK (by omega),if_pos (by rw [this];exact hz),this]
  ·rw [show m=k by omega]
theorem lY {L : List BE} : ∀ {m : Nat}, m ≤ L.length → cB L m = 0 → ∀ k (hk : k < L.length), k < m → aJ L[k].b L[k].l = 0
 | 0,_,_,k,_,h=>by omega
 | m+1,hm,hz,k,hk,h=>by
  rw [fK (by omega)] at hz
  by_cases h0:cB L m=0
  ·rw [if_neg (by simp [h0])] at hz
   rcases Nat.lt_or_ge k m with g | g
   ·exact lY (by omega) h0 k hk g
   ·have : k = m := by omega
    subst this
    exact hz
  ·rw [if_pos h0] at hz
   exact absurd hz h0
theorem bZ {L:List BE} (h:aG L=0):L.length≤64∧∀ x ∈ L,aJ x.b x.l=0:=by
 unfold aG at h
 by_cases h64:64<L.length
 ·rw [if_pos h64] at h;cases h
 ·rw [if_neg h64] at h;refine ⟨by omega,fun x hx=>?_⟩;obtain ⟨k,hk,rfl⟩:=List.getElem_of_mem hx;exact lY (Nat.le_refl _) h k hk hk
theorem gZ (A:Option Addr) (n c:Nat) (L:List BE) (w:World) (hS:iE w A n c L):Calls Tryz.prog 81 #[.slice A n c] w (dw (.int .i64 (aG L)) w):=by
 have hn:=hS.sl.len;have hcap:=hS.sl.cap;have hbig:=hS.sl.big;subst hn
 by_cases h64:64<L.length
 ·have HE : Hid (aG L = 2) := by show _ = _; unfold aG; rw [if_pos h64]
  clear hS
  go_enter Tryz.func81,Tryz.ntmps81
  go_wp2
  go_returns
  exact aj HE.out.symm (Below.refl _ _)
 have HE:Hid (aG L=cB L L.length):=by show _=_;unfold aG;rw [if_neg h64]
 have HS:=hid hS;clear hS
 go_enter Tryz.func81,Tryz.ntmps81
 go_wp2
 go_loopw [11] (fun i wr=>∃ k:Nat,k≤L.length∧i = .int .i64 k∧cB L k=0∧Below w.heap.size w wr) (fun i _=>L.length-(intOf i).toNat)
 case atStart=>exact ⟨0,Nat.zero_le _,rfl,rfl,Below.refl _ _⟩
 case round =>
  obtain ⟨k,hk,rfl,hz,hB⟩:=hrel;obtain ⟨wo,rfl⟩:∃ wo:World,wo=wr:=⟨_,rfl⟩;have HSw:=hid (HS.out.below hB)
  by_cases hlt:k<L.length
  ·obtain ⟨ba, off, hA, hC⟩ := HSw.out.sl.at_ (by intro h; subst h; simp at hlt);subst hA;obtain ⟨x,hx⟩:∃ x,x=L[k]:=⟨_,rfl⟩;have HX:=hid (show Sl wo x.A x.n x.c x.l from HSw.out.co x (by rw [hx];exact List.getElem_mem hlt));have HZ:Hid (cB L (k+1)=aJ x.b x.l):=by show _=_;rw [fK hlt,if_neg (by simp [hz]),hx]
   have HZ0:=hid hz;obtain ⟨d0,d1,d2,d3,d4,d5,d6,d7,d8,d9,d10,d11,d12⟩:=dB hC hlt hx;have hbo:=hC.lt;have hlt':(k:Int)<(L.length:Int):=by omega
   have hkw:IntKind.i64.wrap ((k:Int)+1)=(k:Int)+1:=IntWalk.i64_in _ (by omega);clear hC hx hz HSw
   go_wp2_with fail
   have HX2:=hid (HX.out.alloc (.cells #[.int .i64 x.b.px,.int .i64 x.b.py,.int .i64 x.b.vx,.int .i64 x.b.vy,.int .i64 x.b.ang,.int .i64 x.b.spin,.int .i64 x.b.mass,.int .i64 x.b.iner,.int .i64 x.b.bounce,.int .i64 x.b.rub,.slice x.A x.n x.c,.bool x.b.asleep,.int .i64 x.b.calm] 27));refine (kE x.b x.A x.n x.c x.l _ HX2.out).mono ?_;rintro e w1 ⟨rfl,hb1⟩;have hB1:Below w.heap.size w w1:=ah hb1 (hB.alloc hB.size _);clear hb1 HX HX2 hB
   by_cases hE:aJ x.b x.l=0
   ·rw [hE];go_wp2;go_roundw
    case rel=>exact ⟨k+1,by omega,by go_num,by rw [HZ.out,hE],hB1⟩
    case measure=>simp [intOf];omega
   ·have hne : (aJ x.b x.l != 0) = true := by simp [hE]
    have HR:Hid (aJ x.b x.l=aG L):=by show _=_;rw [HE.out,jG L (by omega) hlt (by rw [HZ.out];exact hE),HZ.out]
    clear HZ;go_wp2
    go_returns
    exact aj HR.out hB1
  ·have hkn : k = L.length := by omega
   subst hkn;clear HSw;have HR:Hid (aG L=0):=by show _=_;rw [HE.out];exact hz
   clear hz;go_wp2
   go_returns
   exact aj HR.out.symm hB
theorem mF (A:Option Addr) (n c:Nat) (L:List BE) (w:World) (hS:iE w A n c L):Calls Tryz.prog 132 #[.slice A n c] w (dw (.int .i64 (aG L)) w):=by
 have hn:=hS.sl.len;have hcap:=hS.sl.cap;have hbig:=hS.sl.big;subst hn
 by_cases h64:64<L.length
 ·have HE : Hid (aG L = 2) := by show _ = _; unfold aG; rw [if_pos h64]
  clear hS
  go_enter Tryz.func132,Tryz.ntmps132
  go_wp2
  go_returns
  exact aj HE.out.symm (Below.refl _ _)
 have HE:Hid (aG L=cB L L.length):=by show _=_;unfold aG;rw [if_neg h64]
 have HS:=hid hS;clear hS
 go_enter Tryz.func132,Tryz.ntmps132
 go_wp2
 go_loopw [11] (fun i wr=>∃ k:Nat,k≤L.length∧i = .int .i64 k∧cB L k=0∧Below w.heap.size w wr) (fun i _=>L.length-(intOf i).toNat)
 case atStart=>exact ⟨0,Nat.zero_le _,rfl,rfl,Below.refl _ _⟩
 case round =>
  obtain ⟨k,hk,rfl,hz,hB⟩:=hrel;obtain ⟨wo,rfl⟩:∃ wo:World,wo=wr:=⟨_,rfl⟩;have HSw:=hid (HS.out.below hB)
  by_cases hlt:k<L.length
  ·obtain ⟨ba, off, hA, hC⟩ := HSw.out.sl.at_ (by intro h; subst h; simp at hlt);subst hA;obtain ⟨x,hx⟩:∃ x,x=L[k]:=⟨_,rfl⟩;have HX:=hid (show Sl wo x.A x.n x.c x.l from HSw.out.co x (by rw [hx];exact List.getElem_mem hlt));have HZ:Hid (cB L (k+1)=aJ x.b x.l):=by show _=_;rw [fK hlt,if_neg (by simp [hz]),hx]
   have HZ0:=hid hz;obtain ⟨d0,d1,d2,d3,d4,d5,d6,d7,d8,d9,d10,d11,d12⟩:=dB hC hlt hx;have hbo:=hC.lt;have hlt':(k:Int)<(L.length:Int):=by omega
   have hkw:IntKind.i64.wrap ((k:Int)+1)=(k:Int)+1:=IntWalk.i64_in _ (by omega);clear hC hx hz HSw
   go_wp2_with fail
   have HX2:=hid (HX.out.alloc (.cells #[.int .i64 x.b.px,.int .i64 x.b.py,.int .i64 x.b.vx,.int .i64 x.b.vy,.int .i64 x.b.ang,.int .i64 x.b.spin,.int .i64 x.b.mass,.int .i64 x.b.iner,.int .i64 x.b.bounce,.int .i64 x.b.rub,.slice x.A x.n x.c,.bool x.b.asleep,.int .i64 x.b.calm] 27));refine (yF x.b x.A x.n x.c x.l _ HX2.out).mono ?_;rintro e w1 ⟨rfl,hb1⟩;have hB1:Below w.heap.size w w1:=ah hb1 (hB.alloc hB.size _);clear hb1 HX HX2 hB
   by_cases hE:aJ x.b x.l=0
   ·rw [hE];go_wp2;go_roundw
    case rel=>exact ⟨k+1,by omega,by go_num,by rw [HZ.out,hE],hB1⟩
    case measure=>simp [intOf];omega
   ·have hne : (aJ x.b x.l != 0) = true := by simp [hE]
    have HR:Hid (aJ x.b x.l=aG L):=by show _=_;rw [HE.out,jG L (by omega) hlt (by rw [HZ.out];exact hE),HZ.out]
    clear HZ;go_wp2
    go_returns
    exact aj HR.out hB1
  ·have hkn : k = L.length := by omega
   subst hkn;clear HSw;have HR:Hid (aG L=0):=by show _=_;rw [HE.out];exact hz
   clear hz;go_wp2
   go_returns
   exact aj HR.out.symm hB
def IZ (x y:Int):Int:=if y<x then y else x
def jl (r : List Int) : Nat → Int
 | 0=>r.getD 0 0
 | k+1=>IZ (jl r k) (r.getD (k+1) 0)
def uL (r:List Int):Int:=jl r (r.length-1)
def Jd (x y:Int):Int:=if y > x then y else x
def ji (r : List Int) : Nat → Int
 | 0=>r.getD 0 0
 | k+1=>Jd (ji r k) (r.getD (k+1) 0)
def vK (r:List Int):Int:=ji r (r.length-1)

def kP (w:World) (B:Nat) (v:Value) (r:List Int):Prop:=w.ownsRow B 3 1 v r.length (r.map fun x=>.int .i64 x)
theorem kP.nil (w:World) (B:Nat):kP w B (.slice none 0 0) []:=World.ownsRow_nil _ _ _ _
theorem kP.kept {B:Nat} {v:Value} {r:List Int} {row:Option Nat} (h:kP w B v r) (hg:w.grownBy w' row) (hr:v.ownBlock=none∨v.ownBlock≠row):kP w' B v r:=World.ownsRow.kept h hg hr
theorem kP.below {B:Nat} {v:Value} {r:List Int} (h:kP w B v r) (hb:Below w.heap.size w w'):kP w' B v r :=
 h.kept (dz (row:=none) hb) (by cases hv:v.ownBlock with | none=>exact .inl rfl | some k=>exact .inr (by simp))
theorem kP.alloc {B:Nat} {v:Value} {r:List Int} (h:kP w B v r) (o:Obj):kP (w.alloc o) B v r:=World.ownsRow.alloc h o
theorem kP.drew {B:Nat} {v:Value} {r:List Int} (h:kP w B v r):kP w.drew B v r:=h
theorem kP.grown {B:Nat} {v:Value} {r:List Int} (h:kP w B v r) (hg:w.grownBy w' v.ownBlock) (hB:B≤w.heap.size):Below B w w' :=
 (Below.refl B w).grown hg hB (fun k hk=>(World.ownsRow.lt h k hk).1)
theorem kP.sl {B:Nat} {v:Value} {r:List Int} (h:kP w B v r):∃ A n c,v = .slice A n c∧Ee w A n c r:=by
 have hc:=fun g hg=>World.ownsRow.cells h (g:=g) hg
 obtain ⟨h1,h2 | ⟨g,cap,cur,rfl,hb,hg,hn,hm,hs,ht⟩⟩:=h
 ·obtain ⟨rfl, h0⟩ := h2;refine ⟨none,0,0,rfl,⟨h0.symm,by omega,by omega,fun hl=>?_⟩⟩;exact absurd (List.length_eq_zero_iff.1 h0) hl
 ·refine ⟨_, _, _, rfl, ⟨rfl, hn, by unfold maxLen at hm; omega, fun _ => ⟨g, 0, rfl, (Array.getElem?_eq_some_iff.1 hg).1, fun j hj => ?_⟩⟩⟩;have:=hc g rfl j (.int .i64 (r.getD j 0)) (by simp [hj]);have hadd:(⟨g,0,none⟩:Addr).add j=⟨g,0+j,none⟩:=by unfold Addr.add;split <;> simp_all
  rwa [hadd] at this


structure xD (w : World) (g : Nat) (z : Int) : Prop where
 c:w.cell? ⟨g,0,none⟩=some (.int .i64 z)
 lt:g<w.heap.size
theorem xD.here (w:World) (z:Int) (t:TypeId):xD (w.alloc (.cells #[.int .i64 z] t)) w.heap.size z:=⟨by go_simp,by simp⟩
theorem xD.drew {g:Nat} {z:Int} (h:xD w g z):xD w.drew g z:=⟨h.c,h.lt⟩

structure B4 (w : World) (g : Nat) : Prop where
 c:∃ x y z u:Value,w.cell? ⟨g,0,none⟩=some x∧w.cell? ⟨g,1,none⟩=some y∧w.cell? ⟨g,2,none⟩=some z∧w.cell? ⟨g,3,none⟩=some u
 free:∀ j,w.frozen? ⟨g,j,none⟩=false
theorem B4.lt {g:Nat} (h:B4 w g):g<w.heap.size:=by obtain ⟨⟨_,_,_,_,h0,_⟩,_⟩:=h;exact lt_of_cell h0
theorem FX {B g:Nat} (hb:Below B w w') (hg:g<B) (h:B4 w g):B4 w' g:=by
 obtain ⟨⟨x,y,z,u,h0,h1,h2,h3⟩,hf⟩:=h;exact ⟨⟨x,y,z,u,((bX hb).1 _ _ hg).trans h0,((bX hb).1 _ _ hg).trans h1,((bX hb).1 _ _ hg).trans h2,((bX hb).1 _ _ hg).trans h3⟩,fun j=>((bX hb).2 _ _ hg).trans (hf j)⟩
theorem Ag {g:Nat} (hb:Below w.heap.size w w') (h:B4 w g):B4 w' g:=FX hb h.lt h
theorem B4.alloc {g:Nat} (h:B4 w g) (o:Obj):B4 (w.alloc o) g:=Ag Ba h
theorem B4.drew {g:Nat} (h:B4 w g):B4 w.drew g:=⟨h.c,h.free⟩
theorem B4.here (w:World) (a b c d:Int) (t:TypeId):B4 (w.alloc (.cells #[.int .i64 a,.int .i64 b,.int .i64 c,.int .i64 d] t)) w.heap.size :=
 ⟨⟨.int .i64 a,.int .i64 b,.int .i64 c,.int .i64 d,by go_simp,by go_simp,by go_simp,by go_simp⟩,fun j=>by go_simp⟩
def qy (l:List V):List Int:=l.map fun p=>p.1
def rG (l:List V):List Int:=l.map fun p=>p.2
theorem Bn (l:List V):(qy l).length=l.length:=by simp [qy]
theorem FR (l:List V):(rG l).length=l.length:=by simp [rG]
abbrev zV (x y u v:Int):Value:=.agg #[.int .i64 x,.int .i64 y,.int .i64 u,.int .i64 v]
theorem DJ:(Tryz.prog.info? 27).map (fun i=>(i.zero,i.size,i.bytes))=some (some (.agg #[.int .i64 0,.int .i64 0,.int .i64 0,.int .i64 0,.int .i64 0,.int .i64 0,.int .i64 0,.int .i64 0,.int .i64 0,.int .i64 0,.slice none 0 0,.bool false,.int .i64 0]),13,120):=by kernel_rfl
theorem vv:EU jH 29 27 120:=⟨Tryz.underlying29,by obtain ⟨i0,hi,hz0,hz1,hz2⟩:=info_parts DJ;exact ⟨i0,_,hi,hz0,hz1,hz2,rfl⟩⟩
theorem ku {g:Nat} {x:BE} (hb:bC w g x.b x.A x.n x.c):aH jH w g 0 [x]:=by
 refine ⟨hb.lt,fun j hj i v hv=>?_⟩;have hj0:j=0:=by simpa using hj
 subst hj0;rw [Nat.zero_mul,Nat.zero_add]
 try rw [Nat.zero_add]
 have hv:(iK x)[i]? = some v:=hv;unfold iK at hv
 match i,hv with
 | 0,hv=>have e:some _=some v:=hv;cases e;exact hb.c0
 | 1,hv=>have e:some _=some v:=hv;cases e;exact hb.c1
 | 2,hv=>have e:some _=some v:=hv;cases e;exact hb.c2
 | 3,hv=>have e:some _=some v:=hv;cases e;exact hb.c3
 | 4,hv=>have e:some _=some v:=hv;cases e;exact hb.c4
 | 5,hv=>have e:some _=some v:=hv;cases e;exact hb.c5
 | 6,hv=>have e:some _=some v:=hv;cases e;exact hb.c6
 | 7,hv=>have e:some _=some v:=hv;cases e;exact hb.c7
 | 8,hv=>have e:some _=some v:=hv;cases e;exact hb.c8
 | 9,hv=>have e:some _=some v:=hv;cases e;exact hb.c9
 | 10,hv=>have e:some _=some v:=hv;cases e;exact hb.c10
 | 11,hv=>have e:some _=some v:=hv;cases e;exact hb.c11
 | 12,hv=>have e:some _=some v:=hv;cases e;exact hb.c12
 | i+13,hv=>simp at hv

structure Jt where
 a:Int
 b:Int
 p1:Int
 p2:Int
 q1:Int
 q2:Int
 len:Int
def Gu (x:Jt):List Value:=[.int .i64 x.a,.int .i64 x.b,.int .i64 x.p1,.int .i64 x.p2,.int .i64 x.q1,.int .i64 x.q2,.int .i64 x.len]
def gV:Lay Jt:=⟨Gu,7,fun _=>rfl,fun x v hv=>by simp only [Gu,List.mem_cons,List.mem_nil_iff,or_false] at hv;rcases hv with rfl | rfl | rfl | rfl | rfl | rfl | rfl <;> rfl,by omega⟩
theorem ze:(Tryz.prog.info? 37).map (fun i=>(i.zero,i.size,i.bytes))=some (some (.agg #[.int .i64 0,.int .i64 0,.int .i64 0,.int .i64 0,.int .i64 0,.int .i64 0,.int .i64 0]),7,56):=by kernel_rfl
theorem Gm:EU gV 30 37 56:=⟨Tryz.underlying30,by obtain ⟨i0,hi,hz0,hz1,hz2⟩:=info_parts ze;exact ⟨i0,_,hi,hz0,hz1,hz2,rfl⟩⟩
theorem nE {b off k:Nat} {l:List Jt} {x:Jt} (h:aH gV w b off l) (hk:k<l.length) (hx:x=l[k]) :
  w.cell? ⟨b,off+k*7,none⟩=some (.int .i64 x.a)∧w.cell? ⟨b,off+k*7+1,none⟩=some (.int .i64 x.b)∧w.cell? ⟨b,off+k*7+2,none⟩=some (.int .i64 x.p1)∧w.cell? ⟨b,off+k*7+3,none⟩=some (.int .i64 x.p2)∧w.cell? ⟨b,off+k*7+4,none⟩=some (.int .i64 x.q1)∧w.cell? ⟨b,off+k*7+5,none⟩=some (.int .i64 x.q2)∧w.cell? ⟨b,off+k*7+6,none⟩=some (.int .i64 x.len):=by
 subst hx;exact ⟨h.at_ k hk 0 _ rfl,h.at_ k hk 1 _ rfl,h.at_ k hk 2 _ rfl,h.at_ k hk 3 _ rfl,h.at_ k hk 4 _ rfl,h.at_ k hk 5 _ rfl,h.at_ k hk 6 _ rfl⟩
end
end Go.Proofs.YtokgmcomgflloaaGreat
