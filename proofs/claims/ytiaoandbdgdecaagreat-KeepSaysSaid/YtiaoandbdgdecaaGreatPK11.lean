/- Parts of a proof: contracts and laws. -/
import Derived.Test.YtiaoandbdgdecaaGreatPK10
import Derived.Test.YtiaoandbdgdecaaGreatPK04
import Derived.Test.YtiaoandbdgdecaaGreatPK03
set_option maxRecDepth 100000
set_option maxHeartbeats 16000000
namespace Go.Proofs.YtiaoandbdgdecaaGreat
section
set_option linter.unusedVariables false
set_option linter.unusedSimpArgs false
open Go.RowKit

structure BE where
 b:Bd
 A:Option Addr
 n:Nat
 c:Nat
 l:List V
def encB (x:BE):List Value:=[.int .i64 x.b.px,.int .i64 x.b.py,.int .i64 x.b.vx,.int .i64 x.b.vy,.int .i64 x.b.ang,.int .i64 x.b.spin,.int .i64 x.b.mass,.int .i64 x.b.iner,.int .i64 x.b.bounce,.int .i64 x.b.rub,.slice x.A x.n x.c,.bool x.b.asleep,.int .i64 x.b.calm]
def layB:Lay BE:=⟨encB,13,fun _=>rfl,fun x v hv=>by simp only [encB,List.mem_cons,List.mem_nil_iff,or_false] at hv;rcases hv with rfl | rfl | rfl | rfl | rfl | rfl | rfl | rfl | rfl | rfl | rfl | rfl | rfl <;> rfl,by omega⟩
structure SlB (w : World) (A : Option Addr) (n c : Nat) (L : List BE) : Prop where
 sl:SlE layB w A n c L
 co:∀ x ∈ L,Sl w x.A x.n x.c x.l
theorem SlB.below {w w':World} {A:Option Addr} {n c:Nat} {L:List BE} (h:SlB w A n c L) (hb:Below w.heap.size w w'):SlB w' A n c L:=⟨h.sl.below hb,fun x hx=>(h.co x hx).below hb⟩
theorem SlB.alloc {w:World} {A:Option Addr} {n c:Nat} {L:List BE} (h:SlB w A n c L) (o:Obj):SlB (w.alloc o) A n c L:=h.below Ba
theorem SlB.drew {w:World} {A:Option Addr} {n c:Nat} {L:List BE} (h:SlB w A n c L):SlB w.drew A n c L:=h.below (Below.refl _ _).drew
theorem keepSlB {w w':World} {A:Option Addr} {n c:Nat} {L:List BE} (hb:Below w.heap.size w w') (h:SlB w A n c L):SlB w' A n c L:=h.below hb

theorem cells_bd {w:World} {ba off k:Nat} {L:List BE} {x:BE} (h:CellsE layB w ba off L) (hk:k<L.length) (hx:x=L[k]) :
  w.cell? ⟨ba,off+k*13,none⟩=some (.int .i64 x.b.px)∧w.cell? ⟨ba,off+k*13+1,none⟩=some (.int .i64 x.b.py)∧w.cell? ⟨ba,off+k*13+2,none⟩=some (.int .i64 x.b.vx)∧w.cell? ⟨ba,off+k*13+3,none⟩=some (.int .i64 x.b.vy)∧w.cell? ⟨ba,off+k*13+4,none⟩=some (.int .i64 x.b.ang)∧w.cell? ⟨ba,off+k*13+5,none⟩=some (.int .i64 x.b.spin)∧w.cell? ⟨ba,off+k*13+6,none⟩=some (.int .i64 x.b.mass)∧w.cell? ⟨ba,off+k*13+7,none⟩=some (.int .i64 x.b.iner)∧w.cell? ⟨ba,off+k*13+8,none⟩=some (.int .i64 x.b.bounce)∧w.cell? ⟨ba,off+k*13+9,none⟩=some (.int .i64 x.b.rub)∧w.cell? ⟨ba,off+k*13+10,none⟩=some (.slice x.A x.n x.c)∧w.cell? ⟨ba,off+k*13+11,none⟩=some (.bool x.b.asleep)∧w.cell? ⟨ba,off+k*13+12,none⟩=some (.int .i64 x.b.calm):=by
 subst hx
 exact ⟨h.at_ k hk 0 _ rfl,h.at_ k hk 1 _ rfl,h.at_ k hk 2 _ rfl,h.at_ k hk 3 _ rfl,h.at_ k hk 4 _ rfl,h.at_ k hk 5 _ rfl,h.at_ k hk 6 _ rfl,h.at_ k hk 7 _ rfl,h.at_ k hk 8 _ rfl,h.at_ k hk 9 _ rfl,h.at_ k hk 10 _ rfl,h.at_ k hk 11 _ rfl,h.at_ k hk 12 _ rfl⟩

def bodiesTo (L : List BE) : Nat → Int
 | 0=>0
 | k+1=>if bodiesTo L k≠0 then bodiesTo L k else match L[k]? with | some x=>bodyE x.b x.l | none=>0
def bodiesE (L:List BE):Int:=if 64<L.length then 2 else bodiesTo L L.length
theorem bodiesTo_succ {L:List BE} {k:Nat} (hk:k<L.length):bodiesTo L (k+1)=if bodiesTo L k≠0 then bodiesTo L k else bodyE L[k].b L[k].l:=by
 rw [bodiesTo,List.getElem?_eq_getElem hk]
theorem bodiesTo_stop (L : List BE) {k : Nat} : ∀ {m : Nat}, m ≤ L.length → k < m → bodiesTo L (k + 1) ≠ 0 → bodiesTo L m = bodiesTo L (k + 1)
 | 0,_,h,_=>by omega
 | m+1,hm,h,hz=>by
  rcases Nat.lt_or_ge k m with g | g
  ·have := bodiesTo_stop L (m := m) (by omega) g hz
   rw [bodiesTo_succ (by omega),if_pos (by rw [this];exact hz),this]
  ·rw [show m=k by omega]
theorem bodiesTo_zero {L : List BE} : ∀ {m : Nat}, m ≤ L.length → bodiesTo L m = 0 → ∀ k (hk : k < L.length), k < m → bodyE L[k].b L[k].l = 0
 | 0,_,_,k,_,h=>by omega
 | m+1,hm,hz,k,hk,h=>by
  rw [bodiesTo_succ (by omega)] at hz
  by_cases h0:bodiesTo L m=0
  ·rw [if_neg (by simp [h0])] at hz
   rcases Nat.lt_or_ge k m with g | g
   ·exact bodiesTo_zero (by omega) h0 k hk g
   ·have : k = m := by omega
    subst this
    exact hz
  ·rw [if_pos h0] at hz
   exact absurd hz h0
theorem bodiesE_zero {L:List BE} (h:bodiesE L=0):L.length≤64∧∀ x ∈ L,bodyE x.b x.l=0:=by
 unfold bodiesE at h
 by_cases h64:64<L.length
 ·rw [if_pos h64] at h;cases h
 ·rw [if_neg h64] at h
  refine ⟨by omega,fun x hx=>?_⟩
  obtain ⟨k,hk,rfl⟩:=List.getElem_of_mem hx
  exact bodiesTo_zero (Nat.le_refl _) h k hk hk
theorem kcheck_calls (A:Option Addr) (n c:Nat) (L:List BE) (w:World) (hS:SlB w A n c L):Calls Tryz.prog 21 #[.slice A n c] w (Ret (.int .i64 (bodiesE L)) w):=by
 have hn:=hS.sl.len
 have hcap:=hS.sl.cap
 have hbig:=hS.sl.big
 subst hn
 by_cases h64:64<L.length
 ·have HE : Hid (bodiesE L = 2) := by show _ = _; unfold bodiesE; rw [if_pos h64]
  clear hS
  go_enter Tryz.func21,Tryz.ntmps21
  go_wp2
  go_returns
  exact ret_int HE.out.symm (Below.refl _ _)
 have HE:Hid (bodiesE L=bodiesTo L L.length):=by show _=_;unfold bodiesE;rw [if_neg h64]
 have HS:=hid hS
 clear hS
 go_enter Tryz.func21,Tryz.ntmps21
 go_wp2
 go_loopw [11] (fun i wr=>∃ k:Nat,k≤L.length∧i = .int .i64 k∧bodiesTo L k=0∧Below w.heap.size w wr) (fun i _=>L.length-(intOf i).toNat)
 case atStart=>exact ⟨0,Nat.zero_le _,rfl,rfl,Below.refl _ _⟩
 case round =>
  obtain ⟨k,hk,rfl,hz,hB⟩:=hrel
  obtain ⟨wo,rfl⟩:∃ wo:World,wo=wr:=⟨_,rfl⟩
  have HSw:=hid (HS.out.below hB)
  by_cases hlt:k<L.length
  ·obtain ⟨ba, off, hA, hC⟩ := HSw.out.sl.at_ (by intro h; subst h; simp at hlt)
   subst hA
   obtain ⟨x,hx⟩:∃ x,x=L[k]:=⟨_,rfl⟩
   have HX:=hid (show Sl wo x.A x.n x.c x.l from HSw.out.co x (by rw [hx];exact List.getElem_mem hlt))
   have HZ:Hid (bodiesTo L (k+1)=bodyE x.b x.l):=by show _=_;rw [bodiesTo_succ hlt,if_neg (by simp [hz]),hx]
   have HZ0:=hid hz
   obtain ⟨d0,d1,d2,d3,d4,d5,d6,d7,d8,d9,d10,d11,d12⟩:=cells_bd hC hlt hx
   have hbo:=hC.lt
   have hlt':(k:Int)<(L.length:Int):=by omega
   have hkw:IntKind.i64.wrap ((k:Int)+1)=(k:Int)+1:=IntWalk.i64_in _ (by omega)
   clear hC hx hz HSw
   go_wp2_with fail
   have HX2:=hid (HX.out.alloc (.cells #[.int .i64 x.b.px,.int .i64 x.b.py,.int .i64 x.b.vx,.int .i64 x.b.vy,.int .i64 x.b.ang,.int .i64 x.b.spin,.int .i64 x.b.mass,.int .i64 x.b.iner,.int .i64 x.b.bounce,.int .i64 x.b.rub,.slice x.A x.n x.c,.bool x.b.asleep,.int .i64 x.b.calm] 58))
   refine (bcheck_calls x.b x.A x.n x.c x.l _ HX2.out).mono ?_
   rintro e w1 ⟨rfl,hb1⟩
   have hB1:Below w.heap.size w w1:=keepBelow hb1 (hB.alloc hB.size _)
   clear hb1 HX HX2 hB
   by_cases hE:bodyE x.b x.l=0
   ·rw [hE]
    go_wp2
    go_roundw
    case rel=>exact ⟨k+1,by omega,by go_num,by rw [HZ.out,hE],hB1⟩
    case measure=>simp [intOf];omega
   ·have hne : (bodyE x.b x.l != 0) = true := by simp [hE]
    have HR:Hid (bodyE x.b x.l=bodiesE L):=by show _=_;rw [HE.out,bodiesTo_stop L (by omega) hlt (by rw [HZ.out];exact hE),HZ.out]
    clear HZ
    go_wp2
    go_returns
    exact ret_int HR.out hB1
  ·have hkn : k = L.length := by omega
   subst hkn
   clear HSw
   have HR:Hid (bodiesE L=0):=by show _=_;rw [HE.out];exact hz
   clear hz
   go_wp2
   go_returns
   exact ret_int HR.out.symm hB
theorem rbodies_calls (A:Option Addr) (n c:Nat) (L:List BE) (w:World) (hS:SlB w A n c L):Calls Tryz.prog 20 #[.slice A n c] w (Ret (.int .i64 (bodiesE L)) w):=by
 have hn:=hS.sl.len
 have hcap:=hS.sl.cap
 have hbig:=hS.sl.big
 subst hn
 by_cases h64:64<L.length
 ·have HE : Hid (bodiesE L = 2) := by show _ = _; unfold bodiesE; rw [if_pos h64]
  clear hS
  go_enter Tryz.func20,Tryz.ntmps20
  go_wp2
  go_returns
  exact ret_int HE.out.symm (Below.refl _ _)
 have HE:Hid (bodiesE L=bodiesTo L L.length):=by show _=_;unfold bodiesE;rw [if_neg h64]
 have HS:=hid hS
 clear hS
 go_enter Tryz.func20,Tryz.ntmps20
 go_wp2
 go_loopw [11] (fun i wr=>∃ k:Nat,k≤L.length∧i = .int .i64 k∧bodiesTo L k=0∧Below w.heap.size w wr) (fun i _=>L.length-(intOf i).toNat)
 case atStart=>exact ⟨0,Nat.zero_le _,rfl,rfl,Below.refl _ _⟩
 case round =>
  obtain ⟨k,hk,rfl,hz,hB⟩:=hrel
  obtain ⟨wo,rfl⟩:∃ wo:World,wo=wr:=⟨_,rfl⟩
  have HSw:=hid (HS.out.below hB)
  by_cases hlt:k<L.length
  ·obtain ⟨ba, off, hA, hC⟩ := HSw.out.sl.at_ (by intro h; subst h; simp at hlt)
   subst hA
   obtain ⟨x,hx⟩:∃ x,x=L[k]:=⟨_,rfl⟩
   have HX:=hid (show Sl wo x.A x.n x.c x.l from HSw.out.co x (by rw [hx];exact List.getElem_mem hlt))
   have HZ:Hid (bodiesTo L (k+1)=bodyE x.b x.l):=by show _=_;rw [bodiesTo_succ hlt,if_neg (by simp [hz]),hx]
   have HZ0:=hid hz
   obtain ⟨d0,d1,d2,d3,d4,d5,d6,d7,d8,d9,d10,d11,d12⟩:=cells_bd hC hlt hx
   have hbo:=hC.lt
   have hlt':(k:Int)<(L.length:Int):=by omega
   have hkw:IntKind.i64.wrap ((k:Int)+1)=(k:Int)+1:=IntWalk.i64_in _ (by omega)
   clear hC hx hz HSw
   go_wp2_with fail
   have HX2:=hid (HX.out.alloc (.cells #[.int .i64 x.b.px,.int .i64 x.b.py,.int .i64 x.b.vx,.int .i64 x.b.vy,.int .i64 x.b.ang,.int .i64 x.b.spin,.int .i64 x.b.mass,.int .i64 x.b.iner,.int .i64 x.b.bounce,.int .i64 x.b.rub,.slice x.A x.n x.c,.bool x.b.asleep,.int .i64 x.b.calm] 58))
   refine (rbody_calls x.b x.A x.n x.c x.l _ HX2.out).mono ?_
   rintro e w1 ⟨rfl,hb1⟩
   have hB1:Below w.heap.size w w1:=keepBelow hb1 (hB.alloc hB.size _)
   clear hb1 HX HX2 hB
   by_cases hE:bodyE x.b x.l=0
   ·rw [hE]
    go_wp2
    go_roundw
    case rel=>exact ⟨k+1,by omega,by go_num,by rw [HZ.out,hE],hB1⟩
    case measure=>simp [intOf];omega
   ·have hne : (bodyE x.b x.l != 0) = true := by simp [hE]
    have HR:Hid (bodyE x.b x.l=bodiesE L):=by show _=_;rw [HE.out,bodiesTo_stop L (by omega) hlt (by rw [HZ.out];exact hE),HZ.out]
    clear HZ
    go_wp2
    go_returns
    exact ret_int HR.out hB1
  ·have hkn : k = L.length := by omega
   subst hkn
   clear HSw
   have HR:Hid (bodiesE L=0):=by show _=_;rw [HE.out];exact hz
   clear hz
   go_wp2
   go_returns
   exact ret_int HR.out.symm hB
end
end Go.Proofs.YtiaoandbdgdecaaGreat
namespace Go.Proofs.YtiaoandbdgdecaaGreat
section
set_option linter.unusedVariables false
set_option linter.unusedSimpArgs false
open Go.ChangeShapes Go.WideShapes Go.ChangeAt Go.RowKit Go.Deep Go.Joins
theorem cells_body7:Tryz.prog.cellsOf 58=13:=by kernel_rfl
theorem cells_bool7:Tryz.prog.cellsOf 4=1:=by kernel_rfl
theorem cells_vecs7:Tryz.prog.cellsOf 56=1:=by kernel_rfl
theorem list_be {P:Nat→BE→Prop} (n:Nat) (h:∀ i,i<n→∃ x,P i x):∃ l:List BE,l.length=n∧∀ i (hi:i<l.length),P i l[i]:=by
 induction n with
 | zero=>exact ⟨[],rfl,fun i hi=>absurd hi (by simp)⟩
 | succ n ih =>
  obtain ⟨l,hl,hp⟩:=ih fun i hi=>h i (by omega)
  obtain ⟨x,hx⟩:=h n (by omega)
  refine ⟨l ++ [x],by simp [hl],fun i hi=>?_⟩
  by_cases e:i<l.length
  ·rw [List.getElem_append_left e];exact hp i e
  ·have ei : i = n := by simp at hi; omega
   subst ei
   rw [List.getElem_append_right (by omega)]
   simpa [hl] using hx
section
variable {H:Type} {enc:TypeId × Value→H} {W:World} {held:Bool} {base:Nat} {sp:Nat→Bool}
theorem open_int_c7 {n:Nat} {a:Value} {x:DataW H × List MemPlace} (h:DataW.trod enc Tryz.prog W base sp held n 3 [a]=some x):∃ z:Int,a = .int .i64 z:=by
 obtain ⟨z,ez,_,_⟩:=DataW.trod_int Tryz.underlying3 h
 simp at ez
 exact ⟨z,ez⟩
theorem open_bool_c7 {n:Nat} {a:Value} {x:DataW H × List MemPlace} (h:DataW.trod enc Tryz.prog W base sp held n 4 [a]=some x):∃ z:Bool,a = .bool z:=by
 obtain ⟨z,ez,_⟩:=DataW.trod_bool Tryz.underlying4 h
 simp at ez
 exact ⟨z,ez⟩
theorem open_vec_c7 {n:Nat} {a b:Value} {x:DataW H × List MemPlace} (h:DataW.trod enc Tryz.prog W base sp held n 27 [a,b]=some x):∃ y z:Int,a = .int .i64 y∧b = .int .i64 z:=by
 obtain ⟨xs,n',_,_,hlen,hxl,hg⟩:=DataW.trod_struct Tryz.underlying27 h
 match xs,hxl with
 | [z0,z1],_ =>
  have g0:=hg 0 _ rfl
  have g1:=hg 1 _ rfl
  obtain ⟨y,ey⟩:=open_int_c7 (by simpa [cells_int] using g0)
  obtain ⟨z,ez⟩:=open_int_c7 (by simpa [cells_int] using g1)
  exact ⟨y,z,ey,ez⟩
theorem open_vecs_n {fuel:Nat} {v:Value} {x:DataW H × List MemPlace} (hf:DataW.trod enc Tryz.prog W base (fun _=>true) held fuel 56 [v]=some x) :
  ∃ A n c l,v = .slice A n c∧Sl W A n c l:=by
 rcases open_slice Tryz.underlying56 hf with ⟨hcs,_⟩ | ⟨a,len,cap,m,k,D,Pl,hcs,_,hl,hm,hmm,hxx,hi⟩
 ·have e : v = .slice none 0 0 := by simpa using hcs
  subst e
  exact ⟨none,0,0,[],rfl,⟨rfl,by omega,by omega,fun hh=>absurd rfl hh⟩⟩
 ·have e : v = .slice (some a) len cap := by simpa using hcs
  subst e
  rw [if_pos rfl] at hmm
  subst hmm
  have hcell:∀ i,i<len→∃ x y:Int,W.cell? (a.add (i*2))=some (.int .i64 x)∧W.cell? (a.add (i*2+1))=some (.int .i64 y):=by
   intro i him
   obtain ⟨cs',hc,ht'⟩:=hi i (by omega)
   rw [cells_vec] at hc
   obtain ⟨_,hcl,hat⟩:=World.cells?_some hc
   match cs',hcl with
   | [u0,u1],_ =>
    obtain ⟨x,y,ex,ey⟩:=open_vec_c7 ht'
    subst ex ey
    refine ⟨x,y,?_,?_⟩
    ·have := hat 0 (by omega)
     rwa [Go.Deep.add_add] at this
    ·have := hat 1 (by omega)
     rwa [Go.Deep.add_add] at this
  obtain ⟨l,hll,hlc⟩:=list_of len hcell
  refine ⟨_,_,_,l,rfl,⟨hll.symm,hl,by unfold maxLen at hm;omega,fun hne=>?_⟩⟩
  have hn:0<len:=by
   rcases Nat.eq_zero_or_pos len with h0 | h0
   ·exact absurd (List.length_eq_zero_iff.1 (by omega)) hne
   ·exact h0
  obtain ⟨b,off,spot⟩:=a
  have hspot:spot=none:=by
   have:=World.cell?_spot (hlc 0 hn).1
   simpa [Addr.add] using this
  subst hspot
  refine ⟨b,off,rfl,?_,fun j hj=>?_,fun j hj=>?_⟩
  ·have := (hlc 0 hn).1
   simp [Addr.add] at this
   rcases Nat.lt_or_ge b W.heap.size with h1 | h1
   ·exact h1
   ·have e : W.heap[b]? = none := Array.getElem?_eq_none h1
    simp [World.cell?,e] at this
  ·rw [← add_plain];exact (hlc j (by omega)).1
  ·rw [Nat.add_assoc,← add_plain];exact (hlc j (by omega)).2

theorem open_be {fuel:Nat} {cl:List Value} {x:DataW H × List MemPlace} (hcs:cl.length=13) (hf:DataW.trod enc Tryz.prog W base (fun _=>true) held fuel 58 cl=some x):∃ e:BE,cl=encB e∧Sl W e.A e.n e.c e.l:=by
 obtain ⟨xs,m,_,hx,hlen,hxl,hg⟩:=DataW.trod_struct Tryz.underlying58 hf
 match cl,hcs with
 | [c0,c1,c2,c3,c4,c5,c6,c7,c8,c9,c10,c11,c12],_ =>
  match xs,hxl with
  | [x0,x1,x2,x3,x4,x5,x6,x7,x8,x9,x10],_ =>
   obtain ⟨a0,a1,e0,e1⟩:=open_vec_c7 (by simpa [Value.cells,cells_vec] using hg 0 _ rfl)
   obtain ⟨a2,a3,e2,e3⟩:=open_vec_c7 (by simpa [Value.cells,cells_vec] using hg 1 _ rfl)
   obtain ⟨a4,e4⟩:=open_int_c7 (by simpa [Value.cells,cells_int] using hg 2 _ rfl)
   obtain ⟨a5,e5⟩:=open_int_c7 (by simpa [Value.cells,cells_int] using hg 3 _ rfl)
   obtain ⟨a6,e6⟩:=open_int_c7 (by simpa [Value.cells,cells_int] using hg 4 _ rfl)
   obtain ⟨a7,e7⟩:=open_int_c7 (by simpa [Value.cells,cells_int] using hg 5 _ rfl)
   obtain ⟨a8,e8⟩:=open_int_c7 (by simpa [Value.cells,cells_int] using hg 6 _ rfl)
   obtain ⟨a9,e9⟩:=open_int_c7 (by simpa [Value.cells,cells_int] using hg 7 _ rfl)
   have g8:DataW.trod enc Tryz.prog W base (fun _=>true) held m 56 [c10]=some x8:=by simpa [Value.cells,cells_vecs7] using hg 8 _ rfl
   obtain ⟨a11,e11⟩:=open_bool_c7 (by simpa [Value.cells,cells_bool7] using hg 9 _ rfl)
   obtain ⟨a12,e12⟩:=open_int_c7 (by simpa [Value.cells,cells_int] using hg 10 _ rfl)
   obtain ⟨A,n,c,l,e10,hS⟩:=open_vecs_n g8
   subst e0 e1 e2 e3 e4 e5 e6 e7 e8 e9 e10 e11 e12
   exact ⟨⟨⟨a0,a1,a2,a3,a4,a5,a6,a7,a8,a9,a11,a12⟩,A,n,c,l⟩,rfl,hS⟩

theorem open_bodies {r:Reach} {b0:Nat} {v:Value} {d:DataW H} {p:List MemPlace} (hv:Value.okWide Tryz.prog W r b0 23 v) (h:DataW.Trod enc Tryz.prog W base (fun _=>true) held 23 v d p) :
  ∃ A n c L,v = .slice A n c∧SlB W A n c L:=by
 obtain ⟨A,n,c,rfl⟩:=okWide_slice Tryz.underlying23 hv
 obtain ⟨fuel,hf⟩:=h
 rcases open_slice Tryz.underlying23 hf with ⟨hcs,_⟩ | ⟨a,len,cap,m,k,D,Pl,hcs,_,hl,hm,hmm,_,hi⟩
 ·have e : Value.slice A n c = .slice none 0 0 := by simpa [Value.cells] using hcs
  injection e with e1 e2 e3
  subst e1 e2 e3
  exact ⟨none,0,0,[],rfl,SlE.nil _ _,fun x hx=>by cases hx⟩
 ·have e : Value.slice A n c = .slice (some a) len cap := by simpa [Value.cells] using hcs
  injection e with e1 e2 e3
  subst e1 e2 e3
  rw [if_pos rfl] at hmm
  subst hmm
  have hcell:∀ i,i<n→∃ x:BE,(∀ j v,(encB x)[j]? = some v→W.cell? (a.add (i*13+j))=some v)∧Sl W x.A x.n x.c x.l:=by
   intro i him
   obtain ⟨cs',hc,ht'⟩:=hi i (by omega)
   rw [cells_body7] at hc
   obtain ⟨_,hcl,hat⟩:=World.cells?_some hc
   obtain ⟨x,hx,hS⟩:=open_be hcl ht'
   refine ⟨x,fun j v hj=>?_,hS⟩
   have hj13:j<cs'.length:=by
    rcases Nat.lt_or_ge j cs'.length with g | g
    ·exact g
    ·rw [hx] at g;rw [List.getElem?_eq_none g] at hj;cases hj
   have:=hat j (by omega)
   rw [Go.Deep.add_add] at this
   rw [this]
   subst hx
   first | exact hj | (rw [List.getElem?_eq_getElem hj13] at hj;exact hj)
  obtain ⟨L,hll,hlc⟩:=list_be n hcell
  have hone:L≠[]→∃ b off,a=⟨b,off,none⟩∧b<W.heap.size:=fun hne=>by
   have hn:0<L.length:=by
    rcases Nat.eq_zero_or_pos L.length with h0 | h0
    ·exact absurd (List.length_eq_zero_iff.1 h0) hne
    ·exact h0
   obtain ⟨b,off,spot⟩:=a
   have c0:=(hlc 0 hn).1 0 _ rfl
   have hspot:spot=none:=by
    have:=World.cell?_spot c0
    simpa [Addr.add] using this
   subst hspot
   refine ⟨b,off,rfl,?_⟩
   simp [Addr.add] at c0
   rcases Nat.lt_or_ge b W.heap.size with h1 | h1
   ·exact h1
   ·have e : W.heap[b]? = none := Array.getElem?_eq_none h1
    simp [World.cell?,e] at c0
  refine ⟨_,_,_,L,rfl,⟨hll.symm,hl,by unfold maxLen at hm;omega,fun hne=>?_⟩,fun x hx=>?_⟩
  ·obtain ⟨b, off, rfl, hb⟩ := hone hne
   refine ⟨b,off,rfl,hb,fun j hj i v hv=>?_⟩
   have:=(hlc j hj).1 i v hv
   rwa [add_plain,← Nat.add_assoc] at this
  ·obtain ⟨j, hj, rfl⟩ := List.getElem_of_mem hx
   exact (hlc j hj).2
end
end
end Go.Proofs.YtiaoandbdgdecaaGreat
