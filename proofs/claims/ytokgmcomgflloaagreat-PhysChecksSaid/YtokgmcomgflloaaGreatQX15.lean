/- Parts of a proof: contracts and laws. -/
import Derived.Test.YtokgmcomgflloaaGreatQX14
set_option maxRecDepth 100000
set_option maxHeartbeats 16000000
namespace Go.Proofs.YtokgmcomgflloaaGreat
section
set_option linter.unusedVariables false
set_option linter.unusedSimpArgs false
open Go.RowKit
variable {w0 w w':World}

structure Ct where
 a:Int
 b:Int
 id:Int
 px:Int
 py:Int
 nx:Int
 ny:Int
 dep:Int
 push:Int
 sli:Int
def kN (x:Ct):List Value:=[.int .i64 x.a,.int .i64 x.b,.int .i64 x.id,.int .i64 x.px,.int .i64 x.py,.int .i64 x.nx,.int .i64 x.ny,.int .i64 x.dep,.int .i64 x.push,.int .i64 x.sli]
def dH:Lay Ct:=⟨kN,10,fun _=>rfl,fun x v hv=>by simp only [kN,List.mem_cons,List.mem_nil_iff,or_false] at hv;rcases hv with rfl | rfl | rfl | rfl | rfl | rfl | rfl | rfl | rfl | rfl <;> rfl,by omega⟩
theorem vT:(Tryz.prog.info? 106).map (fun i=>(i.zero,i.size,i.bytes))=some (some (.agg #[.int .i64 0,.int .i64 0,.int .i64 0,.int .i64 0,.int .i64 0,.int .i64 0,.int .i64 0,.int .i64 0,.int .i64 0,.int .i64 0]),10,80):=by kernel_rfl
theorem BR:EU dH 31 106 80:=⟨Tryz.underlying31,by obtain ⟨i0,hi,hz0,hz1,hz2⟩:=info_parts vT;exact ⟨i0,_,hi,hz0,hz1,hz2,rfl⟩⟩
theorem iO {b off k:Nat} {l:List Ct} {x:Ct} (h:aH dH w b off l) (hk:k<l.length) (hx:x=l[k]):w.cell? ⟨b,off+k*10,none⟩=some (.int .i64 x.a)∧w.cell? ⟨b,off+k*10+1,none⟩=some (.int .i64 x.b)∧w.cell? ⟨b,off+k*10+2,none⟩=some (.int .i64 x.id)∧w.cell? ⟨b,off+k*10+3,none⟩=some (.int .i64 x.px)∧w.cell? ⟨b,off+k*10+4,none⟩=some (.int .i64 x.py)∧w.cell? ⟨b,off+k*10+5,none⟩=some (.int .i64 x.nx)∧w.cell? ⟨b,off+k*10+6,none⟩=some (.int .i64 x.ny)∧w.cell? ⟨b,off+k*10+7,none⟩=some (.int .i64 x.dep)∧w.cell? ⟨b,off+k*10+8,none⟩=some (.int .i64 x.push)∧w.cell? ⟨b,off+k*10+9,none⟩=some (.int .i64 x.sli):=by
 subst hx;exact ⟨h.at_ k hk 0 _ rfl,h.at_ k hk 1 _ rfl,h.at_ k hk 2 _ rfl,h.at_ k hk 3 _ rfl,h.at_ k hk 4 _ rfl,h.at_ k hk 5 _ rfl,h.at_ k hk 6 _ rfl,h.at_ k hk 7 _ rfl,h.at_ k hk 8 _ rfl,h.at_ k hk 9 _ rfl⟩

def fJ (n:Nat) (x:Ct):Prop:=(0≤x.a∧x.a<x.b∧x.b<(n:Int)∧0≤x.id)∧(-65536000≤x.px∧x.px≤65536000 ∧ -65536000≤x.py∧x.py≤65536000)∧(-65536≤x.nx∧x.nx≤65536 ∧ -65536≤x.ny∧x.ny≤65536)∧(0≤x.dep∧x.dep≤65536000)∧(0≤x.push∧x.push≤1099511627776)∧(-1099511627776≤x.sli∧x.sli≤1099511627776)
instance (n:Nat) (x:Ct):Decidable (fJ n x):=by unfold fJ;infer_instance
def Dk (n:Nat) (x:Ct):Int:=if fJ n x then 0 else 1
def lU (n:Nat) (C:List Ct) (k:Nat):Int:=dR (fun i=>match C[i]? with | some x=>Dk n x | none=>0) k
def aD (L:List BE) (C:List Ct):Int:=if aG L≠0 then aG L else if 4096<C.length then 2 else lU L.length C C.length
theorem uf {n:Nat} {C:List Ct} {k:Nat} (hk:k<C.length) (hz:lU n C k=0):lU n C (k+1)=Dk n C[k]:=by
 have e:lU n C (k+1)=if lU n C k≠0 then lU n C k else match C[k]? with | some x=>Dk n x | none=>0:=rfl
 rw [e,if_neg (by simp [hz]),List.getElem?_eq_getElem hk]
theorem tJ {n:Nat} {C:List Ct} {k:Nat} {e:Int} (hk:k<C.length) (h:lU n C (k+1)=e) (he:e≠0):lU n C C.length=e:=by
 rw [← h];exact kr _ (by have h2:dR _ (k+1)=e:=h;rw [h2];exact he) hk
theorem fC {L:List BE} {C:List Ct} (h:aD L C=0):aG L=0∧C.length≤4096∧∀ x ∈ C,fJ L.length x:=by
 unfold aD at h
 by_cases h0:aG L=0
 ·rw [if_neg (by simp [h0])] at h
  by_cases h1:4096<C.length
  ·rw [if_pos h1] at h;cases h
  ·rw [if_neg h1] at h;refine ⟨h0,by omega,fun x hx=>?_⟩;obtain ⟨k,hk,rfl⟩:=List.getElem_of_mem hx;have h3:=kg h k hk;have h3:Dk L.length C[k]=0:=by simpa [hk] using h3
   unfold Dk at h3
   by_cases g:fJ L.length C[k]
   ·exact g
   ·rw [if_neg g] at h3;cases h3
 ·rw [if_pos h0] at h;exact absurd h h0
theorem dN (n l h:Int) (w:World):Calls Tryz.prog 129 #[.int .i64 n,.int .i64 l,.int .i64 h] w (dw (.bool (dU n l h)) w):=by
 go_enter Tryz.func129,Tryz.ntmps129
 by_cases h1:l≤n
 ·by_cases h2 : n ≤ h
  ·have HR : Hid (dU n l h = true) := bf.2 ⟨h1, h2⟩;go_wp2
   go_returns
   exact aY (by rw [HR.out];try simp [*]) (by go_grown)
  ·have HR : Hid (dU n l h = false) := by show _ = _; unfold dU; simp [h1, h2]
   go_wp2
   go_returns
   exact aY (by rw [HR.out];try simp [*]) (by go_grown)
 ·have HR : Hid (dU n l h = false) := by show _ = _; unfold dU; simp [h1]
  go_wp2
  go_returns
  exact aY (by rw [HR.out];try simp [*]) (by go_grown)
theorem uT (A B:Option Addr) (n c n' c':Nat) (L:List BE) (C:List Ct) (w:World) (hS:iE w A n c L) (hC:dD dH w B n' c' C) :
  Calls Tryz.prog 58 #[.slice A n c,.slice B n' c'] w (dw (.int .i64 (aD L C)) w):=by
 have hn:=hS.sl.len;have hcap:=hS.sl.cap;have hbig:=hS.sl.big;have hn':=hC.len;have hcap':=hC.cap;have hbig':=hC.big;subst hn hn';have HSC:=hid (fun (w':World) (hb:Below w.heap.size w w')=>hC.below hb);have HCK:=hid (gZ A L.length c L w hS);clear hS hC
 go_enter Tryz.func58,Tryz.ntmps58
 go_wp2_with fail
 refine HCK.out.mono ?_;rintro e w1 ⟨rfl,hB⟩;clear HCK
 by_cases hE:aG L=0
 case neg =>
  have HR:Hid (aD L C=aG L):=by show _=_;unfold aD;rw [if_pos hE]
  have hne:(aG L != 0)=true:=by simp [hE]
  generalize aG L=z at *
  go_wp2
  go_returns
  exact aj HR.out.symm hB
 by_cases h96:4096<C.length
 ·have HR : Hid (aD L C = 2) := by show _ = _; unfold aD; rw [if_neg (by simp [hE]), if_pos h96]
  rw [hE];clear hE;go_wp2
  go_returns
  exact aj HR.out.symm hB
 have HCE:Hid (aD L C=lU L.length C C.length):=by show _=_;unfold aD;rw [if_neg (by simp [hE]),if_neg h96]
 have h64:=(bZ hE).1;rw [hE];clear hE;go_wp2
 go_loopw [19] (fun i wr=>∃ k:Nat,k≤C.length∧i = .int .i64 k∧lU L.length C k=0∧Below w.heap.size w wr) (fun i _=>C.length-(intOf i).toNat)
 case atStart=>exact ⟨0,Nat.zero_le _,rfl,rfl,hB⟩
 case round =>
  clear hB;obtain ⟨k,hk,rfl,hz,hB⟩:=hrel;obtain ⟨wo,rfl⟩:∃ wo:World,wo=wr:=⟨_,rfl⟩
  by_cases hlt:k<C.length
  ·obtain ⟨ba, off, hA, hCC⟩ := (HSC.out _ hB).at_ (by intro h; subst h; simp at hlt);subst hA;have HST:Hid (lU L.length C (k+1)=Dk L.length C[k]):=uf hlt hz;have HF0:Hid (¬ fJ L.length C[k]→aD L C=1):=fun h=>by rw [HCE.out];exact tJ hlt (by rw [HST.out];unfold Dk;rw [if_neg h]) (by decide)
   obtain ⟨x,hx⟩:∃ x,x=C[k]:=⟨_,rfl⟩;obtain ⟨d0,d1,d2,d3,d4,d5,d6,d7,d8,d9⟩:=iO hCC hlt hx;rw [← hx] at HST HF0;have hbo:=hCC.lt;have hlt':(k:Int)<(C.length:Int):=by omega
   have hkw:IntKind.i64.wrap ((k:Int)+1)=(k:Int)+1:=IntWalk.i64_in _ (by omega);have hn1:IntKind.i64.wrap ((L.length:Int)-1)=(L.length:Int)-1:=IntWalk.i64_in _ (by omega);have HF:=HF0;clear hCC hx hz HF0;obtain ⟨wj,hwj⟩:∃ wj,wj=wo.alloc (.cells #[.int .i64 x.a,.int .i64 x.b,.int .i64 x.id,.int .i64 x.px,.int .i64 x.py,.int .i64 x.nx,.int .i64 x.ny,.int .i64 x.dep,.int .i64 x.push,.int .i64 x.sli] 106):=⟨_,rfl⟩;have hBw:Below w.heap.size w wj:=by rw [hwj];exact hB.alloc hB.size _
   have j0:wj.cell? ⟨wo.heap.size,0,none⟩=some (.int .i64 x.a):=by rw [hwj];go_simp
   have j1:wj.cell? ⟨wo.heap.size,1,none⟩=some (.int .i64 x.b):=by rw [hwj];go_simp
   have j2:wj.cell? ⟨wo.heap.size,2,none⟩=some (.int .i64 x.id):=by rw [hwj];go_simp
   have j3:wj.cell? ⟨wo.heap.size,3,none⟩=some (.int .i64 x.px):=by rw [hwj];go_simp
   have j4:wj.cell? ⟨wo.heap.size,4,none⟩=some (.int .i64 x.py):=by rw [hwj];go_simp
   have j5:wj.cell? ⟨wo.heap.size,5,none⟩=some (.int .i64 x.nx):=by rw [hwj];go_simp
   have j6:wj.cell? ⟨wo.heap.size,6,none⟩=some (.int .i64 x.ny):=by rw [hwj];go_simp
   have j7:wj.cell? ⟨wo.heap.size,7,none⟩=some (.int .i64 x.dep):=by rw [hwj];go_simp
   have j8:wj.cell? ⟨wo.heap.size,8,none⟩=some (.int .i64 x.push):=by rw [hwj];go_simp
   have j9:wj.cell? ⟨wo.heap.size,9,none⟩=some (.int .i64 x.sli):=by rw [hwj];go_simp
   go_upto_region 10 with fail
   rw [← hwj];clear hwj d0 d1 d2 d3 d4 d5 d6 d7 d8 d9 hbo hB;have hB:=hBw;clear hBw
   by_cases g0:dU x.a 0 ((L.length:Int)-1)=true
   case neg =>
    have H1:Hid (dU x.a 0 ((L.length:Int)-1)=false):=by show _=_;simpa using g0
    have HR:=hid (HF.out (by unfold fJ;intro hc;exact g0 (bf.2 (by omega))));clear HF;have H2:Hid True:=trivial;have H3:Hid True:=trivial;have H4:Hid True:=trivial;have H5:Hid True:=trivial;have H6:Hid True:=trivial;have H7:Hid True:=trivial;have H8:Hid True:=trivial;have H9:Hid True:=trivial
    go_wp2_with (first | (go_at_call 129;refine (dN _ _ _ _).mono ?_;rintro e wn ⟨rfl,hb⟩;(try rw [H1.out]);(try rw [H2.out]);(try rw [H3.out]);(try rw [H4.out]);(try rw [H5.out]);(try rw [H6.out]);(try rw [H7.out]);(try rw [H8.out]);(try rw [H9.out]);replace hB:=ah hb hB;replace j0:=keepCell hb j0;replace j1:=keepCell hb j1;replace j2:=keepCell hb j2;replace j3:=keepCell hb j3;replace j4:=keepCell hb j4;replace j5:=keepCell hb j5;replace j6:=keepCell hb j6;replace j7:=keepCell hb j7;replace j8:=keepCell hb j8;replace j9:=keepCell hb j9;clear hb))
    go_returns
    exact aj HR.out.symm hB
   have H1:Hid (dU x.a 0 ((L.length:Int)-1)=true):=g0;rw [bf] at g0
   by_cases g1:dU x.b 0 ((L.length:Int)-1)=true
   case neg =>
    have H2:Hid (dU x.b 0 ((L.length:Int)-1)=false):=by show _=_;simpa using g1
    have HR:=hid (HF.out (by unfold fJ;intro hc;exact g1 (bf.2 (by omega))));clear HF;have H3:Hid True:=trivial;have H4:Hid True:=trivial;have H5:Hid True:=trivial;have H6:Hid True:=trivial;have H7:Hid True:=trivial;have H8:Hid True:=trivial;have H9:Hid True:=trivial
    go_wp2_with (first | (go_at_call 129;refine (dN _ _ _ _).mono ?_;rintro e wn ⟨rfl,hb⟩;(try rw [H1.out]);(try rw [H2.out]);(try rw [H3.out]);(try rw [H4.out]);(try rw [H5.out]);(try rw [H6.out]);(try rw [H7.out]);(try rw [H8.out]);(try rw [H9.out]);replace hB:=ah hb hB;replace j0:=keepCell hb j0;replace j1:=keepCell hb j1;replace j2:=keepCell hb j2;replace j3:=keepCell hb j3;replace j4:=keepCell hb j4;replace j5:=keepCell hb j5;replace j6:=keepCell hb j6;replace j7:=keepCell hb j7;replace j8:=keepCell hb j8;replace j9:=keepCell hb j9;clear hb))
    go_returns
    exact aj HR.out.symm hB
   have H2:Hid (dU x.b 0 ((L.length:Int)-1)=true):=g1;rw [bf] at g1
   by_cases g2:x.b≤x.a
   ·have HR := hid (HF.out (by unfold fJ; omega));clear HF;have H3:Hid True:=trivial;have H4:Hid True:=trivial;have H5:Hid True:=trivial;have H6:Hid True:=trivial;have H7:Hid True:=trivial;have H8:Hid True:=trivial;have H9:Hid True:=trivial
    go_wp2_with (first | (go_at_call 129;refine (dN _ _ _ _).mono ?_;rintro e wn ⟨rfl,hb⟩;(try rw [H1.out]);(try rw [H2.out]);(try rw [H3.out]);(try rw [H4.out]);(try rw [H5.out]);(try rw [H6.out]);(try rw [H7.out]);(try rw [H8.out]);(try rw [H9.out]);replace hB:=ah hb hB;replace j0:=keepCell hb j0;replace j1:=keepCell hb j1;replace j2:=keepCell hb j2;replace j3:=keepCell hb j3;replace j4:=keepCell hb j4;replace j5:=keepCell hb j5;replace j6:=keepCell hb j6;replace j7:=keepCell hb j7;replace j8:=keepCell hb j8;replace j9:=keepCell hb j9;clear hb))
    go_returns
    exact aj HR.out.symm hB
   by_cases g3:x.id<0
   ·have HR := hid (HF.out (by unfold fJ; omega));clear HF;have H3:Hid True:=trivial;have H4:Hid True:=trivial;have H5:Hid True:=trivial;have H6:Hid True:=trivial;have H7:Hid True:=trivial;have H8:Hid True:=trivial;have H9:Hid True:=trivial
    go_wp2_with (first | (go_at_call 129;refine (dN _ _ _ _).mono ?_;rintro e wn ⟨rfl,hb⟩;(try rw [H1.out]);(try rw [H2.out]);(try rw [H3.out]);(try rw [H4.out]);(try rw [H5.out]);(try rw [H6.out]);(try rw [H7.out]);(try rw [H8.out]);(try rw [H9.out]);replace hB:=ah hb hB;replace j0:=keepCell hb j0;replace j1:=keepCell hb j1;replace j2:=keepCell hb j2;replace j3:=keepCell hb j3;replace j4:=keepCell hb j4;replace j5:=keepCell hb j5;replace j6:=keepCell hb j6;replace j7:=keepCell hb j7;replace j8:=keepCell hb j8;replace j9:=keepCell hb j9;clear hb))
    go_returns
    exact aj HR.out.symm hB
   by_cases g4:dU x.px (-65536000) 65536000=true
   case neg =>
    have H3:Hid (dU x.px (-65536000) 65536000=false):=by show _=_;simpa using g4
    have HR:=hid (HF.out (by unfold fJ;intro hc;exact g4 (bf.2 (by omega))));clear HF;have H4:Hid True:=trivial;have H5:Hid True:=trivial;have H6:Hid True:=trivial;have H7:Hid True:=trivial;have H8:Hid True:=trivial;have H9:Hid True:=trivial
    go_wp2_with (first | (go_at_call 129;refine (dN _ _ _ _).mono ?_;rintro e wn ⟨rfl,hb⟩;(try rw [H1.out]);(try rw [H2.out]);(try rw [H3.out]);(try rw [H4.out]);(try rw [H5.out]);(try rw [H6.out]);(try rw [H7.out]);(try rw [H8.out]);(try rw [H9.out]);replace hB:=ah hb hB;replace j0:=keepCell hb j0;replace j1:=keepCell hb j1;replace j2:=keepCell hb j2;replace j3:=keepCell hb j3;replace j4:=keepCell hb j4;replace j5:=keepCell hb j5;replace j6:=keepCell hb j6;replace j7:=keepCell hb j7;replace j8:=keepCell hb j8;replace j9:=keepCell hb j9;clear hb))
    go_returns
    exact aj HR.out.symm hB
   have H3:Hid (dU x.px (-65536000) 65536000=true):=g4;rw [bf] at g4
   by_cases g5:dU x.py (-65536000) 65536000=true
   case neg =>
    have H4:Hid (dU x.py (-65536000) 65536000=false):=by show _=_;simpa using g5
    have HR:=hid (HF.out (by unfold fJ;intro hc;exact g5 (bf.2 (by omega))));clear HF;have H5:Hid True:=trivial;have H6:Hid True:=trivial;have H7:Hid True:=trivial;have H8:Hid True:=trivial;have H9:Hid True:=trivial
    go_wp2_with (first | (go_at_call 129;refine (dN _ _ _ _).mono ?_;rintro e wn ⟨rfl,hb⟩;(try rw [H1.out]);(try rw [H2.out]);(try rw [H3.out]);(try rw [H4.out]);(try rw [H5.out]);(try rw [H6.out]);(try rw [H7.out]);(try rw [H8.out]);(try rw [H9.out]);replace hB:=ah hb hB;replace j0:=keepCell hb j0;replace j1:=keepCell hb j1;replace j2:=keepCell hb j2;replace j3:=keepCell hb j3;replace j4:=keepCell hb j4;replace j5:=keepCell hb j5;replace j6:=keepCell hb j6;replace j7:=keepCell hb j7;replace j8:=keepCell hb j8;replace j9:=keepCell hb j9;clear hb))
    go_returns
    exact aj HR.out.symm hB
   have H4:Hid (dU x.py (-65536000) 65536000=true):=g5;rw [bf] at g5
   by_cases g6:dU x.nx (-65536) 65536=true
   case neg =>
    have H5:Hid (dU x.nx (-65536) 65536=false):=by show _=_;simpa using g6
    have HR:=hid (HF.out (by unfold fJ;intro hc;exact g6 (bf.2 (by omega))));clear HF;have H6:Hid True:=trivial;have H7:Hid True:=trivial;have H8:Hid True:=trivial;have H9:Hid True:=trivial
    go_wp2_with (first | (go_at_call 129;refine (dN _ _ _ _).mono ?_;rintro e wn ⟨rfl,hb⟩;(try rw [H1.out]);(try rw [H2.out]);(try rw [H3.out]);(try rw [H4.out]);(try rw [H5.out]);(try rw [H6.out]);(try rw [H7.out]);(try rw [H8.out]);(try rw [H9.out]);replace hB:=ah hb hB;replace j0:=keepCell hb j0;replace j1:=keepCell hb j1;replace j2:=keepCell hb j2;replace j3:=keepCell hb j3;replace j4:=keepCell hb j4;replace j5:=keepCell hb j5;replace j6:=keepCell hb j6;replace j7:=keepCell hb j7;replace j8:=keepCell hb j8;replace j9:=keepCell hb j9;clear hb))
    go_returns
    exact aj HR.out.symm hB
   have H5:Hid (dU x.nx (-65536) 65536=true):=g6;rw [bf] at g6
   by_cases g7:dU x.ny (-65536) 65536=true
   case neg =>
    have H6:Hid (dU x.ny (-65536) 65536=false):=by show _=_;simpa using g7
    have HR:=hid (HF.out (by unfold fJ;intro hc;exact g7 (bf.2 (by omega))));clear HF;have H7:Hid True:=trivial;have H8:Hid True:=trivial;have H9:Hid True:=trivial
    go_wp2_with (first | (go_at_call 129;refine (dN _ _ _ _).mono ?_;rintro e wn ⟨rfl,hb⟩;(try rw [H1.out]);(try rw [H2.out]);(try rw [H3.out]);(try rw [H4.out]);(try rw [H5.out]);(try rw [H6.out]);(try rw [H7.out]);(try rw [H8.out]);(try rw [H9.out]);replace hB:=ah hb hB;replace j0:=keepCell hb j0;replace j1:=keepCell hb j1;replace j2:=keepCell hb j2;replace j3:=keepCell hb j3;replace j4:=keepCell hb j4;replace j5:=keepCell hb j5;replace j6:=keepCell hb j6;replace j7:=keepCell hb j7;replace j8:=keepCell hb j8;replace j9:=keepCell hb j9;clear hb))
    go_returns
    exact aj HR.out.symm hB
   have H6:Hid (dU x.ny (-65536) 65536=true):=g7;rw [bf] at g7
   by_cases g8:dU x.dep 0 65536000=true
   case neg =>
    have H7:Hid (dU x.dep 0 65536000=false):=by show _=_;simpa using g8
    have HR:=hid (HF.out (by unfold fJ;intro hc;exact g8 (bf.2 (by omega))));clear HF;have H8:Hid True:=trivial;have H9:Hid True:=trivial
    go_wp2_with (first | (go_at_call 129;refine (dN _ _ _ _).mono ?_;rintro e wn ⟨rfl,hb⟩;(try rw [H1.out]);(try rw [H2.out]);(try rw [H3.out]);(try rw [H4.out]);(try rw [H5.out]);(try rw [H6.out]);(try rw [H7.out]);(try rw [H8.out]);(try rw [H9.out]);replace hB:=ah hb hB;replace j0:=keepCell hb j0;replace j1:=keepCell hb j1;replace j2:=keepCell hb j2;replace j3:=keepCell hb j3;replace j4:=keepCell hb j4;replace j5:=keepCell hb j5;replace j6:=keepCell hb j6;replace j7:=keepCell hb j7;replace j8:=keepCell hb j8;replace j9:=keepCell hb j9;clear hb))
    go_returns
    exact aj HR.out.symm hB
   have H7:Hid (dU x.dep 0 65536000=true):=g8;rw [bf] at g8
   by_cases g9:dU x.push 0 1099511627776=true
   case neg =>
    have H8:Hid (dU x.push 0 1099511627776=false):=by show _=_;simpa using g9
    have HR:=hid (HF.out (by unfold fJ;intro hc;exact g9 (bf.2 (by omega))));clear HF;have H9:Hid True:=trivial
    go_wp2_with (first | (go_at_call 129;refine (dN _ _ _ _).mono ?_;rintro e wn ⟨rfl,hb⟩;(try rw [H1.out]);(try rw [H2.out]);(try rw [H3.out]);(try rw [H4.out]);(try rw [H5.out]);(try rw [H6.out]);(try rw [H7.out]);(try rw [H8.out]);(try rw [H9.out]);replace hB:=ah hb hB;replace j0:=keepCell hb j0;replace j1:=keepCell hb j1;replace j2:=keepCell hb j2;replace j3:=keepCell hb j3;replace j4:=keepCell hb j4;replace j5:=keepCell hb j5;replace j6:=keepCell hb j6;replace j7:=keepCell hb j7;replace j8:=keepCell hb j8;replace j9:=keepCell hb j9;clear hb))
    go_returns
    exact aj HR.out.symm hB
   have H8:Hid (dU x.push 0 1099511627776=true):=g9;rw [bf] at g9
   by_cases g10:dU x.sli (-1099511627776) 1099511627776=true
   case neg =>
    have H9:Hid (dU x.sli (-1099511627776) 1099511627776=false):=by show _=_;simpa using g10
    have HR:=hid (HF.out (by unfold fJ;intro hc;exact g10 (bf.2 (by omega))));clear HF
    go_wp2_with (first | (go_at_call 129;refine (dN _ _ _ _).mono ?_;rintro e wn ⟨rfl,hb⟩;(try rw [H1.out]);(try rw [H2.out]);(try rw [H3.out]);(try rw [H4.out]);(try rw [H5.out]);(try rw [H6.out]);(try rw [H7.out]);(try rw [H8.out]);(try rw [H9.out]);replace hB:=ah hb hB;replace j0:=keepCell hb j0;replace j1:=keepCell hb j1;replace j2:=keepCell hb j2;replace j3:=keepCell hb j3;replace j4:=keepCell hb j4;replace j5:=keepCell hb j5;replace j6:=keepCell hb j6;replace j7:=keepCell hb j7;replace j8:=keepCell hb j8;replace j9:=keepCell hb j9;clear hb))
    go_returns
    exact aj HR.out.symm hB
   have H9:Hid (dU x.sli (-1099511627776) 1099511627776=true):=g10;rw [bf] at g10;have HOK:Hid (Dk L.length x=0):=by show _=_;unfold Dk;rw [if_pos (by unfold fJ;omega)]
   clear HF
   go_wp2_with (first | (go_at_call 129;refine (dN _ _ _ _).mono ?_;rintro e wn ⟨rfl,hb⟩;(try rw [H1.out]);(try rw [H2.out]);(try rw [H3.out]);(try rw [H4.out]);(try rw [H5.out]);(try rw [H6.out]);(try rw [H7.out]);(try rw [H8.out]);(try rw [H9.out]);replace hB:=ah hb hB;replace j0:=keepCell hb j0;replace j1:=keepCell hb j1;replace j2:=keepCell hb j2;replace j3:=keepCell hb j3;replace j4:=keepCell hb j4;replace j5:=keepCell hb j5;replace j6:=keepCell hb j6;replace j7:=keepCell hb j7;replace j8:=keepCell hb j8;replace j9:=keepCell hb j9;clear hb))
   go_roundw
   case rel=>exact ⟨k+1,by omega,by go_num,by rw [HST.out,HOK.out],hB⟩
   case measure=>simp [intOf] <;> omega
  ·have hkn : k = C.length := by omega
   subst hkn;have HR:Hid (aD L C=0):=by show _=_;rw [HCE.out];exact hz
   clear hz;go_wp2
   go_returns
   exact aj HR.out.symm hB
theorem qd (A B:Option Addr) (n c n' c':Nat) (L:List BE) (C:List Ct) (w:World) (hS:iE w A n c L) (hC:dD dH w B n' c' C) :
  Calls Tryz.prog 62 #[.slice A n c,.slice B n' c'] w (dw (.int .i64 (aD L C)) w):=by
 have hn:=hS.sl.len;have hcap:=hS.sl.cap;have hbig:=hS.sl.big;have hn':=hC.len;have hcap':=hC.cap;have hbig':=hC.big;subst hn hn';have HSC:=hid (fun (w':World) (hb:Below w.heap.size w w')=>hC.below hb);have HCK:=hid (mF A L.length c L w hS);clear hS hC
 go_enter Tryz.func62,Tryz.ntmps62
 go_wp2_with fail
 refine HCK.out.mono ?_;rintro e w1 ⟨rfl,hB⟩;clear HCK
 by_cases hE:aG L=0
 case neg =>
  have HR:Hid (aD L C=aG L):=by show _=_;unfold aD;rw [if_pos hE]
  have hne:(aG L != 0)=true:=by simp [hE]
  generalize aG L=z at *
  go_wp2
  go_returns
  exact aj HR.out.symm hB
 by_cases h96:4096<C.length
 ·have HR : Hid (aD L C = 2) := by show _ = _; unfold aD; rw [if_neg (by simp [hE]), if_pos h96]
  rw [hE];clear hE;go_wp2
  go_returns
  exact aj HR.out.symm hB
 have HCE:Hid (aD L C=lU L.length C C.length):=by show _=_;unfold aD;rw [if_neg (by simp [hE]),if_neg h96]
 have h64:=(bZ hE).1;rw [hE];clear hE;go_wp2
 go_loopw [19] (fun i wr=>∃ k:Nat,k≤C.length∧i = .int .i64 k∧lU L.length C k=0∧Below w.heap.size w wr) (fun i _=>C.length-(intOf i).toNat)
 case atStart=>exact ⟨0,Nat.zero_le _,rfl,rfl,hB⟩
 case round =>
  clear hB;obtain ⟨k,hk,rfl,hz,hB⟩:=hrel;obtain ⟨wo,rfl⟩:∃ wo:World,wo=wr:=⟨_,rfl⟩
  by_cases hlt:k<C.length
  ·obtain ⟨ba, off, hA, hCC⟩ := (HSC.out _ hB).at_ (by intro h; subst h; simp at hlt);subst hA;have HST:Hid (lU L.length C (k+1)=Dk L.length C[k]):=uf hlt hz;have HF0:Hid (¬ fJ L.length C[k]→aD L C=1):=fun h=>by rw [HCE.out];exact tJ hlt (by rw [HST.out];unfold Dk;rw [if_neg h]) (by decide)
   obtain ⟨x,hx⟩:∃ x,x=C[k]:=⟨_,rfl⟩;obtain ⟨d0,d1,d2,d3,d4,d5,d6,d7,d8,d9⟩:=iO hCC hlt hx;rw [← hx] at HST HF0;have hbo:=hCC.lt;have hlt':(k:Int)<(C.length:Int):=by omega
   have hkw:IntKind.i64.wrap ((k:Int)+1)=(k:Int)+1:=IntWalk.i64_in _ (by omega);have hn1:IntKind.i64.wrap ((L.length:Int)-1)=(L.length:Int)-1:=IntWalk.i64_in _ (by omega);have HF:=HF0;clear hCC hx hz HF0;obtain ⟨wj,hwj⟩:∃ wj,wj=wo.alloc (.cells #[.int .i64 x.a,.int .i64 x.b,.int .i64 x.id,.int .i64 x.px,.int .i64 x.py,.int .i64 x.nx,.int .i64 x.ny,.int .i64 x.dep,.int .i64 x.push,.int .i64 x.sli] 106):=⟨_,rfl⟩;have hBw:Below w.heap.size w wj:=by rw [hwj];exact hB.alloc hB.size _
   have j0:wj.cell? ⟨wo.heap.size,0,none⟩=some (.int .i64 x.a):=by rw [hwj];go_simp
   have j1:wj.cell? ⟨wo.heap.size,1,none⟩=some (.int .i64 x.b):=by rw [hwj];go_simp
   have j2:wj.cell? ⟨wo.heap.size,2,none⟩=some (.int .i64 x.id):=by rw [hwj];go_simp
   have j3:wj.cell? ⟨wo.heap.size,3,none⟩=some (.int .i64 x.px):=by rw [hwj];go_simp
   have j4:wj.cell? ⟨wo.heap.size,4,none⟩=some (.int .i64 x.py):=by rw [hwj];go_simp
   have j5:wj.cell? ⟨wo.heap.size,5,none⟩=some (.int .i64 x.nx):=by rw [hwj];go_simp
   have j6:wj.cell? ⟨wo.heap.size,6,none⟩=some (.int .i64 x.ny):=by rw [hwj];go_simp
   have j7:wj.cell? ⟨wo.heap.size,7,none⟩=some (.int .i64 x.dep):=by rw [hwj];go_simp
   have j8:wj.cell? ⟨wo.heap.size,8,none⟩=some (.int .i64 x.push):=by rw [hwj];go_simp
   have j9:wj.cell? ⟨wo.heap.size,9,none⟩=some (.int .i64 x.sli):=by rw [hwj];go_simp
   go_upto_region 9 with fail
   rw [← hwj];clear hwj d0 d1 d2 d3 d4 d5 d6 d7 d8 d9 hbo hB;have hB:=hBw;clear hBw
   by_cases g0:x.a<0
   ·have HR := hid (HF.out (by unfold fJ; omega));clear HF;have H3:Hid True:=trivial;have H5:Hid True:=trivial;have H7:Hid True:=trivial;have H8:Hid True:=trivial;have H9:Hid True:=trivial
    go_wp2_with (first | (go_at_call 65;refine (aP _ _ _ _ (by omega) (by omega)).mono ?_;rintro e wn ⟨rfl,hb⟩;(try rw [H3.out]);(try rw [H5.out]);(try rw [H7.out]);(try rw [H8.out]);(try rw [H9.out]);replace hB:=ah hb hB;replace j0:=keepCell hb j0;replace j1:=keepCell hb j1;replace j2:=keepCell hb j2;replace j3:=keepCell hb j3;replace j4:=keepCell hb j4;replace j5:=keepCell hb j5;replace j6:=keepCell hb j6;replace j7:=keepCell hb j7;replace j8:=keepCell hb j8;replace j9:=keepCell hb j9;clear hb) | (go_at_call 66;refine (aF _ _ _ _).mono ?_;rintro e wn ⟨rfl,hb⟩;(try rw [H3.out]);(try rw [H5.out]);(try rw [H7.out]);(try rw [H8.out]);(try rw [H9.out]);replace hB:=ah hb hB;replace j0:=keepCell hb j0;replace j1:=keepCell hb j1;replace j2:=keepCell hb j2;replace j3:=keepCell hb j3;replace j4:=keepCell hb j4;replace j5:=keepCell hb j5;replace j6:=keepCell hb j6;replace j7:=keepCell hb j7;replace j8:=keepCell hb j8;replace j9:=keepCell hb j9;clear hb))
    go_returns
    exact aj HR.out.symm hB
   by_cases g1:x.b≤x.a
   ·have HR := hid (HF.out (by unfold fJ; omega));clear HF;have H3:Hid True:=trivial;have H5:Hid True:=trivial;have H7:Hid True:=trivial;have H8:Hid True:=trivial;have H9:Hid True:=trivial
    go_wp2_with (first | (go_at_call 65;refine (aP _ _ _ _ (by omega) (by omega)).mono ?_;rintro e wn ⟨rfl,hb⟩;(try rw [H3.out]);(try rw [H5.out]);(try rw [H7.out]);(try rw [H8.out]);(try rw [H9.out]);replace hB:=ah hb hB;replace j0:=keepCell hb j0;replace j1:=keepCell hb j1;replace j2:=keepCell hb j2;replace j3:=keepCell hb j3;replace j4:=keepCell hb j4;replace j5:=keepCell hb j5;replace j6:=keepCell hb j6;replace j7:=keepCell hb j7;replace j8:=keepCell hb j8;replace j9:=keepCell hb j9;clear hb) | (go_at_call 66;refine (aF _ _ _ _).mono ?_;rintro e wn ⟨rfl,hb⟩;(try rw [H3.out]);(try rw [H5.out]);(try rw [H7.out]);(try rw [H8.out]);(try rw [H9.out]);replace hB:=ah hb hB;replace j0:=keepCell hb j0;replace j1:=keepCell hb j1;replace j2:=keepCell hb j2;replace j3:=keepCell hb j3;replace j4:=keepCell hb j4;replace j5:=keepCell hb j5;replace j6:=keepCell hb j6;replace j7:=keepCell hb j7;replace j8:=keepCell hb j8;replace j9:=keepCell hb j9;clear hb))
    go_returns
    exact aj HR.out.symm hB
   by_cases g2:(L.length:Int)≤x.b
   ·have HR := hid (HF.out (by unfold fJ; omega));clear HF;have H3:Hid True:=trivial;have H5:Hid True:=trivial;have H7:Hid True:=trivial;have H8:Hid True:=trivial;have H9:Hid True:=trivial
    go_wp2_with (first | (go_at_call 65;refine (aP _ _ _ _ (by omega) (by omega)).mono ?_;rintro e wn ⟨rfl,hb⟩;(try rw [H3.out]);(try rw [H5.out]);(try rw [H7.out]);(try rw [H8.out]);(try rw [H9.out]);replace hB:=ah hb hB;replace j0:=keepCell hb j0;replace j1:=keepCell hb j1;replace j2:=keepCell hb j2;replace j3:=keepCell hb j3;replace j4:=keepCell hb j4;replace j5:=keepCell hb j5;replace j6:=keepCell hb j6;replace j7:=keepCell hb j7;replace j8:=keepCell hb j8;replace j9:=keepCell hb j9;clear hb) | (go_at_call 66;refine (aF _ _ _ _).mono ?_;rintro e wn ⟨rfl,hb⟩;(try rw [H3.out]);(try rw [H5.out]);(try rw [H7.out]);(try rw [H8.out]);(try rw [H9.out]);replace hB:=ah hb hB;replace j0:=keepCell hb j0;replace j1:=keepCell hb j1;replace j2:=keepCell hb j2;replace j3:=keepCell hb j3;replace j4:=keepCell hb j4;replace j5:=keepCell hb j5;replace j6:=keepCell hb j6;replace j7:=keepCell hb j7;replace j8:=keepCell hb j8;replace j9:=keepCell hb j9;clear hb))
    go_returns
    exact aj HR.out.symm hB
   by_cases g3:x.id<0
   ·have HR := hid (HF.out (by unfold fJ; omega));clear HF;have H3:Hid True:=trivial;have H5:Hid True:=trivial;have H7:Hid True:=trivial;have H8:Hid True:=trivial;have H9:Hid True:=trivial
    go_wp2_with (first | (go_at_call 65;refine (aP _ _ _ _ (by omega) (by omega)).mono ?_;rintro e wn ⟨rfl,hb⟩;(try rw [H3.out]);(try rw [H5.out]);(try rw [H7.out]);(try rw [H8.out]);(try rw [H9.out]);replace hB:=ah hb hB;replace j0:=keepCell hb j0;replace j1:=keepCell hb j1;replace j2:=keepCell hb j2;replace j3:=keepCell hb j3;replace j4:=keepCell hb j4;replace j5:=keepCell hb j5;replace j6:=keepCell hb j6;replace j7:=keepCell hb j7;replace j8:=keepCell hb j8;replace j9:=keepCell hb j9;clear hb) | (go_at_call 66;refine (aF _ _ _ _).mono ?_;rintro e wn ⟨rfl,hb⟩;(try rw [H3.out]);(try rw [H5.out]);(try rw [H7.out]);(try rw [H8.out]);(try rw [H9.out]);replace hB:=ah hb hB;replace j0:=keepCell hb j0;replace j1:=keepCell hb j1;replace j2:=keepCell hb j2;replace j3:=keepCell hb j3;replace j4:=keepCell hb j4;replace j5:=keepCell hb j5;replace j6:=keepCell hb j6;replace j7:=keepCell hb j7;replace j8:=keepCell hb j8;replace j9:=keepCell hb j9;clear hb))
    go_returns
    exact aj HR.out.symm hB
   by_cases g4:aB 65536000 x.px x.py=true
   case neg =>
    have H3:Hid (aB 65536000 x.px x.py=false):=by show _=_;simpa using g4
    have HR:=hid (HF.out (by unfold fJ;intro hc;exact g4 (aV.2 (by omega))));clear HF;have H5:Hid True:=trivial;have H7:Hid True:=trivial;have H8:Hid True:=trivial;have H9:Hid True:=trivial
    go_wp2_with (first | (go_at_call 65;refine (aP _ _ _ _ (by omega) (by omega)).mono ?_;rintro e wn ⟨rfl,hb⟩;(try rw [H3.out]);(try rw [H5.out]);(try rw [H7.out]);(try rw [H8.out]);(try rw [H9.out]);replace hB:=ah hb hB;replace j0:=keepCell hb j0;replace j1:=keepCell hb j1;replace j2:=keepCell hb j2;replace j3:=keepCell hb j3;replace j4:=keepCell hb j4;replace j5:=keepCell hb j5;replace j6:=keepCell hb j6;replace j7:=keepCell hb j7;replace j8:=keepCell hb j8;replace j9:=keepCell hb j9;clear hb) | (go_at_call 66;refine (aF _ _ _ _).mono ?_;rintro e wn ⟨rfl,hb⟩;(try rw [H3.out]);(try rw [H5.out]);(try rw [H7.out]);(try rw [H8.out]);(try rw [H9.out]);replace hB:=ah hb hB;replace j0:=keepCell hb j0;replace j1:=keepCell hb j1;replace j2:=keepCell hb j2;replace j3:=keepCell hb j3;replace j4:=keepCell hb j4;replace j5:=keepCell hb j5;replace j6:=keepCell hb j6;replace j7:=keepCell hb j7;replace j8:=keepCell hb j8;replace j9:=keepCell hb j9;clear hb))
    go_returns
    exact aj HR.out.symm hB
   have H3:Hid (aB 65536000 x.px x.py=true):=g4;rw [aV] at g4
   by_cases g5:aB 65536 x.nx x.ny=true
   case neg =>
    have H5:Hid (aB 65536 x.nx x.ny=false):=by show _=_;simpa using g5
    have HR:=hid (HF.out (by unfold fJ;intro hc;exact g5 (aV.2 (by omega))));clear HF;have H7:Hid True:=trivial;have H8:Hid True:=trivial;have H9:Hid True:=trivial
    go_wp2_with (first | (go_at_call 65;refine (aP _ _ _ _ (by omega) (by omega)).mono ?_;rintro e wn ⟨rfl,hb⟩;(try rw [H3.out]);(try rw [H5.out]);(try rw [H7.out]);(try rw [H8.out]);(try rw [H9.out]);replace hB:=ah hb hB;replace j0:=keepCell hb j0;replace j1:=keepCell hb j1;replace j2:=keepCell hb j2;replace j3:=keepCell hb j3;replace j4:=keepCell hb j4;replace j5:=keepCell hb j5;replace j6:=keepCell hb j6;replace j7:=keepCell hb j7;replace j8:=keepCell hb j8;replace j9:=keepCell hb j9;clear hb) | (go_at_call 66;refine (aF _ _ _ _).mono ?_;rintro e wn ⟨rfl,hb⟩;(try rw [H3.out]);(try rw [H5.out]);(try rw [H7.out]);(try rw [H8.out]);(try rw [H9.out]);replace hB:=ah hb hB;replace j0:=keepCell hb j0;replace j1:=keepCell hb j1;replace j2:=keepCell hb j2;replace j3:=keepCell hb j3;replace j4:=keepCell hb j4;replace j5:=keepCell hb j5;replace j6:=keepCell hb j6;replace j7:=keepCell hb j7;replace j8:=keepCell hb j8;replace j9:=keepCell hb j9;clear hb))
    go_returns
    exact aj HR.out.symm hB
   have H5:Hid (aB 65536 x.nx x.ny=true):=g5;rw [aV] at g5
   by_cases g6:dU x.dep 0 65536000=true
   case neg =>
    have H7:Hid (dU x.dep 0 65536000=false):=by show _=_;simpa using g6
    have HR:=hid (HF.out (by unfold fJ;intro hc;exact g6 (bf.2 (by omega))));clear HF;have H8:Hid True:=trivial;have H9:Hid True:=trivial
    go_wp2_with (first | (go_at_call 65;refine (aP _ _ _ _ (by omega) (by omega)).mono ?_;rintro e wn ⟨rfl,hb⟩;(try rw [H3.out]);(try rw [H5.out]);(try rw [H7.out]);(try rw [H8.out]);(try rw [H9.out]);replace hB:=ah hb hB;replace j0:=keepCell hb j0;replace j1:=keepCell hb j1;replace j2:=keepCell hb j2;replace j3:=keepCell hb j3;replace j4:=keepCell hb j4;replace j5:=keepCell hb j5;replace j6:=keepCell hb j6;replace j7:=keepCell hb j7;replace j8:=keepCell hb j8;replace j9:=keepCell hb j9;clear hb) | (go_at_call 66;refine (aF _ _ _ _).mono ?_;rintro e wn ⟨rfl,hb⟩;(try rw [H3.out]);(try rw [H5.out]);(try rw [H7.out]);(try rw [H8.out]);(try rw [H9.out]);replace hB:=ah hb hB;replace j0:=keepCell hb j0;replace j1:=keepCell hb j1;replace j2:=keepCell hb j2;replace j3:=keepCell hb j3;replace j4:=keepCell hb j4;replace j5:=keepCell hb j5;replace j6:=keepCell hb j6;replace j7:=keepCell hb j7;replace j8:=keepCell hb j8;replace j9:=keepCell hb j9;clear hb))
    go_returns
    exact aj HR.out.symm hB
   have H7:Hid (dU x.dep 0 65536000=true):=g6;rw [bf] at g6
   by_cases g7:dU x.push 0 1099511627776=true
   case neg =>
    have H8:Hid (dU x.push 0 1099511627776=false):=by show _=_;simpa using g7
    have HR:=hid (HF.out (by unfold fJ;intro hc;exact g7 (bf.2 (by omega))));clear HF;have H9:Hid True:=trivial
    go_wp2_with (first | (go_at_call 65;refine (aP _ _ _ _ (by omega) (by omega)).mono ?_;rintro e wn ⟨rfl,hb⟩;(try rw [H3.out]);(try rw [H5.out]);(try rw [H7.out]);(try rw [H8.out]);(try rw [H9.out]);replace hB:=ah hb hB;replace j0:=keepCell hb j0;replace j1:=keepCell hb j1;replace j2:=keepCell hb j2;replace j3:=keepCell hb j3;replace j4:=keepCell hb j4;replace j5:=keepCell hb j5;replace j6:=keepCell hb j6;replace j7:=keepCell hb j7;replace j8:=keepCell hb j8;replace j9:=keepCell hb j9;clear hb) | (go_at_call 66;refine (aF _ _ _ _).mono ?_;rintro e wn ⟨rfl,hb⟩;(try rw [H3.out]);(try rw [H5.out]);(try rw [H7.out]);(try rw [H8.out]);(try rw [H9.out]);replace hB:=ah hb hB;replace j0:=keepCell hb j0;replace j1:=keepCell hb j1;replace j2:=keepCell hb j2;replace j3:=keepCell hb j3;replace j4:=keepCell hb j4;replace j5:=keepCell hb j5;replace j6:=keepCell hb j6;replace j7:=keepCell hb j7;replace j8:=keepCell hb j8;replace j9:=keepCell hb j9;clear hb))
    go_returns
    exact aj HR.out.symm hB
   have H8:Hid (dU x.push 0 1099511627776=true):=g7;rw [bf] at g7
   by_cases g8:dU x.sli (-1099511627776) 1099511627776=true
   case neg =>
    have H9:Hid (dU x.sli (-1099511627776) 1099511627776=false):=by show _=_;simpa using g8
    have HR:=hid (HF.out (by unfold fJ;intro hc;exact g8 (bf.2 (by omega))));clear HF
    go_wp2_with (first | (go_at_call 65;refine (aP _ _ _ _ (by omega) (by omega)).mono ?_;rintro e wn ⟨rfl,hb⟩;(try rw [H3.out]);(try rw [H5.out]);(try rw [H7.out]);(try rw [H8.out]);(try rw [H9.out]);replace hB:=ah hb hB;replace j0:=keepCell hb j0;replace j1:=keepCell hb j1;replace j2:=keepCell hb j2;replace j3:=keepCell hb j3;replace j4:=keepCell hb j4;replace j5:=keepCell hb j5;replace j6:=keepCell hb j6;replace j7:=keepCell hb j7;replace j8:=keepCell hb j8;replace j9:=keepCell hb j9;clear hb) | (go_at_call 66;refine (aF _ _ _ _).mono ?_;rintro e wn ⟨rfl,hb⟩;(try rw [H3.out]);(try rw [H5.out]);(try rw [H7.out]);(try rw [H8.out]);(try rw [H9.out]);replace hB:=ah hb hB;replace j0:=keepCell hb j0;replace j1:=keepCell hb j1;replace j2:=keepCell hb j2;replace j3:=keepCell hb j3;replace j4:=keepCell hb j4;replace j5:=keepCell hb j5;replace j6:=keepCell hb j6;replace j7:=keepCell hb j7;replace j8:=keepCell hb j8;replace j9:=keepCell hb j9;clear hb))
    go_returns
    exact aj HR.out.symm hB
   have H9:Hid (dU x.sli (-1099511627776) 1099511627776=true):=g8;rw [bf] at g8;have HOK:Hid (Dk L.length x=0):=by show _=_;unfold Dk;rw [if_pos (by unfold fJ;omega)]
   clear HF
   go_wp2_with (first | (go_at_call 65;refine (aP _ _ _ _ (by omega) (by omega)).mono ?_;rintro e wn ⟨rfl,hb⟩;(try rw [H3.out]);(try rw [H5.out]);(try rw [H7.out]);(try rw [H8.out]);(try rw [H9.out]);replace hB:=ah hb hB;replace j0:=keepCell hb j0;replace j1:=keepCell hb j1;replace j2:=keepCell hb j2;replace j3:=keepCell hb j3;replace j4:=keepCell hb j4;replace j5:=keepCell hb j5;replace j6:=keepCell hb j6;replace j7:=keepCell hb j7;replace j8:=keepCell hb j8;replace j9:=keepCell hb j9;clear hb) | (go_at_call 66;refine (aF _ _ _ _).mono ?_;rintro e wn ⟨rfl,hb⟩;(try rw [H3.out]);(try rw [H5.out]);(try rw [H7.out]);(try rw [H8.out]);(try rw [H9.out]);replace hB:=ah hb hB;replace j0:=keepCell hb j0;replace j1:=keepCell hb j1;replace j2:=keepCell hb j2;replace j3:=keepCell hb j3;replace j4:=keepCell hb j4;replace j5:=keepCell hb j5;replace j6:=keepCell hb j6;replace j7:=keepCell hb j7;replace j8:=keepCell hb j8;replace j9:=keepCell hb j9;clear hb))
   go_roundw
   case rel=>exact ⟨k+1,by omega,by go_num,by rw [HST.out,HOK.out],hB⟩
   case measure=>simp [intOf] <;> omega
  ·have hkn : k = C.length := by omega
   subst hkn;have HR:Hid (aD L C=0):=by show _=_;rw [HCE.out];exact hz
   clear hz;go_wp2
   go_returns
   exact aj HR.out.symm hB
end
end Go.Proofs.YtokgmcomgflloaaGreat
