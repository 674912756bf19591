/- Parts of a proof: contracts and laws. -/
import Derived.Test.YtodpincpofoiiaaGreatQC12
set_option maxRecDepth 100000
set_option maxHeartbeats 16000000
namespace Go.Proofs.YtodpincpofoiiaaGreat
section
set_option linter.unusedVariables false
set_option linter.unusedSimpArgs false
open Go.RowKit

structure Ct where
 a:Int
 b:Int
 id:Int
 px:Int
 py:Int
 nx:Int
 ny:Int
 dep:Int
 push:Int
 sli:Int
def encC (x:Ct):List Value:=[.int .i64 x.a,.int .i64 x.b,.int .i64 x.id,.int .i64 x.px,.int .i64 x.py,.int .i64 x.nx,.int .i64 x.ny,.int .i64 x.dep,.int .i64 x.push,.int .i64 x.sli]
def layC:Lay Ct:=⟨encC,10,fun _=>rfl,fun x v hv=>by simp only [encC,List.mem_cons,List.mem_nil_iff,or_false] at hv;rcases hv with rfl | rfl | rfl | rfl | rfl | rfl | rfl | rfl | rfl | rfl <;> rfl,by omega⟩
theorem info_contact:(Tryz.prog.info? 53).map (fun i=>(i.zero,i.size,i.bytes))=some (some (.agg #[.int .i64 0,.int .i64 0,.int .i64 0,.int .i64 0,.int .i64 0,.int .i64 0,.int .i64 0,.int .i64 0,.int .i64 0,.int .i64 0]),10,80):=by kernel_rfl
theorem tyContact:TyE layC 31 53 80:=⟨Tryz.underlying31,by obtain ⟨i0,hi,hz0,hz1,hz2⟩:=info_parts info_contact;exact ⟨i0,_,hi,hz0,hz1,hz2,rfl⟩⟩
theorem cells_ct {w:World} {b off k:Nat} {l:List Ct} {x:Ct} (h:CellsE layC w b off l) (hk:k<l.length) (hx:x=l[k]):w.cell? ⟨b,off+k*10,none⟩=some (.int .i64 x.a)∧w.cell? ⟨b,off+k*10+1,none⟩=some (.int .i64 x.b)∧w.cell? ⟨b,off+k*10+2,none⟩=some (.int .i64 x.id)∧w.cell? ⟨b,off+k*10+3,none⟩=some (.int .i64 x.px)∧w.cell? ⟨b,off+k*10+4,none⟩=some (.int .i64 x.py)∧w.cell? ⟨b,off+k*10+5,none⟩=some (.int .i64 x.nx)∧w.cell? ⟨b,off+k*10+6,none⟩=some (.int .i64 x.ny)∧w.cell? ⟨b,off+k*10+7,none⟩=some (.int .i64 x.dep)∧w.cell? ⟨b,off+k*10+8,none⟩=some (.int .i64 x.push)∧w.cell? ⟨b,off+k*10+9,none⟩=some (.int .i64 x.sli):=by
 subst hx
 exact ⟨h.at_ k hk 0 _ rfl,h.at_ k hk 1 _ rfl,h.at_ k hk 2 _ rfl,h.at_ k hk 3 _ rfl,h.at_ k hk 4 _ rfl,h.at_ k hk 5 _ rfl,h.at_ k hk 6 _ rfl,h.at_ k hk 7 _ rfl,h.at_ k hk 8 _ rfl,h.at_ k hk 9 _ rfl⟩

def CtOk (n:Nat) (x:Ct):Prop:=(0≤x.a∧x.a<x.b∧x.b<(n:Int)∧0≤x.id)∧(-65536000≤x.px∧x.px≤65536000 ∧ -65536000≤x.py∧x.py≤65536000)∧(-65536≤x.nx∧x.nx≤65536 ∧ -65536≤x.ny∧x.ny≤65536)∧(0≤x.dep∧x.dep≤65536000)∧(0≤x.push∧x.push≤1099511627776)∧(-1099511627776≤x.sli∧x.sli≤1099511627776)
instance (n:Nat) (x:Ct):Decidable (CtOk n x):=by unfold CtOk;infer_instance
def ctE (n:Nat) (x:Ct):Int:=if CtOk n x then 0 else 1
def ctTo (n:Nat) (C:List Ct) (k:Nat):Int:=faultTo (fun i=>match C[i]? with | some x=>ctE n x | none=>0) k
def contactsE (L:List BE) (C:List Ct):Int:=if bodiesE L≠0 then bodiesE L else if 4096<C.length then 2 else ctTo L.length C C.length
theorem ctTo_succ {n:Nat} {C:List Ct} {k:Nat} (hk:k<C.length) (hz:ctTo n C k=0):ctTo n C (k+1)=ctE n C[k]:=by
 have e:ctTo n C (k+1)=if ctTo n C k≠0 then ctTo n C k else match C[k]? with | some x=>ctE n x | none=>0:=rfl
 rw [e,if_neg (by simp [hz]),List.getElem?_eq_getElem hk]
theorem ctTo_stop {n:Nat} {C:List Ct} {k:Nat} {e:Int} (hk:k<C.length) (h:ctTo n C (k+1)=e) (he:e≠0):ctTo n C C.length=e:=by
 rw [← h]
 exact faultTo_stop _ (by have h2:faultTo _ (k+1)=e:=h;rw [h2];exact he) hk
theorem contactsE_zero {L:List BE} {C:List Ct} (h:contactsE L C=0):bodiesE L=0∧C.length≤4096∧∀ x ∈ C,CtOk L.length x:=by
 unfold contactsE at h
 by_cases h0:bodiesE L=0
 ·rw [if_neg (by simp [h0])] at h
  by_cases h1:4096<C.length
  ·rw [if_pos h1] at h;cases h
  ·rw [if_neg h1] at h
   refine ⟨h0,by omega,fun x hx=>?_⟩
   obtain ⟨k,hk,rfl⟩:=List.getElem_of_mem hx
   have h3:=faultTo_zero h k hk
   have h3:ctE L.length C[k]=0:=by simpa [hk] using h3
   unfold ctE at h3
   by_cases g:CtOk L.length C[k]
   ·exact g
   ·rw [if_neg g] at h3;cases h3
 ·rw [if_pos h0] at h;exact absurd h h0
theorem cin_calls (n l h:Int) (w:World):Calls Tryz.prog 153 #[.int .i64 n,.int .i64 l,.int .i64 h] w (Ret (.bool (inB n l h)) w):=by
 go_enter Tryz.func153,Tryz.ntmps153
 by_cases h1:l≤n
 ·by_cases h2 : n ≤ h
  ·have HR : Hid (inB n l h = true) := inB_iff.2 ⟨h1, h2⟩
   go_wp2
   go_returns
   exact ret_bool (by rw [HR.out];try simp [*]) (by go_grown)
  ·have HR : Hid (inB n l h = false) := by show _ = _; unfold inB; simp [h1, h2]
   go_wp2
   go_returns
   exact ret_bool (by rw [HR.out];try simp [*]) (by go_grown)
 ·have HR : Hid (inB n l h = false) := by show _ = _; unfold inB; simp [h1]
  go_wp2
  go_returns
  exact ret_bool (by rw [HR.out];try simp [*]) (by go_grown)
theorem scheck_calls (A B:Option Addr) (n c n' c':Nat) (L:List BE) (C:List Ct) (w:World) (hS:SlB w A n c L) (hC:SlE layC w B n' c' C) :
  Calls Tryz.prog 70 #[.slice A n c,.slice B n' c'] w (Ret (.int .i64 (contactsE L C)) w):=by
 have hn:=hS.sl.len
 have hcap:=hS.sl.cap
 have hbig:=hS.sl.big
 have hn':=hC.len
 have hcap':=hC.cap
 have hbig':=hC.big
 subst hn hn'
 have HSC:=hid (fun (w':World) (hb:Below w.heap.size w w')=>hC.below hb)
 have HCK:=hid (kcheck_calls A L.length c L w hS)
 clear hS hC
 go_enter Tryz.func70,Tryz.ntmps70
 go_wp2_with fail
 refine HCK.out.mono ?_
 rintro e w1 ⟨rfl,hB⟩
 clear HCK
 by_cases hE:bodiesE L=0
 case neg =>
  have HR:Hid (contactsE L C=bodiesE L):=by show _=_;unfold contactsE;rw [if_pos hE]
  have hne:(bodiesE L != 0)=true:=by simp [hE]
  generalize bodiesE L=z at *
  go_wp2
  go_returns
  exact ret_int HR.out.symm hB
 by_cases h96:4096<C.length
 ·have HR : Hid (contactsE L C = 2) := by show _ = _; unfold contactsE; rw [if_neg (by simp [hE]), if_pos h96]
  rw [hE]
  clear hE
  go_wp2
  go_returns
  exact ret_int HR.out.symm hB
 have HCE:Hid (contactsE L C=ctTo L.length C C.length):=by show _=_;unfold contactsE;rw [if_neg (by simp [hE]),if_neg h96]
 have h64:=(bodiesE_zero hE).1
 rw [hE]
 clear hE
 go_wp2
 go_loopw [19] (fun i wr=>∃ k:Nat,k≤C.length∧i = .int .i64 k∧ctTo L.length C k=0∧Below w.heap.size w wr) (fun i _=>C.length-(intOf i).toNat)
 case atStart=>exact ⟨0,Nat.zero_le _,rfl,rfl,hB⟩
 case round =>
  clear hB
  obtain ⟨k,hk,rfl,hz,hB⟩:=hrel
  obtain ⟨wo,rfl⟩:∃ wo:World,wo=wr:=⟨_,rfl⟩
  by_cases hlt:k<C.length
  ·obtain ⟨ba, off, hA, hCC⟩ := (HSC.out _ hB).at_ (by intro h; subst h; simp at hlt)
   subst hA
   have HST:Hid (ctTo L.length C (k+1)=ctE L.length C[k]):=ctTo_succ hlt hz
   have HF0:Hid (¬ CtOk L.length C[k]→contactsE L C=1):=fun h=>by rw [HCE.out];exact ctTo_stop hlt (by rw [HST.out];unfold ctE;rw [if_neg h]) (by decide)
   obtain ⟨x,hx⟩:∃ x,x=C[k]:=⟨_,rfl⟩
   obtain ⟨d0,d1,d2,d3,d4,d5,d6,d7,d8,d9⟩:=cells_ct hCC hlt hx
   rw [← hx] at HST HF0
   have hbo:=hCC.lt
   have hlt':(k:Int)<(C.length:Int):=by omega
   have hkw:IntKind.i64.wrap ((k:Int)+1)=(k:Int)+1:=IntWalk.i64_in _ (by omega)
   have hn1:IntKind.i64.wrap ((L.length:Int)-1)=(L.length:Int)-1:=IntWalk.i64_in _ (by omega)
   have HF:=HF0
   clear hCC hx hz HF0
   obtain ⟨wj,hwj⟩:∃ wj,wj=wo.alloc (.cells #[.int .i64 x.a,.int .i64 x.b,.int .i64 x.id,.int .i64 x.px,.int .i64 x.py,.int .i64 x.nx,.int .i64 x.ny,.int .i64 x.dep,.int .i64 x.push,.int .i64 x.sli] 53):=⟨_,rfl⟩
   have hBw:Below w.heap.size w wj:=by rw [hwj];exact hB.alloc hB.size _
   have j0:wj.cell? ⟨wo.heap.size,0,none⟩=some (.int .i64 x.a):=by rw [hwj];go_simp
   have j1:wj.cell? ⟨wo.heap.size,1,none⟩=some (.int .i64 x.b):=by rw [hwj];go_simp
   have j2:wj.cell? ⟨wo.heap.size,2,none⟩=some (.int .i64 x.id):=by rw [hwj];go_simp
   have j3:wj.cell? ⟨wo.heap.size,3,none⟩=some (.int .i64 x.px):=by rw [hwj];go_simp
   have j4:wj.cell? ⟨wo.heap.size,4,none⟩=some (.int .i64 x.py):=by rw [hwj];go_simp
   have j5:wj.cell? ⟨wo.heap.size,5,none⟩=some (.int .i64 x.nx):=by rw [hwj];go_simp
   have j6:wj.cell? ⟨wo.heap.size,6,none⟩=some (.int .i64 x.ny):=by rw [hwj];go_simp
   have j7:wj.cell? ⟨wo.heap.size,7,none⟩=some (.int .i64 x.dep):=by rw [hwj];go_simp
   have j8:wj.cell? ⟨wo.heap.size,8,none⟩=some (.int .i64 x.push):=by rw [hwj];go_simp
   have j9:wj.cell? ⟨wo.heap.size,9,none⟩=some (.int .i64 x.sli):=by rw [hwj];go_simp
   go_upto_region 10 with fail
   rw [← hwj]
   clear hwj d0 d1 d2 d3 d4 d5 d6 d7 d8 d9 hbo hB
   have hB:=hBw
   clear hBw
   by_cases g0:inB x.a 0 ((L.length:Int)-1)=true
   case neg =>
    have H1:Hid (inB x.a 0 ((L.length:Int)-1)=false):=by show _=_;simpa using g0
    have HR:=hid (HF.out (by unfold CtOk;intro hc;exact g0 (inB_iff.2 (by omega))))
    clear HF
    have H2:Hid True:=trivial
    have H3:Hid True:=trivial
    have H4:Hid True:=trivial
    have H5:Hid True:=trivial
    have H6:Hid True:=trivial
    have H7:Hid True:=trivial
    have H8:Hid True:=trivial
    have H9:Hid True:=trivial
    go_wp2_with (first | (go_at_call 153;refine (cin_calls _ _ _ _).mono ?_;rintro e wn ⟨rfl,hb⟩;(try rw [H1.out]);(try rw [H2.out]);(try rw [H3.out]);(try rw [H4.out]);(try rw [H5.out]);(try rw [H6.out]);(try rw [H7.out]);(try rw [H8.out]);(try rw [H9.out]);replace hB:=keepBelow hb hB;replace j0:=keepCell hb j0;replace j1:=keepCell hb j1;replace j2:=keepCell hb j2;replace j3:=keepCell hb j3;replace j4:=keepCell hb j4;replace j5:=keepCell hb j5;replace j6:=keepCell hb j6;replace j7:=keepCell hb j7;replace j8:=keepCell hb j8;replace j9:=keepCell hb j9;clear hb))
    go_returns
    exact ret_int HR.out.symm hB
   have H1:Hid (inB x.a 0 ((L.length:Int)-1)=true):=g0
   rw [inB_iff] at g0
   by_cases g1:inB x.b 0 ((L.length:Int)-1)=true
   case neg =>
    have H2:Hid (inB x.b 0 ((L.length:Int)-1)=false):=by show _=_;simpa using g1
    have HR:=hid (HF.out (by unfold CtOk;intro hc;exact g1 (inB_iff.2 (by omega))))
    clear HF
    have H3:Hid True:=trivial
    have H4:Hid True:=trivial
    have H5:Hid True:=trivial
    have H6:Hid True:=trivial
    have H7:Hid True:=trivial
    have H8:Hid True:=trivial
    have H9:Hid True:=trivial
    go_wp2_with (first | (go_at_call 153;refine (cin_calls _ _ _ _).mono ?_;rintro e wn ⟨rfl,hb⟩;(try rw [H1.out]);(try rw [H2.out]);(try rw [H3.out]);(try rw [H4.out]);(try rw [H5.out]);(try rw [H6.out]);(try rw [H7.out]);(try rw [H8.out]);(try rw [H9.out]);replace hB:=keepBelow hb hB;replace j0:=keepCell hb j0;replace j1:=keepCell hb j1;replace j2:=keepCell hb j2;replace j3:=keepCell hb j3;replace j4:=keepCell hb j4;replace j5:=keepCell hb j5;replace j6:=keepCell hb j6;replace j7:=keepCell hb j7;replace j8:=keepCell hb j8;replace j9:=keepCell hb j9;clear hb))
    go_returns
    exact ret_int HR.out.symm hB
   have H2:Hid (inB x.b 0 ((L.length:Int)-1)=true):=g1
   rw [inB_iff] at g1
   by_cases g2:x.b≤x.a
   ·have HR := hid (HF.out (by unfold CtOk; omega))
    clear HF
    have H3:Hid True:=trivial
    have H4:Hid True:=trivial
    have H5:Hid True:=trivial
    have H6:Hid True:=trivial
    have H7:Hid True:=trivial
    have H8:Hid True:=trivial
    have H9:Hid True:=trivial
    go_wp2_with (first | (go_at_call 153;refine (cin_calls _ _ _ _).mono ?_;rintro e wn ⟨rfl,hb⟩;(try rw [H1.out]);(try rw [H2.out]);(try rw [H3.out]);(try rw [H4.out]);(try rw [H5.out]);(try rw [H6.out]);(try rw [H7.out]);(try rw [H8.out]);(try rw [H9.out]);replace hB:=keepBelow hb hB;replace j0:=keepCell hb j0;replace j1:=keepCell hb j1;replace j2:=keepCell hb j2;replace j3:=keepCell hb j3;replace j4:=keepCell hb j4;replace j5:=keepCell hb j5;replace j6:=keepCell hb j6;replace j7:=keepCell hb j7;replace j8:=keepCell hb j8;replace j9:=keepCell hb j9;clear hb))
    go_returns
    exact ret_int HR.out.symm hB
   by_cases g3:x.id<0
   ·have HR := hid (HF.out (by unfold CtOk; omega))
    clear HF
    have H3:Hid True:=trivial
    have H4:Hid True:=trivial
    have H5:Hid True:=trivial
    have H6:Hid True:=trivial
    have H7:Hid True:=trivial
    have H8:Hid True:=trivial
    have H9:Hid True:=trivial
    go_wp2_with (first | (go_at_call 153;refine (cin_calls _ _ _ _).mono ?_;rintro e wn ⟨rfl,hb⟩;(try rw [H1.out]);(try rw [H2.out]);(try rw [H3.out]);(try rw [H4.out]);(try rw [H5.out]);(try rw [H6.out]);(try rw [H7.out]);(try rw [H8.out]);(try rw [H9.out]);replace hB:=keepBelow hb hB;replace j0:=keepCell hb j0;replace j1:=keepCell hb j1;replace j2:=keepCell hb j2;replace j3:=keepCell hb j3;replace j4:=keepCell hb j4;replace j5:=keepCell hb j5;replace j6:=keepCell hb j6;replace j7:=keepCell hb j7;replace j8:=keepCell hb j8;replace j9:=keepCell hb j9;clear hb))
    go_returns
    exact ret_int HR.out.symm hB
   by_cases g4:inB x.px (-65536000) 65536000=true
   case neg =>
    have H3:Hid (inB x.px (-65536000) 65536000=false):=by show _=_;simpa using g4
    have HR:=hid (HF.out (by unfold CtOk;intro hc;exact g4 (inB_iff.2 (by omega))))
    clear HF
    have H4:Hid True:=trivial
    have H5:Hid True:=trivial
    have H6:Hid True:=trivial
    have H7:Hid True:=trivial
    have H8:Hid True:=trivial
    have H9:Hid True:=trivial
    go_wp2_with (first | (go_at_call 153;refine (cin_calls _ _ _ _).mono ?_;rintro e wn ⟨rfl,hb⟩;(try rw [H1.out]);(try rw [H2.out]);(try rw [H3.out]);(try rw [H4.out]);(try rw [H5.out]);(try rw [H6.out]);(try rw [H7.out]);(try rw [H8.out]);(try rw [H9.out]);replace hB:=keepBelow hb hB;replace j0:=keepCell hb j0;replace j1:=keepCell hb j1;replace j2:=keepCell hb j2;replace j3:=keepCell hb j3;replace j4:=keepCell hb j4;replace j5:=keepCell hb j5;replace j6:=keepCell hb j6;replace j7:=keepCell hb j7;replace j8:=keepCell hb j8;replace j9:=keepCell hb j9;clear hb))
    go_returns
    exact ret_int HR.out.symm hB
   have H3:Hid (inB x.px (-65536000) 65536000=true):=g4
   rw [inB_iff] at g4
   by_cases g5:inB x.py (-65536000) 65536000=true
   case neg =>
    have H4:Hid (inB x.py (-65536000) 65536000=false):=by show _=_;simpa using g5
    have HR:=hid (HF.out (by unfold CtOk;intro hc;exact g5 (inB_iff.2 (by omega))))
    clear HF
    have H5:Hid True:=trivial
    have H6:Hid True:=trivial
    have H7:Hid True:=trivial
    have H8:Hid True:=trivial
    have H9:Hid True:=trivial
    go_wp2_with (first | (go_at_call 153;refine (cin_calls _ _ _ _).mono ?_;rintro e wn ⟨rfl,hb⟩;(try rw [H1.out]);(try rw [H2.out]);(try rw [H3.out]);(try rw [H4.out]);(try rw [H5.out]);(try rw [H6.out]);(try rw [H7.out]);(try rw [H8.out]);(try rw [H9.out]);replace hB:=keepBelow hb hB;replace j0:=keepCell hb j0;replace j1:=keepCell hb j1;replace j2:=keepCell hb j2;replace j3:=keepCell hb j3;replace j4:=keepCell hb j4;replace j5:=keepCell hb j5;replace j6:=keepCell hb j6;replace j7:=keepCell hb j7;replace j8:=keepCell hb j8;replace j9:=keepCell hb j9;clear hb))
    go_returns
    exact ret_int HR.out.symm hB
   have H4:Hid (inB x.py (-65536000) 65536000=true):=g5
   rw [inB_iff] at g5
   by_cases g6:inB x.nx (-65536) 65536=true
   case neg =>
    have H5:Hid (inB x.nx (-65536) 65536=false):=by show _=_;simpa using g6
    have HR:=hid (HF.out (by unfold CtOk;intro hc;exact g6 (inB_iff.2 (by omega))))
    clear HF
    have H6:Hid True:=trivial
    have H7:Hid True:=trivial
    have H8:Hid True:=trivial
    have H9:Hid True:=trivial
    go_wp2_with (first | (go_at_call 153;refine (cin_calls _ _ _ _).mono ?_;rintro e wn ⟨rfl,hb⟩;(try rw [H1.out]);(try rw [H2.out]);(try rw [H3.out]);(try rw [H4.out]);(try rw [H5.out]);(try rw [H6.out]);(try rw [H7.out]);(try rw [H8.out]);(try rw [H9.out]);replace hB:=keepBelow hb hB;replace j0:=keepCell hb j0;replace j1:=keepCell hb j1;replace j2:=keepCell hb j2;replace j3:=keepCell hb j3;replace j4:=keepCell hb j4;replace j5:=keepCell hb j5;replace j6:=keepCell hb j6;replace j7:=keepCell hb j7;replace j8:=keepCell hb j8;replace j9:=keepCell hb j9;clear hb))
    go_returns
    exact ret_int HR.out.symm hB
   have H5:Hid (inB x.nx (-65536) 65536=true):=g6
   rw [inB_iff] at g6
   by_cases g7:inB x.ny (-65536) 65536=true
   case neg =>
    have H6:Hid (inB x.ny (-65536) 65536=false):=by show _=_;simpa using g7
    have HR:=hid (HF.out (by unfold CtOk;intro hc;exact g7 (inB_iff.2 (by omega))))
    clear HF
    have H7:Hid True:=trivial
    have H8:Hid True:=trivial
    have H9:Hid True:=trivial
    go_wp2_with (first | (go_at_call 153;refine (cin_calls _ _ _ _).mono ?_;rintro e wn ⟨rfl,hb⟩;(try rw [H1.out]);(try rw [H2.out]);(try rw [H3.out]);(try rw [H4.out]);(try rw [H5.out]);(try rw [H6.out]);(try rw [H7.out]);(try rw [H8.out]);(try rw [H9.out]);replace hB:=keepBelow hb hB;replace j0:=keepCell hb j0;replace j1:=keepCell hb j1;replace j2:=keepCell hb j2;replace j3:=keepCell hb j3;replace j4:=keepCell hb j4;replace j5:=keepCell hb j5;replace j6:=keepCell hb j6;replace j7:=keepCell hb j7;replace j8:=keepCell hb j8;replace j9:=keepCell hb j9;clear hb))
    go_returns
    exact ret_int HR.out.symm hB
   have H6:Hid (inB x.ny (-65536) 65536=true):=g7
   rw [inB_iff] at g7
   by_cases g8:inB x.dep 0 65536000=true
   case neg =>
    have H7:Hid (inB x.dep 0 65536000=false):=by show _=_;simpa using g8
    have HR:=hid (HF.out (by unfold CtOk;intro hc;exact g8 (inB_iff.2 (by omega))))
    clear HF
    have H8:Hid True:=trivial
    have H9:Hid True:=trivial
    go_wp2_with (first | (go_at_call 153;refine (cin_calls _ _ _ _).mono ?_;rintro e wn ⟨rfl,hb⟩;(try rw [H1.out]);(try rw [H2.out]);(try rw [H3.out]);(try rw [H4.out]);(try rw [H5.out]);(try rw [H6.out]);(try rw [H7.out]);(try rw [H8.out]);(try rw [H9.out]);replace hB:=keepBelow hb hB;replace j0:=keepCell hb j0;replace j1:=keepCell hb j1;replace j2:=keepCell hb j2;replace j3:=keepCell hb j3;replace j4:=keepCell hb j4;replace j5:=keepCell hb j5;replace j6:=keepCell hb j6;replace j7:=keepCell hb j7;replace j8:=keepCell hb j8;replace j9:=keepCell hb j9;clear hb))
    go_returns
    exact ret_int HR.out.symm hB
   have H7:Hid (inB x.dep 0 65536000=true):=g8
   rw [inB_iff] at g8
   by_cases g9:inB x.push 0 1099511627776=true
   case neg =>
    have H8:Hid (inB x.push 0 1099511627776=false):=by show _=_;simpa using g9
    have HR:=hid (HF.out (by unfold CtOk;intro hc;exact g9 (inB_iff.2 (by omega))))
    clear HF
    have H9:Hid True:=trivial
    go_wp2_with (first | (go_at_call 153;refine (cin_calls _ _ _ _).mono ?_;rintro e wn ⟨rfl,hb⟩;(try rw [H1.out]);(try rw [H2.out]);(try rw [H3.out]);(try rw [H4.out]);(try rw [H5.out]);(try rw [H6.out]);(try rw [H7.out]);(try rw [H8.out]);(try rw [H9.out]);replace hB:=keepBelow hb hB;replace j0:=keepCell hb j0;replace j1:=keepCell hb j1;replace j2:=keepCell hb j2;replace j3:=keepCell hb j3;replace j4:=keepCell hb j4;replace j5:=keepCell hb j5;replace j6:=keepCell hb j6;replace j7:=keepCell hb j7;replace j8:=keepCell hb j8;replace j9:=keepCell hb j9;clear hb))
    go_returns
    exact ret_int HR.out.symm hB
   have H8:Hid (inB x.push 0 1099511627776=true):=g9
   rw [inB_iff] at g9
   by_cases g10:inB x.sli (-1099511627776) 1099511627776=true
   case neg =>
    have H9:Hid (inB x.sli (-1099511627776) 1099511627776=false):=by show _=_;simpa using g10
    have HR:=hid (HF.out (by unfold CtOk;intro hc;exact g10 (inB_iff.2 (by omega))))
    clear HF
    go_wp2_with (first | (go_at_call 153;refine (cin_calls _ _ _ _).mono ?_;rintro e wn ⟨rfl,hb⟩;(try rw [H1.out]);(try rw [H2.out]);(try rw [H3.out]);(try rw [H4.out]);(try rw [H5.out]);(try rw [H6.out]);(try rw [H7.out]);(try rw [H8.out]);(try rw [H9.out]);replace hB:=keepBelow hb hB;replace j0:=keepCell hb j0;replace j1:=keepCell hb j1;replace j2:=keepCell hb j2;replace j3:=keepCell hb j3;replace j4:=keepCell hb j4;replace j5:=keepCell hb j5;replace j6:=keepCell hb j6;replace j7:=keepCell hb j7;replace j8:=keepCell hb j8;replace j9:=keepCell hb j9;clear hb))
    go_returns
    exact ret_int HR.out.symm hB
   have H9:Hid (inB x.sli (-1099511627776) 1099511627776=true):=g10
   rw [inB_iff] at g10
   have HOK:Hid (ctE L.length x=0):=by show _=_;unfold ctE;rw [if_pos (by unfold CtOk;omega)]
   clear HF
   go_wp2_with (first | (go_at_call 153;refine (cin_calls _ _ _ _).mono ?_;rintro e wn ⟨rfl,hb⟩;(try rw [H1.out]);(try rw [H2.out]);(try rw [H3.out]);(try rw [H4.out]);(try rw [H5.out]);(try rw [H6.out]);(try rw [H7.out]);(try rw [H8.out]);(try rw [H9.out]);replace hB:=keepBelow hb hB;replace j0:=keepCell hb j0;replace j1:=keepCell hb j1;replace j2:=keepCell hb j2;replace j3:=keepCell hb j3;replace j4:=keepCell hb j4;replace j5:=keepCell hb j5;replace j6:=keepCell hb j6;replace j7:=keepCell hb j7;replace j8:=keepCell hb j8;replace j9:=keepCell hb j9;clear hb))
   go_roundw
   case rel=>exact ⟨k+1,by omega,by go_num,by rw [HST.out,HOK.out],hB⟩
   case measure=>simp [intOf] <;> omega
  ·have hkn : k = C.length := by omega
   subst hkn
   have HR:Hid (contactsE L C=0):=by show _=_;rw [HCE.out];exact hz
   clear hz
   go_wp2
   go_returns
   exact ret_int HR.out.symm hB
end
end Go.Proofs.YtodpincpofoiiaaGreat
