/- Parts of a proof: contracts and laws. -/
import Derived.Test.YtodpincpofoiiaaGreatQC11
import Derived.Test.YtodpincpofoiiaaGreatQC03
import Derived.BigQuiet
set_option maxRecDepth 100000
set_option maxHeartbeats 16000000
namespace Go.Proofs.YtodpincpofoiiaaGreat
section
set_option linter.unusedVariables false
set_option linter.unusedSimpArgs false
open Go.RowKit

def faultTo (f : Nat → Int) : Nat → Int
 | 0=>0
 | k+1=>if faultTo f k≠0 then faultTo f k else f k
theorem faultTo_stop (f : Nat → Int) {k : Nat} (h : faultTo f (k + 1) ≠ 0) : ∀ {m : Nat}, k < m → faultTo f m = faultTo f (k + 1)
 | 0,g=>by omega
 | m+1,g=>by
  rcases Nat.lt_or_ge k m with q | q
  ·have := faultTo_stop f h (m := m) q
   rw [show faultTo f (m+1)=if faultTo f m≠0 then faultTo f m else f m from rfl,if_pos (by rw [this];exact h),this]
  ·rw [show m=k by omega]
theorem faultTo_zero {f : Nat → Int} : ∀ {m : Nat}, faultTo f m = 0 → ∀ k, k < m → f k = 0
 | 0,_,k,h=>by omega
 | m+1,hz,k,h=>by
  have hz:(if faultTo f m≠0 then faultTo f m else f m)=0:=hz
  by_cases h0:faultTo f m=0
  ·rw [if_neg (by simp [h0])] at hz
   rcases Nat.lt_or_ge k m with g | g
   ·exact faultTo_zero h0 k g
   ·rw [show k=m by omega];exact hz
  ·rw [if_pos h0] at hz;exact absurd hz h0
def massAt (L:List BE) (i:Int):Int:=match L[i.toNat]? with | some x=>x.b.mass | none=>0
def jtBad (n:Nat) (x:Jt):Bool:=decide (x.a<0) || (decide ((n:Int)≤x.b) || (decide (x.b≤x.a) || (!withinB 2097152 x.p1 x.p2 || (!withinB 2097152 x.q1 x.q2 || (decide (x.len<0) || decide (65536000<x.len))))))
def jtE (L:List BE) (x:Jt):Int:=if jtBad L.length x=true then 1 else if massAt L x.a=0∧massAt L x.b=0 then 3 else 0
theorem jtE_bad {L:List BE} {x:Jt} (h:jtBad L.length x=true):jtE L x=1:=by unfold jtE;rw [if_pos h]
def jtTo (L:List BE) (J:List Jt) (k:Nat):Int:=faultTo (fun i=>match J[i]? with | some x=>jtE L x | none=>0) k
def jointsE (L:List BE) (J:List Jt):Int:=if bodiesE L≠0 then bodiesE L else if 32<J.length then 2 else jtTo L J J.length
theorem jtTo_succ {L:List BE} {J:List Jt} {k:Nat} (hk:k<J.length) (hz:jtTo L J k=0):jtTo L J (k+1)=jtE L J[k]:=by
 have e:jtTo L J (k+1)=if jtTo L J k≠0 then jtTo L J k else match J[k]? with | some x=>jtE L x | none=>0:=rfl
 rw [e,if_neg (by simp [hz]),List.getElem?_eq_getElem hk]
theorem jtTo_stop {L:List BE} {J:List Jt} {k:Nat} {e:Int} (hk:k<J.length) (h:jtTo L J (k+1)=e) (he:e≠0):jtTo L J J.length=e:=by
 rw [← h]
 exact faultTo_stop _ (by have h2:faultTo _ (k+1)=e:=h;rw [h2];exact he) hk
theorem jointsE_zero {L:List BE} {J:List Jt} (h:jointsE L J=0):bodiesE L=0∧J.length≤32∧∀ x ∈ J,jtE L x=0:=by
 unfold jointsE at h
 by_cases h0:bodiesE L=0
 ·rw [if_neg (by simp [h0])] at h
  by_cases h1:32<J.length
  ·rw [if_pos h1] at h;cases h
  ·rw [if_neg h1] at h
   refine ⟨h0,by omega,fun x hx=>?_⟩
   obtain ⟨k,hk,rfl⟩:=List.getElem_of_mem hx
   have:=faultTo_zero h k hk
   simpa [hk] using this
 ·rw [if_pos h0] at h;exact absurd h h0
theorem jtE_zero {L:List BE} {x:Jt} (h:jtE L x=0):(0≤x.a∧x.a<x.b∧x.b<(L.length:Int))∧withinB 2097152 x.p1 x.p2=true∧withinB 2097152 x.q1 x.q2=true∧(0≤x.len∧x.len≤65536000)∧¬ (massAt L x.a=0∧massAt L x.b=0):=by
 unfold jtE at h
 by_cases hb:jtBad L.length x=true
 ·rw [if_pos hb] at h;cases h
 ·rw [if_neg hb] at h
  have hb2:jtBad L.length x=false:=by simpa using hb
  simp only [jtBad,Bool.or_eq_false_iff,decide_eq_false_iff_not,Bool.not_eq_false'] at hb2
  obtain ⟨h1,h2,h3,h4,h5,h6,h7⟩:=hb2
  refine ⟨by omega,h4,h5,by omega,fun hm=>?_⟩
  rw [if_pos hm] at h;cases h
theorem jwithin_calls (a b:Int) (w:World):Calls Tryz.prog 154 #[vecV a b] w (Ret (.bool (withinB 2097152 a b)) w):=by
 obtain ⟨M,hM⟩:∃ M,M=max a b:=⟨_,rfl⟩
 obtain ⟨m,hm⟩:∃ m,m=min a b:=⟨_,rfl⟩
 have HW:Hid (withinB 2097152 a b=(decide (M≤2097152) && decide (-2097152≤m))):=by
  show _=_
  rw [Bool.eq_iff_iff,withinB_iff]
  simp
  omega
 have hr1:∀ (ts:Array TypeId) (t:TypeId) (w:World),(Builtin.max_ ts t #[.int .i64 a,.int .i64 b]).run Tryz.prog w = .ok (.int .i64 M) w:=fun ts t w=>by
  rw [run_max_int2]
  have:(if b > a then b else a)=M:=by split <;> omega
  rw [this]
 have hr2:∀ (ts:Array TypeId) (t:TypeId) (w:World),(Builtin.min_ ts t #[.int .i64 a,.int .i64 b]).run Tryz.prog w = .ok (.int .i64 m) w:=fun ts t w=>by
  rw [run_min_int2]
  have:(if b<a then b else a)=m:=by split <;> omega
  rw [this]
 clear hM hm
 generalize withinB 2097152 a b=R at *
 go_enter Tryz.func154,Tryz.ntmps154
 by_cases h1 : -2097152≤m
 ·by_cases h2 : M ≤ 2097152
  ·have HR : Hid (R = true) := by show _ = _; rw [HW.out]; simp [h1, h2]
   clear HW
   go_wp2
   go_returns
   exact ret_bool (by rw [HR.out];try simp [*]) (by go_grown)
  ·have HR : Hid (R = false) := by show _ = _; rw [HW.out]; simp [h1, h2]
   clear HW
   go_wp2
   go_returns
   exact ret_bool (by rw [HR.out];try simp [*]) (by go_grown)
 ·have HR : Hid (R = false) := by show _ = _; rw [HW.out]; simp [h1]
  clear HW
  go_wp2
  go_returns
  exact ret_bool (by rw [HR.out];try simp [*]) (by go_grown)
theorem jcheck_calls (A B:Option Addr) (n c n' c':Nat) (L:List BE) (J:List Jt) (w:World) (hS:SlB w A n c L) (hJ:SlE layJ w B n' c' J) :
  Calls Tryz.prog 71 #[.slice A n c,.slice B n' c'] w (Ret (.int .i64 (jointsE L J)) w):=by
 have hn:=hS.sl.len
 have hcap:=hS.sl.cap
 have hbig:=hS.sl.big
 have hn':=hJ.len
 have hcap':=hJ.cap
 have hbig':=hJ.big
 subst hn hn'
 have HSL:=hid (fun (w':World) (hb:Below w.heap.size w w')=>hS.below hb)
 have HSJ:=hid (fun (w':World) (hb:Below w.heap.size w w')=>hJ.below hb)
 have HCK:=hid (kcheck_calls A L.length c L w hS)
 clear hS hJ
 go_enter Tryz.func71,Tryz.ntmps71
 go_wp2_with fail
 refine HCK.out.mono ?_
 rintro e w1 ⟨rfl,hB⟩
 clear HCK
 by_cases hE:bodiesE L=0
 case neg =>
  have HR:Hid (jointsE L J=bodiesE L):=by show _=_;unfold jointsE;rw [if_pos hE]
  have hne:(bodiesE L != 0)=true:=by simp [hE]
  generalize bodiesE L=z at *
  go_wp2
  go_returns
  exact ret_int HR.out.symm hB
 obtain ⟨h64,hval⟩:=bodiesE_zero hE
 have HV:=hid hval
 by_cases h32:32<J.length
 ·have HR : Hid (jointsE L J = 2) := by show _ = _; unfold jointsE; rw [if_neg (by simp [hE]), if_pos h32]
  rw [hE]
  clear hE hval
  go_wp2
  go_returns
  exact ret_int HR.out.symm hB
 have HJ:Hid (jointsE L J=jtTo L J J.length):=by show _=_;unfold jointsE;rw [if_neg (by simp [hE]),if_neg h32]
 rw [hE]
 clear hE hval
 go_wp2
 go_loopw [19] (fun i wr=>∃ k:Nat,k≤J.length∧i = .int .i64 k∧jtTo L J k=0∧Below w.heap.size w wr) (fun i _=>J.length-(intOf i).toNat)
 case atStart=>exact ⟨0,Nat.zero_le _,rfl,rfl,hB⟩
 case round =>
  clear hB
  obtain ⟨k,hk,rfl,hz,hB⟩:=hrel
  obtain ⟨wo,rfl⟩:∃ wo:World,wo=wr:=⟨_,rfl⟩
  by_cases hlt:k<J.length
  ·obtain ⟨ba, off, hA, hC⟩ := (HSJ.out _ hB).at_ (by intro h; subst h; simp at hlt)
   subst hA
   have HST:Hid (jtTo L J (k+1)=jtE L J[k]):=jtTo_succ hlt hz
   have HF:Hid (∀ e,e≠0→jtE L J[k]=e→jointsE L J=e):=fun e he h=>by rw [HJ.out];exact jtTo_stop hlt (by rw [HST.out,h]) he
   obtain ⟨x,hx⟩:∃ x,x=J[k]:=⟨_,rfl⟩
   obtain ⟨d0,d1,d2,d3,d4,d5,d6⟩:=cells_jt hC hlt hx
   rw [← hx] at HST HF
   have hbo:=hC.lt
   have hlt':(k:Int)<(J.length:Int):=by omega
   have hkw:IntKind.i64.wrap ((k:Int)+1)=(k:Int)+1:=IntWalk.i64_in _ (by omega)
   clear hC hx hz
   obtain ⟨a,b,p1,p2,q1,q2,ln⟩:=x
   simp only at d0 d1 d2 d3 d4 d5 d6
   obtain ⟨wj,hwj⟩:∃ wj,wj=wo.alloc (.cells #[.int .i64 a,.int .i64 b,.int .i64 p1,.int .i64 p2,.int .i64 q1,.int .i64 q2,.int .i64 ln] 37):=⟨_,rfl⟩
   have hBw:Below w.heap.size w wj:=by rw [hwj];exact hB.alloc hB.size _
   have j0:wj.cell? ⟨wo.heap.size,0,none⟩=some (.int .i64 a):=by rw [hwj];go_simp
   have j1:wj.cell? ⟨wo.heap.size,1,none⟩=some (.int .i64 b):=by rw [hwj];go_simp
   have j2:wj.cell? ⟨wo.heap.size,2,none⟩=some (.int .i64 p1):=by rw [hwj];go_simp
   have j3:wj.cell? ⟨wo.heap.size,3,none⟩=some (.int .i64 p2):=by rw [hwj];go_simp
   have j4:wj.cell? ⟨wo.heap.size,4,none⟩=some (.int .i64 q1):=by rw [hwj];go_simp
   have j5:wj.cell? ⟨wo.heap.size,5,none⟩=some (.int .i64 q2):=by rw [hwj];go_simp
   have j6:wj.cell? ⟨wo.heap.size,6,none⟩=some (.int .i64 ln):=by rw [hwj];go_simp
   have HP0:Hid True:=trivial
   have HQ0:Hid True:=trivial
   have hwl:wo.heap.size<wj.heap.size:=lt_of_cell j0
   go_upto_region 10 with fail
   rw [← hwj]
   clear hwj d0 d1 d2 d3 d4 d5 d6 hbo hB
   have hB:=hBw
   clear hBw
   by_cases c1:a<0
   ·have HR := hid (HF.out 1 (by omega) (jtE_bad (by simp [jtBad, c1])))
    clear HF HP0 HQ0
    go_wp2_with (first | (go_at_call 154;refine (jwithin_calls _ _ _).mono ?_;rintro e wn ⟨rfl,hb⟩;(try rw [HP.out]);(try rw [HQ.out]);replace hB:=keepBelow hb hB;replace j0:=keepCell hb j0;replace j1:=keepCell hb j1;replace j2:=keepCell hb j2;replace j3:=keepCell hb j3;replace j4:=keepCell hb j4;replace j5:=keepCell hb j5;replace j6:=keepCell hb j6;clear hb))
    go_returns
    exact ret_int HR.out.symm hB
   by_cases c2:(L.length:Int)≤b
   ·have HR := hid (HF.out 1 (by omega) (jtE_bad (by simp [jtBad, c2])))
    clear HF HP0 HQ0
    go_wp2_with (first | (go_at_call 154;refine (jwithin_calls _ _ _).mono ?_;rintro e wn ⟨rfl,hb⟩;(try rw [HP.out]);(try rw [HQ.out]);replace hB:=keepBelow hb hB;replace j0:=keepCell hb j0;replace j1:=keepCell hb j1;replace j2:=keepCell hb j2;replace j3:=keepCell hb j3;replace j4:=keepCell hb j4;replace j5:=keepCell hb j5;replace j6:=keepCell hb j6;clear hb))
    go_returns
    exact ret_int HR.out.symm hB
   by_cases c3:b≤a
   ·have HR := hid (HF.out 1 (by omega) (jtE_bad (by simp [jtBad, c3])))
    clear HF HP0 HQ0
    go_wp2_with (first | (go_at_call 154;refine (jwithin_calls _ _ _).mono ?_;rintro e wn ⟨rfl,hb⟩;(try rw [HP.out]);(try rw [HQ.out]);replace hB:=keepBelow hb hB;replace j0:=keepCell hb j0;replace j1:=keepCell hb j1;replace j2:=keepCell hb j2;replace j3:=keepCell hb j3;replace j4:=keepCell hb j4;replace j5:=keepCell hb j5;replace j6:=keepCell hb j6;clear hb))
    go_returns
    exact ret_int HR.out.symm hB
   cases hp:withinB 2097152 p1 p2 with
   | false =>
    have HP:Hid (withinB 2097152 p1 p2=false):=hp
    have HQ:Hid True:=trivial
    have HR:=hid (HF.out 1 (by omega) (jtE_bad (by simp [jtBad,hp])))
    clear HF HP0 HQ0
    go_wp2_with (first | (go_at_call 154;refine (jwithin_calls _ _ _).mono ?_;rintro e wn ⟨rfl,hb⟩;(try rw [HP.out]);(try rw [HQ.out]);replace hB:=keepBelow hb hB;replace j0:=keepCell hb j0;replace j1:=keepCell hb j1;replace j2:=keepCell hb j2;replace j3:=keepCell hb j3;replace j4:=keepCell hb j4;replace j5:=keepCell hb j5;replace j6:=keepCell hb j6;clear hb))
    go_returns
    exact ret_int HR.out.symm hB
   | true =>
   have HP:Hid (withinB 2097152 p1 p2=true):=hp
   cases hq:withinB 2097152 q1 q2 with
   | false =>
    have HQ:Hid (withinB 2097152 q1 q2=false):=hq
    have HR:=hid (HF.out 1 (by omega) (jtE_bad (by simp [jtBad,hq])))
    clear HF HP0 HQ0
    go_wp2_with (first | (go_at_call 154;refine (jwithin_calls _ _ _).mono ?_;rintro e wn ⟨rfl,hb⟩;(try rw [HP.out]);(try rw [HQ.out]);replace hB:=keepBelow hb hB;replace j0:=keepCell hb j0;replace j1:=keepCell hb j1;replace j2:=keepCell hb j2;replace j3:=keepCell hb j3;replace j4:=keepCell hb j4;replace j5:=keepCell hb j5;replace j6:=keepCell hb j6;clear hb))
    go_returns
    exact ret_int HR.out.symm hB
   | true =>
   have HQ:Hid (withinB 2097152 q1 q2=true):=hq
   by_cases c4:ln<0
   ·have HR := hid (HF.out 1 (by omega) (jtE_bad (by simp [jtBad, c4])))
    clear HF HP0 HQ0
    go_wp2_with (first | (go_at_call 154;refine (jwithin_calls _ _ _).mono ?_;rintro e wn ⟨rfl,hb⟩;(try rw [HP.out]);(try rw [HQ.out]);replace hB:=keepBelow hb hB;replace j0:=keepCell hb j0;replace j1:=keepCell hb j1;replace j2:=keepCell hb j2;replace j3:=keepCell hb j3;replace j4:=keepCell hb j4;replace j5:=keepCell hb j5;replace j6:=keepCell hb j6;clear hb))
    go_returns
    exact ret_int HR.out.symm hB
   by_cases c5:65536000<ln
   ·have HR := hid (HF.out 1 (by omega) (jtE_bad (by simp [jtBad, c5])))
    clear HF HP0 HQ0
    go_wp2_with (first | (go_at_call 154;refine (jwithin_calls _ _ _).mono ?_;rintro e wn ⟨rfl,hb⟩;(try rw [HP.out]);(try rw [HQ.out]);replace hB:=keepBelow hb hB;replace j0:=keepCell hb j0;replace j1:=keepCell hb j1;replace j2:=keepCell hb j2;replace j3:=keepCell hb j3;replace j4:=keepCell hb j4;replace j5:=keepCell hb j5;replace j6:=keepCell hb j6;clear hb))
    go_returns
    exact ret_int HR.out.symm hB
   have HNB:Hid (jtBad L.length ⟨a,b,p1,p2,q1,q2,ln⟩=false):=by show _=_;simp [jtBad,hp,hq];omega
   obtain ⟨ka,rfl⟩:∃ ka:Nat,a=ka:=⟨a.toNat,by omega⟩
   obtain ⟨kb,rfl⟩:∃ kb:Nat,b=kb:=⟨b.toNat,by omega⟩
   have hka:ka<L.length:=by omega
   have hkb:kb<L.length:=by omega
   obtain ⟨bL,oL,hAL,hCL⟩:=(HSL.out _ hB).sl.at_ (by intro h;subst h;simp at hka)
   subst hAL
   obtain ⟨xa,hxa⟩:∃ x,x=L[ka]:=⟨_,rfl⟩
   obtain ⟨xb,hxb⟩:∃ x,x=L[kb]:=⟨_,rfl⟩
   have ma:=(cells_bd hCL hka hxa).2.2.2.2.2.2.1
   have mb:=(cells_bd hCL hkb hxb).2.2.2.2.2.2.1
   have hbL:=hCL.lt
   have mva:=numE_zero (bodyE_zero (HV.out xa (by rw [hxa];exact List.getElem_mem hka))).2
   have mvb:=numE_zero (bodyE_zero (HV.out xb (by rw [hxb];exact List.getElem_mem hkb))).2
   obtain ⟨na,na'⟩:=mva.2.2.2.2.1
   obtain ⟨nb,nb'⟩:=mvb.2.2.2.2.1
   have hac:(ka:Int)<(L.length:Int):=by omega
   have hbc:(kb:Int)<(L.length:Int):=by omega
   have h0a:0≤(ka:Int):=by omega
   have h0b:0≤(kb:Int):=by omega
   have HJE:Hid (jtE L ⟨(ka:Int),(kb:Int),p1,p2,q1,q2,ln⟩=if xa.b.mass=0∧xb.b.mass=0 then 3 else 0):=by show _=_;unfold jtE;rw [if_neg (by rw [HNB.out];simp)];simp [massAt,hka,hkb,hxa,hxb]
   have KM:Hid (∀ w1 w2:World,Below w1.heap.size w1 w2→w1.cell? ⟨bL,oL+ka*13+6,none⟩=some (.int .i64 xa.b.mass)∧w1.cell? ⟨bL,oL+kb*13+6,none⟩=some (.int .i64 xb.b.mass)→w2.cell? ⟨bL,oL+ka*13+6,none⟩=some (.int .i64 xa.b.mass)∧w2.cell? ⟨bL,oL+kb*13+6,none⟩=some (.int .i64 xb.b.mass)):=fun w1 w2 hb h=>⟨keepCell hb h.1,keepCell hb h.2⟩
   clear hCL hxa hxb mva mvb HNB HP0 HQ0
   by_cases c6:xa.b.mass=0
   ·by_cases c7 : xb.b.mass = 0
    ·have HR := hid (HF.out 3 (by omega) (by rw [HJE.out, if_pos ⟨c6, c7⟩]))
     clear HF HJE
     go_wp2_with (first | (go_at_call 154;refine (jwithin_calls _ _ _).mono ?_;rintro e wn ⟨rfl,hb⟩;(try rw [HP.out]);(try rw [HQ.out]);replace hB:=keepBelow hb hB;replace j0:=keepCell hb j0;replace j1:=keepCell hb j1;replace j2:=keepCell hb j2;replace j3:=keepCell hb j3;replace j4:=keepCell hb j4;replace j5:=keepCell hb j5;replace j6:=keepCell hb j6;replace ma:=keepCell hb ma;replace mb:=keepCell hb mb;replace hbL:=Nat.lt_of_lt_of_le hbL hb.size;clear hb))
     go_returns
     exact ret_int HR.out.symm hB
    ·have HC : Hid (¬ (xa.b.mass = 0 ∧ xb.b.mass = 0)) := fun h => c7 h.2
     go_wp2_with (first | (go_at_call 154;refine (jwithin_calls _ _ _).mono ?_;rintro e wn ⟨rfl,hb⟩;(try rw [HP.out]);(try rw [HQ.out]);replace hB:=keepBelow hb hB;replace j0:=keepCell hb j0;replace j1:=keepCell hb j1;replace j2:=keepCell hb j2;replace j3:=keepCell hb j3;replace j4:=keepCell hb j4;replace j5:=keepCell hb j5;replace j6:=keepCell hb j6;replace ma:=keepCell hb ma;replace mb:=keepCell hb mb;replace hbL:=Nat.lt_of_lt_of_le hbL hb.size;clear hb))
     go_roundw
     case rel=>exact ⟨k+1,by omega,by go_num,by rw [HST.out,HJE.out,if_neg HC.out],hB⟩
     case measure=>simp [intOf] <;> omega
   ·have HC : Hid (¬ (xa.b.mass = 0 ∧ xb.b.mass = 0)) := fun h => c6 h.1
    go_wp2_with (first | (go_at_call 154;refine (jwithin_calls _ _ _).mono ?_;rintro e wn ⟨rfl,hb⟩;(try rw [HP.out]);(try rw [HQ.out]);replace hB:=keepBelow hb hB;replace j0:=keepCell hb j0;replace j1:=keepCell hb j1;replace j2:=keepCell hb j2;replace j3:=keepCell hb j3;replace j4:=keepCell hb j4;replace j5:=keepCell hb j5;replace j6:=keepCell hb j6;replace ma:=keepCell hb ma;replace mb:=keepCell hb mb;replace hbL:=Nat.lt_of_lt_of_le hbL hb.size;clear hb))
    go_roundw
    case rel=>exact ⟨k+1,by omega,by go_num,by rw [HST.out,HJE.out,if_neg HC.out],hB⟩
    case measure=>simp [intOf] <;> omega
  ·have hkn : k = J.length := by omega
   subst hkn
   have HR:Hid (jointsE L J=0):=by show _=_;rw [HJ.out];exact hz
   clear hz
   go_wp2
   go_returns
   exact ret_int HR.out.symm hB
end
end Go.Proofs.YtodpincpofoiiaaGreat
