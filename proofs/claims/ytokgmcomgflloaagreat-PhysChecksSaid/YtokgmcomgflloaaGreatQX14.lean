/- Parts of a proof: contracts and laws. -/
import Derived.Test.YtokgmcomgflloaaGreatQX13
import Derived.Test.YtokgmcomgflloaaGreatQX10
import Derived.Test.YtokgmcomgflloaaGreatQX04
set_option maxRecDepth 100000
set_option maxHeartbeats 16000000
namespace Go.Proofs.YtokgmcomgflloaaGreat
section
set_option linter.unusedVariables false
set_option linter.unusedSimpArgs false
open Go.RowKit

def dR (f : Nat → Int) : Nat → Int
 | 0=>0
 | k+1=>if dR f k≠0 then dR f k else f k
theorem kr (f : Nat → Int) {k : Nat} (h : dR f (k + 1) ≠ 0) : ∀ {m : Nat}, k < m → dR f m = dR f (k + 1)
 | 0,g=>by omega
 | m+1,g=>by
  rcases Nat.lt_or_ge k m with q | q
  ·have := kr f h (m := m) q
   rw [show dR f (m+1)=if dR f m≠0 then dR f m else f m from rfl,if_pos (by rw [this];exact h),this]
  ·rw [show m=k by omega]
theorem kg {f : Nat → Int} : ∀ {m : Nat}, dR f m = 0 → ∀ k, k < m → f k = 0
 | 0,_,k,h=>by omega
 | m+1,hz,k,h=>by
  have hz:(if dR f m≠0 then dR f m else f m)=0:=hz
  by_cases h0:dR f m=0
  ·rw [if_neg (by simp [h0])] at hz
   rcases Nat.lt_or_ge k m with g | g
   ·exact kg h0 k g
   ·rw [show k=m by omega];exact hz
  ·rw [if_pos h0] at hz;exact absurd hz h0
def oC (L:List BE) (i:Int):Int:=match L[i.toNat]? with | some x=>x.b.mass | none=>0
def fH (n:Nat) (x:Jt):Bool:=decide (x.a<0) || (decide ((n:Int)≤x.b) || (decide (x.b≤x.a) || (!aB 2097152 x.p1 x.p2 || (!aB 2097152 x.q1 x.q2 || (decide (x.len<0) || decide (65536000<x.len))))))
def yQ (L:List BE) (x:Jt):Int:=if fH L.length x=true then 1 else if oC L x.a=0∧oC L x.b=0 then 3 else 0
theorem fF {L:List BE} {x:Jt} (h:fH L.length x=true):yQ L x=1:=by unfold yQ;rw [if_pos h]
def lV (L:List BE) (J:List Jt) (k:Nat):Int:=dR (fun i=>match J[i]? with | some x=>yQ L x | none=>0) k
def aQ (L:List BE) (J:List Jt):Int:=if aG L≠0 then aG L else if 32<J.length then 2 else lV L J J.length
theorem tT {L:List BE} {J:List Jt} {k:Nat} (hk:k<J.length) (hz:lV L J k=0):lV L J (k+1)=yQ L J[k]:=by
 have e:lV L J (k+1)=if lV L J k≠0 then lV L J k else match J[k]? with | some x=>yQ L x | none=>0:=rfl
 rw [e,if_neg (by simp [hz]),List.getElem?_eq_getElem hk]
theorem uy {L:List BE} {J:List Jt} {k:Nat} {e:Int} (hk:k<J.length) (h:lV L J (k+1)=e) (he:e≠0):lV L J J.length=e:=by
 rw [← h];exact kr _ (by have h2:dR _ (k+1)=e:=h;rw [h2];exact he) hk
theorem iU {L:List BE} {J:List Jt} (h:aQ L J=0):aG L=0∧J.length≤32∧∀ x ∈ J,yQ L x=0:=by
 unfold aQ at h
 by_cases h0:aG L=0
 ·rw [if_neg (by simp [h0])] at h
  by_cases h1:32<J.length
  ·rw [if_pos h1] at h;cases h
  ·rw [if_neg h1] at h;refine ⟨h0,by omega,fun x hx=>?_⟩;obtain ⟨k,hk,rfl⟩:=List.getElem_of_mem hx;have:=kg h k hk;simpa [hk] using this
 ·rw [if_pos h0] at h;exact absurd h h0
theorem qX {L:List BE} {x:Jt} (h:yQ L x=0):(0≤x.a∧x.a<x.b∧x.b<(L.length:Int))∧aB 2097152 x.p1 x.p2=true∧aB 2097152 x.q1 x.q2=true∧(0≤x.len∧x.len≤65536000)∧¬ (oC L x.a=0∧oC L x.b=0):=by
 unfold yQ at h
 by_cases hb:fH L.length x=true
 ·rw [if_pos hb] at h;cases h
 ·rw [if_neg hb] at h;have hb2:fH L.length x=false:=by simpa using hb
  simp only [fH,Bool.or_eq_false_iff,decide_eq_false_iff_not,Bool.not_eq_false'] at hb2;obtain ⟨h1,h2,h3,h4,h5,h6,h7⟩:=hb2;refine ⟨by omega,h4,h5,by omega,fun hm=>?_⟩;rw [if_pos hm] at h;cases h
theorem bW (a b:Int) (w:World):Calls Tryz.prog 130 #[bV a b] w (dw (.bool (aB 2097152 a b)) w):=by
 obtain ⟨M,hM⟩:∃ M,M=max a b:=⟨_,rfl⟩;obtain ⟨m,hm⟩:∃ m,m=min a b:=⟨_,rfl⟩
 have HW:Hid (aB 2097152 a b=(decide (M≤2097152) && decide (-2097152≤m))):=by
  show _=_;rw [Bool.eq_iff_iff,aV];simp;omega
 have hr1:∀ (ts:Array TypeId) (t:TypeId) (w:World),(Builtin.max_ ts t #[.int .i64 a,.int .i64 b]).run Tryz.prog w = .ok (.int .i64 M) w:=fun ts t w=>by
  rw [run_max_int2];have:(if b > a then b else a)=M:=by split <;> omega
  rw [this]
 have hr2:∀ (ts:Array TypeId) (t:TypeId) (w:World),(Builtin.min_ ts t #[.int .i64 a,.int .i64 b]).run Tryz.prog w = .ok (.int .i64 m) w:=fun ts t w=>by
  rw [run_min_int2];have:(if b<a then b else a)=m:=by split <;> omega
  rw [this]
 clear hM hm;generalize aB 2097152 a b=R at *
 go_enter Tryz.func130,Tryz.ntmps130
 by_cases h1 : -2097152≤m
 ·by_cases h2 : M ≤ 2097152
  ·have HR : Hid (R = true) := by show _ = _; rw [HW.out]; simp [h1, h2]
   clear HW;go_wp2
   go_returns
   exact aY (by rw [HR.out];try simp [*]) (by go_grown)
  ·have HR : Hid (R = false) := by show _ = _; rw [HW.out]; simp [h1, h2]
   clear HW;go_wp2
   go_returns
   exact aY (by rw [HR.out];try simp [*]) (by go_grown)
 ·have HR : Hid (R = false) := by show _ = _; rw [HW.out]; simp [h1]
  clear HW;go_wp2
  go_returns
  exact aY (by rw [HR.out];try simp [*]) (by go_grown)
theorem uJ (A B:Option Addr) (n c n' c':Nat) (L:List BE) (J:List Jt) (w:World) (hS:iE w A n c L) (hJ:dD gV w B n' c' J) :
  Calls Tryz.prog 59 #[.slice A n c,.slice B n' c'] w (dw (.int .i64 (aQ L J)) w):=by
 have hn:=hS.sl.len;have hcap:=hS.sl.cap;have hbig:=hS.sl.big;have hn':=hJ.len;have hcap':=hJ.cap;have hbig':=hJ.big;subst hn hn';have HSL:=hid (fun (w':World) (hb:Below w.heap.size w w')=>hS.below hb);have HSJ:=hid (fun (w':World) (hb:Below w.heap.size w w')=>hJ.below hb);have HCK:=hid (gZ A L.length c L w hS);clear hS hJ
 go_enter Tryz.func59,Tryz.ntmps59
 go_wp2_with fail
 refine HCK.out.mono ?_;rintro e w1 ⟨rfl,hB⟩;clear HCK
 by_cases hE:aG L=0
 case neg =>
  have HR:Hid (aQ L J=aG L):=by show _=_;unfold aQ;rw [if_pos hE]
  have hne:(aG L != 0)=true:=by simp [hE]
  generalize aG L=z at *
  go_wp2
  go_returns
  exact aj HR.out.symm hB
 obtain ⟨h64,hval⟩:=bZ hE;have HV:=hid hval
 by_cases h32:32<J.length
 ·have HR : Hid (aQ L J = 2) := by show _ = _; unfold aQ; rw [if_neg (by simp [hE]), if_pos h32]
  rw [hE];clear hE hval;go_wp2
  go_returns
  exact aj HR.out.symm hB
 have HJ:Hid (aQ L J=lV L J J.length):=by show _=_;unfold aQ;rw [if_neg (by simp [hE]),if_neg h32]
 rw [hE];clear hE hval;go_wp2
 go_loopw [19] (fun i wr=>∃ k:Nat,k≤J.length∧i = .int .i64 k∧lV L J k=0∧Below w.heap.size w wr) (fun i _=>J.length-(intOf i).toNat)
 case atStart=>exact ⟨0,Nat.zero_le _,rfl,rfl,hB⟩
 case round =>
  clear hB;obtain ⟨k,hk,rfl,hz,hB⟩:=hrel;obtain ⟨wo,rfl⟩:∃ wo:World,wo=wr:=⟨_,rfl⟩
  by_cases hlt:k<J.length
  ·obtain ⟨ba, off, hA, hC⟩ := (HSJ.out _ hB).at_ (by intro h; subst h; simp at hlt);subst hA;have HST:Hid (lV L J (k+1)=yQ L J[k]):=tT hlt hz;have HF:Hid (∀ e,e≠0→yQ L J[k]=e→aQ L J=e):=fun e he h=>by rw [HJ.out];exact uy hlt (by rw [HST.out,h]) he
   obtain ⟨x,hx⟩:∃ x,x=J[k]:=⟨_,rfl⟩;obtain ⟨d0,d1,d2,d3,d4,d5,d6⟩:=nE hC hlt hx;rw [← hx] at HST HF;have hbo:=hC.lt;have hlt':(k:Int)<(J.length:Int):=by omega
   have hkw:IntKind.i64.wrap ((k:Int)+1)=(k:Int)+1:=IntWalk.i64_in _ (by omega);clear hC hx hz;obtain ⟨a,b,p1,p2,q1,q2,ln⟩:=x;simp only at d0 d1 d2 d3 d4 d5 d6;obtain ⟨wj,hwj⟩:∃ wj,wj=wo.alloc (.cells #[.int .i64 a,.int .i64 b,.int .i64 p1,.int .i64 p2,.int .i64 q1,.int .i64 q2,.int .i64 ln] 37):=⟨_,rfl⟩;have hBw:Below w.heap.size w wj:=by rw [hwj];exact hB.alloc hB.size _
   have j0:wj.cell? ⟨wo.heap.size,0,none⟩=some (.int .i64 a):=by rw [hwj];go_simp
   have j1:wj.cell? ⟨wo.heap.size,1,none⟩=some (.int .i64 b):=by rw [hwj];go_simp
   have j2:wj.cell? ⟨wo.heap.size,2,none⟩=some (.int .i64 p1):=by rw [hwj];go_simp
   have j3:wj.cell? ⟨wo.heap.size,3,none⟩=some (.int .i64 p2):=by rw [hwj];go_simp
   have j4:wj.cell? ⟨wo.heap.size,4,none⟩=some (.int .i64 q1):=by rw [hwj];go_simp
   have j5:wj.cell? ⟨wo.heap.size,5,none⟩=some (.int .i64 q2):=by rw [hwj];go_simp
   have j6:wj.cell? ⟨wo.heap.size,6,none⟩=some (.int .i64 ln):=by rw [hwj];go_simp
   have HP0:Hid True:=trivial;have HQ0:Hid True:=trivial;have hwl:wo.heap.size<wj.heap.size:=lt_of_cell j0
   go_upto_region 10 with fail
   rw [← hwj];clear hwj d0 d1 d2 d3 d4 d5 d6 hbo hB;have hB:=hBw;clear hBw
   by_cases c1:a<0
   ·have HR := hid (HF.out 1 (by omega) (fF (by simp [fH, c1])));clear HF HP0 HQ0
    go_wp2_with (first | (go_at_call 130;refine (bW _ _ _).mono ?_;rintro e wn ⟨rfl,hb⟩;(try rw [HP.out]);(try rw [HQ.out]);replace hB:=ah hb hB;replace j0:=keepCell hb j0;replace j1:=keepCell hb j1;replace j2:=keepCell hb j2;replace j3:=keepCell hb j3;replace j4:=keepCell hb j4;replace j5:=keepCell hb j5;replace j6:=keepCell hb j6;clear hb))
    go_returns
    exact aj HR.out.symm hB
   by_cases c2:(L.length:Int)≤b
   ·have HR := hid (HF.out 1 (by omega) (fF (by simp [fH, c2])));clear HF HP0 HQ0
    go_wp2_with (first | (go_at_call 130;refine (bW _ _ _).mono ?_;rintro e wn ⟨rfl,hb⟩;(try rw [HP.out]);(try rw [HQ.out]);replace hB:=ah hb hB;replace j0:=keepCell hb j0;replace j1:=keepCell hb j1;replace j2:=keepCell hb j2;replace j3:=keepCell hb j3;replace j4:=keepCell hb j4;replace j5:=keepCell hb j5;replace j6:=keepCell hb j6;clear hb))
    go_returns
    exact aj HR.out.symm hB
   by_cases c3:b≤a
   ·have HR := hid (HF.out 1 (by omega) (fF (by simp [fH, c3])));clear HF HP0 HQ0
    go_wp2_with (first | (go_at_call 130;refine (bW _ _ _).mono ?_;rintro e wn ⟨rfl,hb⟩;(try rw [HP.out]);(try rw [HQ.out]);replace hB:=ah hb hB;replace j0:=keepCell hb j0;replace j1:=keepCell hb j1;replace j2:=keepCell hb j2;replace j3:=keepCell hb j3;replace j4:=keepCell hb j4;replace j5:=keepCell hb j5;replace j6:=keepCell hb j6;clear hb))
    go_returns
    exact aj HR.out.symm hB
   cases hp:aB 2097152 p1 p2 with
   | false =>
    have HP:Hid (aB 2097152 p1 p2=false):=hp;have HQ:Hid True:=trivial;have HR:=hid (HF.out 1 (by omega) (fF (by simp [fH,hp])));clear HF HP0 HQ0
    go_wp2_with (first | (go_at_call 130;refine (bW _ _ _).mono ?_;rintro e wn ⟨rfl,hb⟩;(try rw [HP.out]);(try rw [HQ.out]);replace hB:=ah hb hB;replace j0:=keepCell hb j0;replace j1:=keepCell hb j1;replace j2:=keepCell hb j2;replace j3:=keepCell hb j3;replace j4:=keepCell hb j4;replace j5:=keepCell hb j5;replace j6:=keepCell hb j6;clear hb))
    go_returns
    exact aj HR.out.symm hB
   | true =>
   have HP:Hid (aB 2097152 p1 p2=true):=hp
   cases hq:aB 2097152 q1 q2 with
   | false =>
    have HQ:Hid (aB 2097152 q1 q2=false):=hq;have HR:=hid (HF.out 1 (by omega) (fF (by simp [fH,hq])));clear HF HP0 HQ0
    go_wp2_with (first | (go_at_call 130;refine (bW _ _ _).mono ?_;rintro e wn ⟨rfl,hb⟩;(try rw [HP.out]);(try rw [HQ.out]);replace hB:=ah hb hB;replace j0:=keepCell hb j0;replace j1:=keepCell hb j1;replace j2:=keepCell hb j2;replace j3:=keepCell hb j3;replace j4:=keepCell hb j4;replace j5:=keepCell hb j5;replace j6:=keepCell hb j6;clear hb))
    go_returns
    exact aj HR.out.symm hB
   | true =>
   have HQ:Hid (aB 2097152 q1 q2=true):=hq
   by_cases c4:ln<0
   ·have HR := hid (HF.out 1 (by omega) (fF (by simp [fH, c4])));clear HF HP0 HQ0
    go_wp2_with (first | (go_at_call 130;refine (bW _ _ _).mono ?_;rintro e wn ⟨rfl,hb⟩;(try rw [HP.out]);(try rw [HQ.out]);replace hB:=ah hb hB;replace j0:=keepCell hb j0;replace j1:=keepCell hb j1;replace j2:=keepCell hb j2;replace j3:=keepCell hb j3;replace j4:=keepCell hb j4;replace j5:=keepCell hb j5;replace j6:=keepCell hb j6;clear hb))
    go_returns
    exact aj HR.out.symm hB
   by_cases c5:65536000<ln
   ·have HR := hid (HF.out 1 (by omega) (fF (by simp [fH, c5])));clear HF HP0 HQ0
    go_wp2_with (first | (go_at_call 130;refine (bW _ _ _).mono ?_;rintro e wn ⟨rfl,hb⟩;(try rw [HP.out]);(try rw [HQ.out]);replace hB:=ah hb hB;replace j0:=keepCell hb j0;replace j1:=keepCell hb j1;replace j2:=keepCell hb j2;replace j3:=keepCell hb j3;replace j4:=keepCell hb j4;replace j5:=keepCell hb j5;replace j6:=keepCell hb j6;clear hb))
    go_returns
    exact aj HR.out.symm hB
   have HNB:Hid (fH L.length ⟨a,b,p1,p2,q1,q2,ln⟩=false):=by show _=_;simp [fH,hp,hq];omega
   obtain ⟨ka,rfl⟩:∃ ka:Nat,a=ka:=⟨a.toNat,by omega⟩;obtain ⟨kb,rfl⟩:∃ kb:Nat,b=kb:=⟨b.toNat,by omega⟩;have hka:ka<L.length:=by omega
   have hkb:kb<L.length:=by omega
   obtain ⟨bL,oL,hAL,hCL⟩:=(HSL.out _ hB).sl.at_ (by intro h;subst h;simp at hka);subst hAL;obtain ⟨xa,hxa⟩:∃ x,x=L[ka]:=⟨_,rfl⟩;obtain ⟨xb,hxb⟩:∃ x,x=L[kb]:=⟨_,rfl⟩;have ma:=(dB hCL hka hxa).2.2.2.2.2.2.1;have mb:=(dB hCL hkb hxb).2.2.2.2.2.2.1;have hbL:=hCL.lt;have mva:=iZ (bU (HV.out xa (by rw [hxa];exact List.getElem_mem hka))).2;have mvb:=iZ (bU (HV.out xb (by rw [hxb];exact List.getElem_mem hkb))).2;obtain ⟨na,na'⟩:=mva.2.2.2.2.1;obtain ⟨nb,nb'⟩:=mvb.2.2.2.2.1;have hac:(ka:Int)<(L.length:Int):=by omega
   have hbc:(kb:Int)<(L.length:Int):=by omega
   have h0a:0≤(ka:Int):=by omega
   have h0b:0≤(kb:Int):=by omega
   have HJE:Hid (yQ L ⟨(ka:Int),(kb:Int),p1,p2,q1,q2,ln⟩=if xa.b.mass=0∧xb.b.mass=0 then 3 else 0):=by show _=_;unfold yQ;rw [if_neg (by rw [HNB.out];simp)];simp [oC,hka,hkb,hxa,hxb]
   have KM:Hid (∀ w1 w2:World,Below w1.heap.size w1 w2→w1.cell? ⟨bL,oL+ka*13+6,none⟩=some (.int .i64 xa.b.mass)∧w1.cell? ⟨bL,oL+kb*13+6,none⟩=some (.int .i64 xb.b.mass)→w2.cell? ⟨bL,oL+ka*13+6,none⟩=some (.int .i64 xa.b.mass)∧w2.cell? ⟨bL,oL+kb*13+6,none⟩=some (.int .i64 xb.b.mass)):=fun w1 w2 hb h=>⟨keepCell hb h.1,keepCell hb h.2⟩
   clear hCL hxa hxb mva mvb HNB HP0 HQ0
   by_cases c6:xa.b.mass=0
   ·by_cases c7 : xb.b.mass = 0
    ·have HR := hid (HF.out 3 (by omega) (by rw [HJE.out, if_pos ⟨c6, c7⟩]));clear HF HJE
     go_wp2_with (first | (go_at_call 130;refine (bW _ _ _).mono ?_;rintro e wn ⟨rfl,hb⟩;(try rw [HP.out]);(try rw [HQ.out]);replace hB:=ah hb hB;replace j0:=keepCell hb j0;replace j1:=keepCell hb j1;replace j2:=keepCell hb j2;replace j3:=keepCell hb j3;replace j4:=keepCell hb j4;replace j5:=keepCell hb j5;replace j6:=keepCell hb j6;replace ma:=keepCell hb ma;replace mb:=keepCell hb mb;replace hbL:=Nat.lt_of_lt_of_le hbL hb.size;clear hb))
     go_returns
     exact aj HR.out.symm hB
    ·have HC : Hid (¬ (xa.b.mass = 0 ∧ xb.b.mass = 0)) := fun h => c7 h.2
     go_wp2_with (first | (go_at_call 130;refine (bW _ _ _).mono ?_;rintro e wn ⟨rfl,hb⟩;(try rw [HP.out]);(try rw [HQ.out]);replace hB:=ah hb hB;replace j0:=keepCell hb j0;replace j1:=keepCell hb j1;replace j2:=keepCell hb j2;replace j3:=keepCell hb j3;replace j4:=keepCell hb j4;replace j5:=keepCell hb j5;replace j6:=keepCell hb j6;replace ma:=keepCell hb ma;replace mb:=keepCell hb mb;replace hbL:=Nat.lt_of_lt_of_le hbL hb.size;clear hb))
     go_roundw
     case rel=>exact ⟨k+1,by omega,by go_num,by rw [HST.out,HJE.out,if_neg HC.out],hB⟩
     case measure=>simp [intOf] <;> omega
   ·have HC : Hid (¬ (xa.b.mass = 0 ∧ xb.b.mass = 0)) := fun h => c6 h.1
    go_wp2_with (first | (go_at_call 130;refine (bW _ _ _).mono ?_;rintro e wn ⟨rfl,hb⟩;(try rw [HP.out]);(try rw [HQ.out]);replace hB:=ah hb hB;replace j0:=keepCell hb j0;replace j1:=keepCell hb j1;replace j2:=keepCell hb j2;replace j3:=keepCell hb j3;replace j4:=keepCell hb j4;replace j5:=keepCell hb j5;replace j6:=keepCell hb j6;replace ma:=keepCell hb ma;replace mb:=keepCell hb mb;replace hbL:=Nat.lt_of_lt_of_le hbL hb.size;clear hb))
    go_roundw
    case rel=>exact ⟨k+1,by omega,by go_num,by rw [HST.out,HJE.out,if_neg HC.out],hB⟩
    case measure=>simp [intOf] <;> omega
  ·have hkn : k = J.length := by omega
   subst hkn;have HR:Hid (aQ L J=0):=by show _=_;rw [HJ.out];exact hz
   clear hz;go_wp2
   go_returns
   exact aj HR.out.symm hB
theorem sI (A B:Option Addr) (n c n' c':Nat) (L:List BE) (J:List Jt) (w:World) (hS:iE w A n c L) (hJ:dD gV w B n' c' J) :
  Calls Tryz.prog 63 #[.slice A n c,.slice B n' c'] w (dw (.int .i64 (aQ L J)) w):=by
 have hn:=hS.sl.len;have hcap:=hS.sl.cap;have hbig:=hS.sl.big;have hn':=hJ.len;have hcap':=hJ.cap;have hbig':=hJ.big;subst hn hn';have HSL:=hid (fun (w':World) (hb:Below w.heap.size w w')=>hS.below hb);have HSJ:=hid (fun (w':World) (hb:Below w.heap.size w w')=>hJ.below hb);have HCK:=hid (mF A L.length c L w hS);clear hS hJ
 go_enter Tryz.func63,Tryz.ntmps63
 go_wp2_with fail
 refine HCK.out.mono ?_;rintro e w1 ⟨rfl,hB⟩;clear HCK
 by_cases hE:aG L=0
 case neg =>
  have HR:Hid (aQ L J=aG L):=by show _=_;unfold aQ;rw [if_pos hE]
  have hne:(aG L != 0)=true:=by simp [hE]
  generalize aG L=z at *
  go_wp2
  go_returns
  exact aj HR.out.symm hB
 obtain ⟨h64,hval⟩:=bZ hE;have HV:=hid hval
 by_cases h32:32<J.length
 ·have HR : Hid (aQ L J = 2) := by show _ = _; unfold aQ; rw [if_neg (by simp [hE]), if_pos h32]
  rw [hE];clear hE hval;go_wp2
  go_returns
  exact aj HR.out.symm hB
 have HJ:Hid (aQ L J=lV L J J.length):=by show _=_;unfold aQ;rw [if_neg (by simp [hE]),if_neg h32]
 rw [hE];clear hE hval;go_wp2
 go_loopw [18] (fun i wr=>∃ k:Nat,k≤J.length∧i = .int .i64 k∧lV L J k=0∧Below w.heap.size w wr) (fun i _=>J.length-(intOf i).toNat)
 case atStart=>exact ⟨0,Nat.zero_le _,rfl,rfl,hB⟩
 case round =>
  clear hB;obtain ⟨k,hk,rfl,hz,hB⟩:=hrel;obtain ⟨wo,rfl⟩:∃ wo:World,wo=wr:=⟨_,rfl⟩
  by_cases hlt:k<J.length
  ·obtain ⟨ba, off, hA, hC⟩ := (HSJ.out _ hB).at_ (by intro h; subst h; simp at hlt);subst hA;have HST:Hid (lV L J (k+1)=yQ L J[k]):=tT hlt hz;have HF:Hid (∀ e,e≠0→yQ L J[k]=e→aQ L J=e):=fun e he h=>by rw [HJ.out];exact uy hlt (by rw [HST.out,h]) he
   obtain ⟨x,hx⟩:∃ x,x=J[k]:=⟨_,rfl⟩;obtain ⟨d0,d1,d2,d3,d4,d5,d6⟩:=nE hC hlt hx;rw [← hx] at HST HF;have hbo:=hC.lt;have hlt':(k:Int)<(J.length:Int):=by omega
   have hkw:IntKind.i64.wrap ((k:Int)+1)=(k:Int)+1:=IntWalk.i64_in _ (by omega);clear hC hx hz;obtain ⟨a,b,p1,p2,q1,q2,ln⟩:=x;simp only at d0 d1 d2 d3 d4 d5 d6;obtain ⟨wj,hwj⟩:∃ wj,wj=wo.alloc (.cells #[.int .i64 a,.int .i64 b,.int .i64 p1,.int .i64 p2,.int .i64 q1,.int .i64 q2,.int .i64 ln] 37):=⟨_,rfl⟩;have hBw:Below w.heap.size w wj:=by rw [hwj];exact hB.alloc hB.size _
   have j0:wj.cell? ⟨wo.heap.size,0,none⟩=some (.int .i64 a):=by rw [hwj];go_simp
   have j1:wj.cell? ⟨wo.heap.size,1,none⟩=some (.int .i64 b):=by rw [hwj];go_simp
   have j2:wj.cell? ⟨wo.heap.size,2,none⟩=some (.int .i64 p1):=by rw [hwj];go_simp
   have j3:wj.cell? ⟨wo.heap.size,3,none⟩=some (.int .i64 p2):=by rw [hwj];go_simp
   have j4:wj.cell? ⟨wo.heap.size,4,none⟩=some (.int .i64 q1):=by rw [hwj];go_simp
   have j5:wj.cell? ⟨wo.heap.size,5,none⟩=some (.int .i64 q2):=by rw [hwj];go_simp
   have j6:wj.cell? ⟨wo.heap.size,6,none⟩=some (.int .i64 ln):=by rw [hwj];go_simp
   have HP0:Hid True:=trivial;have HQ0:Hid True:=trivial;have hwl:wo.heap.size<wj.heap.size:=lt_of_cell j0
   go_upto_region 9 with fail
   rw [← hwj];clear hwj d0 d1 d2 d3 d4 d5 d6 hbo hB;have hB:=hBw;clear hBw
   by_cases c1:a<0
   ·have HR := hid (HF.out 1 (by omega) (fF (by simp [fH, c1])));clear HF HP0 HQ0
    go_wp2_with (first | (go_at_call 65;refine (aP _ _ _ _ (by omega) (by omega)).mono ?_;rintro e wn ⟨rfl,hb⟩;(try rw [HP.out]);(try rw [HQ.out]);replace hB:=ah hb hB;replace j0:=keepCell hb j0;replace j1:=keepCell hb j1;replace j2:=keepCell hb j2;replace j3:=keepCell hb j3;replace j4:=keepCell hb j4;replace j5:=keepCell hb j5;replace j6:=keepCell hb j6;clear hb) | (go_at_call 66;refine (aF _ _ _ _).mono ?_;rintro e wn ⟨rfl,hb⟩;(try rw [HLN.out]);replace hB:=ah hb hB;replace j0:=keepCell hb j0;replace j1:=keepCell hb j1;replace j2:=keepCell hb j2;replace j3:=keepCell hb j3;replace j4:=keepCell hb j4;replace j5:=keepCell hb j5;replace j6:=keepCell hb j6;clear hb))
    go_returns
    exact aj HR.out.symm hB
   by_cases c3:b≤a
   ·have HR := hid (HF.out 1 (by omega) (fF (by simp [fH, c3])));clear HF HP0 HQ0
    go_wp2_with (first | (go_at_call 65;refine (aP _ _ _ _ (by omega) (by omega)).mono ?_;rintro e wn ⟨rfl,hb⟩;(try rw [HP.out]);(try rw [HQ.out]);replace hB:=ah hb hB;replace j0:=keepCell hb j0;replace j1:=keepCell hb j1;replace j2:=keepCell hb j2;replace j3:=keepCell hb j3;replace j4:=keepCell hb j4;replace j5:=keepCell hb j5;replace j6:=keepCell hb j6;clear hb) | (go_at_call 66;refine (aF _ _ _ _).mono ?_;rintro e wn ⟨rfl,hb⟩;(try rw [HLN.out]);replace hB:=ah hb hB;replace j0:=keepCell hb j0;replace j1:=keepCell hb j1;replace j2:=keepCell hb j2;replace j3:=keepCell hb j3;replace j4:=keepCell hb j4;replace j5:=keepCell hb j5;replace j6:=keepCell hb j6;clear hb))
    go_returns
    exact aj HR.out.symm hB
   by_cases c2:(L.length:Int)≤b
   ·have HR := hid (HF.out 1 (by omega) (fF (by simp [fH, c2])));clear HF HP0 HQ0
    go_wp2_with (first | (go_at_call 65;refine (aP _ _ _ _ (by omega) (by omega)).mono ?_;rintro e wn ⟨rfl,hb⟩;(try rw [HP.out]);(try rw [HQ.out]);replace hB:=ah hb hB;replace j0:=keepCell hb j0;replace j1:=keepCell hb j1;replace j2:=keepCell hb j2;replace j3:=keepCell hb j3;replace j4:=keepCell hb j4;replace j5:=keepCell hb j5;replace j6:=keepCell hb j6;clear hb) | (go_at_call 66;refine (aF _ _ _ _).mono ?_;rintro e wn ⟨rfl,hb⟩;(try rw [HLN.out]);replace hB:=ah hb hB;replace j0:=keepCell hb j0;replace j1:=keepCell hb j1;replace j2:=keepCell hb j2;replace j3:=keepCell hb j3;replace j4:=keepCell hb j4;replace j5:=keepCell hb j5;replace j6:=keepCell hb j6;clear hb))
    go_returns
    exact aj HR.out.symm hB
   cases hp:aB 2097152 p1 p2 with
   | false =>
    have HP:Hid (aB 2097152 p1 p2=false):=hp;have HQ:Hid True:=trivial;have HR:=hid (HF.out 1 (by omega) (fF (by simp [fH,hp])));clear HF HP0 HQ0
    go_wp2_with (first | (go_at_call 65;refine (aP _ _ _ _ (by omega) (by omega)).mono ?_;rintro e wn ⟨rfl,hb⟩;(try rw [HP.out]);(try rw [HQ.out]);replace hB:=ah hb hB;replace j0:=keepCell hb j0;replace j1:=keepCell hb j1;replace j2:=keepCell hb j2;replace j3:=keepCell hb j3;replace j4:=keepCell hb j4;replace j5:=keepCell hb j5;replace j6:=keepCell hb j6;clear hb) | (go_at_call 66;refine (aF _ _ _ _).mono ?_;rintro e wn ⟨rfl,hb⟩;(try rw [HLN.out]);replace hB:=ah hb hB;replace j0:=keepCell hb j0;replace j1:=keepCell hb j1;replace j2:=keepCell hb j2;replace j3:=keepCell hb j3;replace j4:=keepCell hb j4;replace j5:=keepCell hb j5;replace j6:=keepCell hb j6;clear hb))
    go_returns
    exact aj HR.out.symm hB
   | true =>
   have HP:Hid (aB 2097152 p1 p2=true):=hp
   cases hq:aB 2097152 q1 q2 with
   | false =>
    have HQ:Hid (aB 2097152 q1 q2=false):=hq;have HR:=hid (HF.out 1 (by omega) (fF (by simp [fH,hq])));clear HF HP0 HQ0
    go_wp2_with (first | (go_at_call 65;refine (aP _ _ _ _ (by omega) (by omega)).mono ?_;rintro e wn ⟨rfl,hb⟩;(try rw [HP.out]);(try rw [HQ.out]);replace hB:=ah hb hB;replace j0:=keepCell hb j0;replace j1:=keepCell hb j1;replace j2:=keepCell hb j2;replace j3:=keepCell hb j3;replace j4:=keepCell hb j4;replace j5:=keepCell hb j5;replace j6:=keepCell hb j6;clear hb) | (go_at_call 66;refine (aF _ _ _ _).mono ?_;rintro e wn ⟨rfl,hb⟩;(try rw [HLN.out]);replace hB:=ah hb hB;replace j0:=keepCell hb j0;replace j1:=keepCell hb j1;replace j2:=keepCell hb j2;replace j3:=keepCell hb j3;replace j4:=keepCell hb j4;replace j5:=keepCell hb j5;replace j6:=keepCell hb j6;clear hb))
    go_returns
    exact aj HR.out.symm hB
   | true =>
   have HQ:Hid (aB 2097152 q1 q2=true):=hq
   cases hl:dU ln 0 65536000 with
   | false =>
    have HLN:Hid (dU ln 0 65536000=false):=hl;have hl2:¬ (0≤ln∧ln≤65536000):=by rw [← bf,hl];simp
    have hl3:ln<0∨65536000<ln:=by omega
    have HR:=hid (HF.out 1 (by omega) (fF (by rcases hl3 with hl3 | hl3 <;> simp [fH,hl3])));clear HF HP0 HQ0 hl2 hl3
    go_wp2_with (first | (go_at_call 65;refine (aP _ _ _ _ (by omega) (by omega)).mono ?_;rintro e wn ⟨rfl,hb⟩;(try rw [HP.out]);(try rw [HQ.out]);replace hB:=ah hb hB;replace j0:=keepCell hb j0;replace j1:=keepCell hb j1;replace j2:=keepCell hb j2;replace j3:=keepCell hb j3;replace j4:=keepCell hb j4;replace j5:=keepCell hb j5;replace j6:=keepCell hb j6;clear hb) | (go_at_call 66;refine (aF _ _ _ _).mono ?_;rintro e wn ⟨rfl,hb⟩;(try rw [HLN.out]);replace hB:=ah hb hB;replace j0:=keepCell hb j0;replace j1:=keepCell hb j1;replace j2:=keepCell hb j2;replace j3:=keepCell hb j3;replace j4:=keepCell hb j4;replace j5:=keepCell hb j5;replace j6:=keepCell hb j6;clear hb))
    go_returns
    exact aj HR.out.symm hB
   | true =>
   have HLN:Hid (dU ln 0 65536000=true):=hl;obtain ⟨c4',c5'⟩:=bf.1 hl;have c4:¬ ln<0:=by omega
   have c5:¬ 65536000<ln:=by omega
   have HNB:Hid (fH L.length ⟨a,b,p1,p2,q1,q2,ln⟩=false):=by show _=_;simp [fH,hp,hq];omega
   obtain ⟨ka,rfl⟩:∃ ka:Nat,a=ka:=⟨a.toNat,by omega⟩;obtain ⟨kb,rfl⟩:∃ kb:Nat,b=kb:=⟨b.toNat,by omega⟩;have hka:ka<L.length:=by omega
   have hkb:kb<L.length:=by omega
   obtain ⟨bL,oL,hAL,hCL⟩:=(HSL.out _ hB).sl.at_ (by intro h;subst h;simp at hka);subst hAL;obtain ⟨xa,hxa⟩:∃ x,x=L[ka]:=⟨_,rfl⟩;obtain ⟨xb,hxb⟩:∃ x,x=L[kb]:=⟨_,rfl⟩;have ma:=(dB hCL hka hxa).2.2.2.2.2.2.1;have mb:=(dB hCL hkb hxb).2.2.2.2.2.2.1;have hbL:=hCL.lt;have mva:=iZ (bU (HV.out xa (by rw [hxa];exact List.getElem_mem hka))).2;have mvb:=iZ (bU (HV.out xb (by rw [hxb];exact List.getElem_mem hkb))).2;obtain ⟨na,na'⟩:=mva.2.2.2.2.1;obtain ⟨nb,nb'⟩:=mvb.2.2.2.2.1;have hac:(ka:Int)<(L.length:Int):=by omega
   have hbc:(kb:Int)<(L.length:Int):=by omega
   have h0a:0≤(ka:Int):=by omega
   have h0b:0≤(kb:Int):=by omega
   have HJE:Hid (yQ L ⟨(ka:Int),(kb:Int),p1,p2,q1,q2,ln⟩=if xa.b.mass=0∧xb.b.mass=0 then 3 else 0):=by show _=_;unfold yQ;rw [if_neg (by rw [HNB.out];simp)];simp [oC,hka,hkb,hxa,hxb]
   have KM:Hid (∀ w1 w2:World,Below w1.heap.size w1 w2→w1.cell? ⟨bL,oL+ka*13+6,none⟩=some (.int .i64 xa.b.mass)∧w1.cell? ⟨bL,oL+kb*13+6,none⟩=some (.int .i64 xb.b.mass)→w2.cell? ⟨bL,oL+ka*13+6,none⟩=some (.int .i64 xa.b.mass)∧w2.cell? ⟨bL,oL+kb*13+6,none⟩=some (.int .i64 xb.b.mass)):=fun w1 w2 hb h=>⟨keepCell hb h.1,keepCell hb h.2⟩
   clear hCL hxa hxb mva mvb HNB HP0 HQ0;have hsw:IntKind.i64.wrap (xa.b.mass+xb.b.mass)=xa.b.mass+xb.b.mass:=IntWalk.i64_in _ (by omega)
   go_upto_region 11 with (first | (go_at_call 65;refine (aP _ _ _ _ (by omega) (by omega)).mono ?_;rintro e wn ⟨rfl,hb⟩;(try rw [HP.out]);(try rw [HQ.out]);replace hB:=ah hb hB;replace j0:=keepCell hb j0;replace j1:=keepCell hb j1;replace j2:=keepCell hb j2;replace j3:=keepCell hb j3;replace j4:=keepCell hb j4;replace j5:=keepCell hb j5;replace j6:=keepCell hb j6;replace ma:=keepCell hb ma;replace mb:=keepCell hb mb;replace hbL:=Nat.lt_of_lt_of_le hbL hb.size;clear hb) | (go_at_call 66;refine (aF _ _ _ _).mono ?_;rintro e wn ⟨rfl,hb⟩;(try rw [HLN.out]);replace hB:=ah hb hB;replace j0:=keepCell hb j0;replace j1:=keepCell hb j1;replace j2:=keepCell hb j2;replace j3:=keepCell hb j3;replace j4:=keepCell hb j4;replace j5:=keepCell hb j5;replace j6:=keepCell hb j6;replace ma:=keepCell hb ma;replace mb:=keepCell hb mb;replace hbL:=Nat.lt_of_lt_of_le hbL hb.size;clear hb))
   refine wp_region_noPanic ?_;refine au (S:=(S2 (fun w'=>w'.cell? ⟨wo.heap.size,0,none⟩=some (.int .i64 (ka:Int))∧w'.cell? ⟨wo.heap.size,1,none⟩=some (.int .i64 (kb:Int))∧w'.cell? ⟨bL,oL+ka*13+6,none⟩=some (.int .i64 xa.b.mass)∧w'.cell? ⟨bL,oL+kb*13+6,none⟩=some (.int .i64 xb.b.mass)∧Below w.heap.size w w'))) (T:=(fun _=>0)) (by kernel_rfl) (aM ⟨j0,j1,ma,mb,hB.drew⟩) (fun hH=>?_);have hWr1:aO (S2 (fun w'=>w'.cell? ⟨wo.heap.size,0,none⟩=some (.int .i64 (ka:Int))∧w'.cell? ⟨wo.heap.size,1,none⟩=some (.int .i64 (kb:Int))∧w'.cell? ⟨bL,oL+ka*13+6,none⟩=some (.int .i64 xa.b.mass)∧w'.cell? ⟨bL,oL+kb*13+6,none⟩=some (.int .i64 xb.b.mass)∧Below w.heap.size w w')):=aR _;refine gH [(0,57),(1,58),(2,59),(3,60),(4,61),(5,62),(6,63),(7,64),(8,65),(9,66),(10,67),(11,68),(12,69),(13,70)] 0 0 0 (L':=?Lr1_1) hWr1 hH ?hyr1_1 ?_
   case hyr1_1=>((iterate 14 apply gK;rfl;kernel_rfl;intro w' hSw;replace hSw:=aC hSw;(try dsimp only at hSw);have q0:=hSw.1;have q1:=hSw.2.1;have q2:=hSw.2.2.1;have q3:=hSw.2.2.2.1;have q4:=hSw.2.2.2.2;(try simp only [sB,sC]);go_simp;(try with_reducible rfl));exact gF)
   simp only [sB,sC];refine ak (by kernel_rfl) ?_ _ _;refine NoPanic.normal ?_;clear hWr1;clear hB;replace hH:=aC hH
   (try dsimp only at hH)
   have t0:=hH.1;have t1:=hH.2.1;have t2:=hH.2.2.1;have t3:=hH.2.2.2.1;have t4:=hH.2.2.2.2;have hB:=t4
   by_cases c6:xa.b.mass+xb.b.mass=0
   ·have HR := hid (HF.out 3 (by omega) (by rw [HJE.out, if_pos (by omega)]));clear HF HJE;go_wp2
    go_returns
    exact aj HR.out.symm hB
   ·have HC : Hid (¬ (xa.b.mass = 0 ∧ xb.b.mass = 0)) := fun h => c6 (by omega)
    go_wp2;go_roundw
    case rel=>exact ⟨k+1,by omega,by go_num,by rw [HST.out,HJE.out,if_neg HC.out],hB⟩
    case measure=>simp [intOf] <;> omega
  ·have hkn : k = J.length := by omega
   subst hkn;have HR:Hid (aQ L J=0):=by show _=_;rw [HJ.out];exact hz
   clear hz;go_wp2
   go_returns
   exact aj HR.out.symm hB
end
end Go.Proofs.YtokgmcomgflloaaGreat
