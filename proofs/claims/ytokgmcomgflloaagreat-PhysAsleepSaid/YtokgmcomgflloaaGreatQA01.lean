/- Parts of a proof: contracts and laws. -/
import Derived.Test.YtokgmcomgflloaaGreatQA00
import Derived.Shelf.Bits.Mul64
import Derived.Shelf.Spec.BitsCarry
import Derived.Lib.ItoaNum
import Derived.Laws.Bits64b
import Derived.Shelf.Small.Bits
import Derived.Shelf.Strconv.Itoa0
import Derived.Deep.DeepCutAuto
import Derived.BigQuiet
import Derived.Deep.QuietTactic
import Derived.WalkSmall
import Derived.Deep.CutBlock
set_option maxRecDepth 100000
set_option maxHeartbeats 16000000
namespace Go.Proofs.YtokgmcomgflloaaGreat
section
set_option linter.unusedVariables false
set_option linter.unusedSimpArgs false
open Go.RowKit
open Go.Shelf

def oW (z:Int):Int:=wrap64 (z / 18446744073709551616)
def jm (z:Int):Int:=z % 18446744073709551616

abbrev iV (z:Int):Value:=.agg #[.int .i64 (oW z),.int .u64 (jm z)]
theorem oG (z:Int):0≤jm z∧jm z<18446744073709551616:=by unfold jm;omega
theorem OH (z:Int) : -9223372036854775808≤oW z∧oW z≤9223372036854775807:=by unfold oW wrap64;omega
theorem GD {z:Int} (h1 : -170141183460469231731687303715884105728≤z) (h2:z<170141183460469231731687303715884105728):z=oW z*18446744073709551616+jm z:=by
 unfold oW jm wrap64;omega
theorem MO (a b:Int):(jm a+jm b) % 18446744073709551616=jm (a+b):=by unfold jm;omega
theorem MK (a b:Int):wrap64 (wrap64 (oW a+oW b)+(jm a+jm b) / 18446744073709551616)=oW (a+b):=by unfold jm oW wrap64;omega
theorem Le (a b:Int):(jm a-jm b) % 18446744073709551616=jm (a-b):=by unfold jm;omega
theorem Ls (a b:Int):wrap64 (wrap64 (oW a-oW b)-(if jm a<jm b then 1 else 0))=oW (a-b):=by unfold jm oW wrap64;split <;> omega
def Dl:Go.Shelf.Ren:=⟨fun | 264=>99 | n=>n,fun | 53=>118 | 46=>191 | n=>n,fun | n=>n⟩
theorem MS : Go.Proofs.Lays.n264 Tryz.prog Dl := {
 mixed:=by kernel_rfl
 f264:=Tryz.func99.trans (congrArg some (by kernel_rfl))
 t46:=Tryz.underlying191
 a46:=Tryz.isAgg191
 z46:=Tryz.sizeOf191
 v46:=Tryz.zeroValue191
 t53:=Tryz.underlying118
 a53:=Tryz.isAgg118
 z53:=Tryz.sizeOf118
 v53:=Tryz.zeroValue118 }
open Go.RowKit Go.Lib in
theorem bits_Mul64 (x y:Nat) (hx:x<18446744073709551616) (hy:y<18446744073709551616) (w:World) :
  Calls Tryz.prog 99 #[.int .u64 x,.int .u64 y] w fun e w'=>e = .returned (.tuple #[.int .u64 ((x*y / 18446744073709551616:Nat):Int),.int .u64 ((x*y % 18446744073709551616:Nat):Int)])∧w'=w:=Any.bits_Mul64 MS x y hx hy w
theorem zT (x y : Int) (hx : 0 ≤ x) (hy : 0 ≤ y) (w : World) : (callFunc 101 #[.int .u64 x, .int .u64 y, .int .u64 0]).run Tryz.prog w =
  .ok (.value (.tuple #[.int .u64 ((x+y) % 18446744073709551616),.int .u64 ((x+y) / 18446744073709551616)])) w:=by
 have h:=run_add64 (P:=Tryz.prog) x y 0 hx hy (Int.le_refl 0) (by decide) w;rw [Int.add_zero] at h;rw [run_callFunc_extern Tryz.func101 (by kernel_rfl) (by kernel_rfl) (by kernel_rfl) (e:=add64Entry) (by kernel_rfl),h];rfl

def NQ (x y:Int):Int:=if x<y then 1 else 0
theorem Il (x y : Int) (hx : 0 ≤ x) (hy : 0 ≤ y) (hy' : y < 18446744073709551616) (w : World) : (callFunc 216 #[.int .u64 x, .int .u64 y, .int .u64 0]).run Tryz.prog w =
  .ok (.value (.tuple #[.int .u64 ((x-y) % 18446744073709551616),.int .u64 (NQ x y)])) w:=by
 obtain ⟨x,rfl⟩:=Int.eq_ofNat_of_zero_le hx;obtain ⟨y,rfl⟩:=Int.eq_ofNat_of_zero_le hy;have e1:(((x+18446744073709551616-y-0) % 18446744073709551616:Nat):Int)=((x:Int)-y) % 18446744073709551616:=by omega
 have e2:((if x<y+0 then 1 else 0:Nat):Int)=NQ x y:=by unfold NQ;split <;> split <;> omega
 have h:=run_sub64 (P:=Tryz.prog) x y 0 (by omega) w;rw [e1,e2] at h;rw [run_callFunc_extern Tryz.func216 (by kernel_rfl) (by kernel_rfl) (by kernel_rfl) (e:=sub64Entry) (by kernel_rfl)];rw [show (sub64Entry #[.int .u64 (x:Int),.int .u64 (y:Int),.int .u64 0]).run Tryz.prog w=_ from h];rfl
theorem FV (a b:Int) (w:World):Calls Tryz.prog 94 #[iV a,iV b] w (dG (iV (a+b)) w):=by
 obtain ⟨ha,ha'⟩:=oG a;obtain ⟨hb,hb'⟩:=oG b;have e1:=hid (MO a b);have e2:=hid (MK a b)
 go_enter Tryz.func94,Tryz.ntmps94
 go_wp2_with (simp only [zT (jm a) (jm b) ha hb])
 refine bodyPost_ret (v:=iV (a+b)) (by simp [results,Tryz.results94,go_sem,e1.out,e2.out]) rfl ⟨rfl,?_⟩
 go_grown
theorem Dh (a b:Int) (w:World):Calls Tryz.prog 157 #[iV a,iV b] w (dG (iV (a-b)) w):=by
 obtain ⟨ha,ha'⟩:=oG a;obtain ⟨hb,hb'⟩:=oG b;have e1:=hid (Le a b);have e2:Hid (wrap64 (wrap64 (oW a-oW b)-NQ (jm a) (jm b))=oW (a-b)):=Ls a b;have hbo:0≤NQ (jm a) (jm b):=by unfold NQ;split <;> omega
 have hbo':NQ (jm a) (jm b)≤1:=by unfold NQ;split <;> omega
 go_enter Tryz.func157,Tryz.ntmps157
 go_wp2_with (simp only [Il (jm a) (jm b) ha hb hb'])
 refine bodyPost_ret (v:=iV (a-b)) (by simp [results,Tryz.results157,go_sem,e1.out,e2.out]) rfl ⟨rfl,?_⟩
 go_grown
theorem mU (x y:Int) (hx:0≤x) (hx':x<18446744073709551616) (hy:0≤y) (hy':y<18446744073709551616) (w:World) :
  Calls Tryz.prog 99 #[.int .u64 x,.int .u64 y] w fun e w'=>e = .returned (.tuple #[.int .u64 (x*y / 18446744073709551616),.int .u64 (x*y % 18446744073709551616)])∧w'=w:=by
 obtain ⟨x,rfl⟩:=Int.eq_ofNat_of_zero_le hx;obtain ⟨y,rfl⟩:=Int.eq_ofNat_of_zero_le hy;have h:=bits_Mul64 x y (by omega) (by omega) w;simpa using h

def tp (a b:Int):Int:=(a % 18446744073709551616)*(b % 18446744073709551616)
theorem Pm (a b:Int) (h1 : -9223372036854775808≤a) (h2:a≤9223372036854775807) (h3 : -9223372036854775808≤b) (h4:b≤9223372036854775807) :
  tp a b=a*b+(if a<0 then b else 0)*18446744073709551616+(if b<0 then a else 0)*18446744073709551616+(if a<0∧b<0 then 340282366920938463463374607431768211456 else 0):=by
 unfold tp;have ea:a % 18446744073709551616=a+(if a<0 then 18446744073709551616 else 0):=by split <;> omega
 have eb:b % 18446744073709551616=b+(if b<0 then 18446744073709551616 else 0):=by split <;> omega
 rw [ea,eb]
 by_cases ha:a<0 <;> by_cases hb:b<0 <;> simp only [ha,hb,if_true,if_false,and_true,and_false,true_and,false_and] <;> grind
theorem kg (a b:Int) (h1 : -9223372036854775808≤a) (h2:a≤9223372036854775807) (h3 : -9223372036854775808≤b) (h4:b≤9223372036854775807) (w:World) :
  Calls Tryz.prog 95 #[.int .i64 a,.int .i64 b] w (dG (iV (a*b)) w):=by
 have ht:=Pm a b h1 h2 h3 h4;have HT:=hid ht;clear ht
 go_enter Tryz.func95,Tryz.ntmps95
 go_wp2_with (go_at_call 99;rw [IntKind.wrap_u64,IntKind.wrap_u64];refine (mU _ _ (by omega) (by omega) (by omega) (by omega) _).mono ?_;rintro e w1 ⟨rfl,hw⟩;rw [hw,show (a % 18446744073709551616)*(b % 18446744073709551616)=tp a b from rfl])
 all_goals
  refine bodyPost_ret (v:=iV (a*b)) ?_ rfl ⟨rfl,by go_grown⟩;have ht:=HT.out;generalize tp a b=T at *
  generalize a*b=P at *
  simp [results,Tryz.results95,go_sem];unfold oW jm wrap64;clear HT hw
  split at ht <;> split at ht <;> (try split at ht) <;> constructor <;> omega

def DR (ah al bh bl:Int):Int:=if ah=bh∧al=bl then 0 else if ah<bh∨ah=bh∧al<bl then -1 else 1
theorem Ku (ah al bh bl:Int) (w:World) :
  Calls Tryz.prog 218 #[.agg #[.int .i64 ah,.int .u64 al],.agg #[.int .i64 bh,.int .u64 bl]] w (dG (.int .i64 (DR ah al bh bl)) w):=by
 by_cases e1:ah=bh
 ·subst e1
  by_cases e2:al=bl
  ·subst e2
   go_enter Tryz.func218,Tryz.ntmps218
   go_wp2
   go_returns
   exact aB (by simp [DR]) (by go_grown)
  ·have e3 : (al == bl) = false := by simp [e2]
   have E2:=hid e2;clear e2
   by_cases hlt:al<bl
   ·go_enter Tryz.func218, Tryz.ntmps218
    go_wp2
    go_returns
    have:=E2.out;exact aB (by simp [DR,this,hlt]) (by go_grown)
   ·go_enter Tryz.func218, Tryz.ntmps218
    go_wp2
    go_returns
    have:=E2.out;exact aB (by simp [DR,this];omega) (by go_grown)
 ·have e3 : (ah == bh) = false := by simp [e1]
  have E1:=hid e1;clear e1
  by_cases hlt:ah<bh
  ·go_enter Tryz.func218, Tryz.ntmps218
   go_wp2
   go_returns
   have:=E1.out;exact aB (by simp [DR,this,hlt]) (by go_grown)
  ·go_enter Tryz.func218, Tryz.ntmps218
   go_wp2
   go_returns
   have:=E1.out;exact aB (by simp [DR,this];omega) (by go_grown)
theorem FY (a b:Int) (h1 : -170141183460469231731687303715884105728≤a) (h2:a<170141183460469231731687303715884105728) (h3 : -170141183460469231731687303715884105728≤b) (h4:b<170141183460469231731687303715884105728) (w:World) :
  Calls Tryz.prog 218 #[iV a,iV b] w (dG (.int .i64 (if a<b then -1 else if a=b then 0 else 1)) w):=by
 have h:=Ku (oW a) (jm a) (oW b) (jm b) w;have ea:=GD h1 h2;have eb:=GD h3 h4;have la:=oG a;have lb:=oG b
 have e:DR (oW a) (jm a) (oW b) (jm b)=if a<b then -1 else if a=b then 0 else 1:=by
  unfold DR;generalize oW a=p at *
  generalize oW b=q at *
  generalize jm a=r at *
  generalize jm b=s at *
  by_cases c1:a<b
  ·rw [if_pos c1,if_neg (by omega),if_pos (by omega)]
  ·rw [if_neg c1]
   by_cases c2:a=b
   ·rw [if_pos c2,if_pos (by omega)]
   ·rw [if_neg c2,if_neg (by omega),if_neg (by omega)]
 rwa [e] at h
theorem ER (a b c d:Int) (r1 : -9223372036854775808≤a∧a≤9223372036854775807) (r2 : -9223372036854775808≤b∧b≤9223372036854775807) (r3 : -9223372036854775808≤c∧c≤9223372036854775807) (r4 : -9223372036854775808≤d∧d≤9223372036854775807) (w:World) :
  Calls Tryz.prog 223 #[aR a b,aR c d] w (dG (iV (a*c+b*d)) w):=by
 obtain ⟨W,hW⟩:∃ W,W=((w.alloc (.cells #[.int .i64 a,.int .i64 b] 24)).alloc (.cells #[.int .i64 c,.int .i64 d] 24)).alloc (.cells #[.int .i64 0,.int .u64 0] 141):=⟨_,rfl⟩
 have s1:W.drew.cell? ⟨w.heap.size,0,none⟩=some (.int .i64 a)∧W.drew.cell? ⟨w.heap.size,1,none⟩=some (.int .i64 b)∧W.drew.cell? ⟨w.heap.size+1,0,none⟩=some (.int .i64 c)∧W.drew.cell? ⟨w.heap.size+1,1,none⟩=some (.int .i64 d)∧There W.drew (w.heap.size+2) 2∧Below w.heap.size w W.drew:=by
  subst hW;exact ⟨by go_simp,by go_simp,by go_simp,by go_simp,fun j hj=>match j,hj with | 0,_=>⟨⟨_,by go_simp;rfl⟩,by go_simp⟩ | 1,_=>⟨⟨_,by go_simp;rfl⟩,by go_simp⟩,by go_grown⟩
 have S1:=hid s1;clear s1
 go_enter Tryz.func223,Tryz.ntmps223
 go_wp2;rw [← hW];have HW:=hid hW;clear hW
 go_region_held3 (fun w' => w'.cell? ⟨w.heap.size, 0, none⟩ = some (.int .i64 a) ∧ w'.cell? ⟨w.heap.size, 1, none⟩ = some (.int .i64 b) ∧ w'.cell? ⟨w.heap.size + 1, 0, none⟩ = some (.int .i64 c) ∧ w'.cell? ⟨w.heap.size + 1, 1, none⟩ = some (.int .i64 d) ∧ There w' (w.heap.size + 2) 2 ∧ Below w.heap.size w w')
  (first | with_reducible exact S1.out | with_reducible exact ⟨g1,g2,g3,g4,g5,g6⟩ | with_reducible exact ⟨lW (by omega) g1,lW (by omega) g2,lW (by omega) g3,lW (by omega) g4,((g5.set _ _).set _ _),by go_grown⟩ | (go_split_ands;with_reducible exact ⟨keepCell hb1 (by assumption),keepCell hb1 (by assumption),keepCell hb1 (by assumption),keepCell hb1 (by assumption),There.below hb1 (by assumption),aj hb1 (by assumption)⟩))
  (first | (go_at_call 95;refine (kg _ _ (by omega) (by omega) (by omega) (by omega) _).mono ?_;rintro e w1 ⟨rfl,hb1⟩) | (go_at_call 94;refine (FV _ _ _).mono ?_;rintro e w1 ⟨rfl,hb1⟩;go_split_ands;have g1:w1.cell? ⟨w.heap.size,0,none⟩=some (.int .i64 a):=keepCell hb1 (by assumption);have g2:w1.cell? ⟨w.heap.size,1,none⟩=some (.int .i64 b):=keepCell hb1 (by assumption);have g3:w1.cell? ⟨w.heap.size+1,0,none⟩=some (.int .i64 c):=keepCell hb1 (by assumption);have g4:w1.cell? ⟨w.heap.size+1,1,none⟩=some (.int .i64 d):=keepCell hb1 (by assumption);have g5:There w1 (w.heap.size+2) 2:=There.below hb1 (by assumption);have g6:Below w.heap.size w w1:=aj hb1 (by assumption);obtain ⟨z0,z1,y0,y1,f0,f1⟩:=g5.get2))
 go_wp2;refine bodyPost_ret (v:=iV (a*c+b*d)) (by simp [results,Tryz.results223,go_sem,y0,y1]) rfl ⟨rfl,?_⟩
 go_grown

structure uz (a b u d q r : Int) : Prop where
 eq:u=q*a+r
 r0:0≤r
 rlt:r<4294967296
 q0:0≤q
 hi:(u*4294967296+d) / (a*4294967296+b)≤q
 top:q≤4294967297∧(q=4294967297→r<a)
section
variable {a b u d:Int}
theorem uS (ha:2147483648≤a) (ha':a<4294967296) (hb:0≤b) (hb':b<4294967296) (hu:0≤u) (hu':u<a*4294967296+b) (hd:0≤d) (hd':d<4294967296) :
  uz a b u d (u / a) (u % a):=by
 have h1:=Int.emod_add_mul_ediv u a;have h2:=Int.emod_nonneg u (show a≠0 by omega);have h3:=Int.emod_lt_of_pos u (show 0<a by omega);have hq0:0≤u / a:=Int.ediv_nonneg hu (by omega)
 have hqt:u / a≤4294967297:=by
  have:u / a<4294967298:=Int.ediv_lt_of_lt_mul (by omega) (by omega);omega
 refine ⟨by rw [Int.mul_comm];omega,h2,by omega,hq0,?_,hqt,fun _=>h3⟩
 -- the true digit is at most the guess
 have:(u*4294967296+d) / (a*4294967296+b)<u / a+1:=by
  refine Int.ediv_lt_of_lt_mul (by omega) ?_;generalize u / a=q at *
  generalize u % a=r at *
  have hp:0≤(q+1)*b:=Int.mul_nonneg (by omega) hb;have e:(q+1)*(a*4294967296+b)=(a*q+a)*4294967296+(q+1)*b:=by grind
  rw [e];omega
 omega

theorem oK {q r:Int} (ha:2147483648≤a) (hb:0≤b) (h:uz a b u d q r):r*4294967296+d<q*b↔(u*4294967296+d) / (a*4294967296+b)<q:=by
 have e:q*(a*4294967296+b)=(u-r)*4294967296+q*b:=by rw [h.eq];grind
 constructor
 ·intro hlt;refine Int.ediv_lt_of_lt_mul (by omega) ?_;rw [e];omega
 ·intro hlt;have h2:u*4294967296+d<q*(a*4294967296+b):=Int.lt_mul_of_ediv_lt (by omega) hlt;rw [e] at h2;omega
theorem tq (ha:2147483648≤a) (hb:0≤b) (hu':u<a*4294967296+b) (hd':d<4294967296):(u*4294967296+d) / (a*4294967296+b)<4294967296 :=
 Int.ediv_lt_of_lt_mul (by omega) (by omega)
theorem nO {q r:Int} (ha:2147483648≤a) (hb:0≤b) (hd:0≤d) (hu':u<a*4294967296+b) (hd':d<4294967296) (h:uz a b u d q r) (hc:4294967296≤q∨r*4294967296+d<q*b) (hr:r+a<4294967296):uz a b u d (q-1) (r+a):=by
 have hlt:(u*4294967296+d) / (a*4294967296+b)<q:=by
  rcases hc with hc | hc
  ·have:=tq ha hb hu' hd';omega
  ·exact (oK ha hb h).1 hc
 have h0:0<q:=by
  rcases hc with hc | hc
  ·omega
  ·rcases Int.lt_or_le 0 q with h1 | h1
   ·exact h1
   ·have := h.q0;have e:q=0:=by omega
    subst e;have:=h.r0;rw [Int.zero_mul] at hc;omega
 exact ⟨by rw [h.eq];grind,by have:=h.r0;omega,hr,by omega,by omega,by have:=h.top.1;omega,fun e=>by have:=h.top.1;omega⟩

theorem zD {q r:Int} (ha:2147483648≤a) (hb:0≤b) (h:uz a b u d q r) (hc2:¬ r*4294967296+d<q*b):q=(u*4294967296+d) / (a*4294967296+b):=by
 have:=(oK ha hb h);have:=h.hi;have h3:¬ (u*4294967296+d) / (a*4294967296+b)<q:=fun hh=>hc2 ((oK ha hb h).2 hh)
 omega

theorem mF {q r:Int} (ha:2147483648≤a) (ha':a<4294967296) (hb:0≤b) (hb':b<4294967296) (hd:0≤d) (hu':u<a*4294967296+b) (hd':d<4294967296) (h:uz a b u d q r) (hc:4294967296≤q∨r*4294967296+d<q*b) (hr:4294967296≤r+a):q-1=(u*4294967296+d) / (a*4294967296+b):=by
 have hlt:(u*4294967296+d) / (a*4294967296+b)<q:=by
  rcases hc with hc | hc
  ·have:=tq ha hb hu' hd';omega
  ·exact (oK ha hb h).1 hc
 have hle:q-1≤(u*4294967296+d) / (a*4294967296+b):=by
  refine Int.le_ediv_of_mul_le (by omega) ?_;have e:(q-1)*(a*4294967296+b)=(u-(r+a))*4294967296+(q-1)*b:=by rw [h.eq];grind
  rw [e];have hq:q-1≤4294967296:=by have:=h.top.1;omega
  have hq2:0≤q-1∨q-1<0:=by omega
  have hm:(q-1)*b≤4294967296*4294967295:=by
   rcases Int.lt_or_le (q-1) 0 with h0 | h0
   ·have := Int.mul_nonneg (show 0 ≤ -(q - 1) by omega) hb;rw [Int.neg_mul] at this;omega
   ·exact Int.mul_le_mul hq (by omega) hb (by omega)
  omega
 omega
end

theorem ED {y u d1 d0 q1 q0:Int} (hy:0<y) (h1:q1=(u*4294967296+d1) / y) (h0:q0=((u*4294967296+d1) % y*4294967296+d0) / y) :
  (u*18446744073709551616+d1*4294967296+d0) / y=q1*4294967296+q0∧(u*18446744073709551616+d1*4294967296+d0) % y=((u*4294967296+d1) % y*4294967296+d0) % y:=by
 have e1:=Int.emod_add_mul_ediv (u*4294967296+d1) y;generalize hr:(u*4294967296+d1) % y=r at *
 rw [← h1] at e1
 have e:u*18446744073709551616+d1*4294967296+d0=(r*4294967296+d0)+(q1*4294967296)*y:=by
  have:u*18446744073709551616+d1*4294967296=(u*4294967296+d1)*4294967296:=by omega
  rw [this,← e1];grind
 rw [e,Int.add_mul_ediv_right _ _ (by omega),Int.add_mul_emod_self_right,← h0];omega

theorem shifted {n y P:Int} (hP:0<P):(n*P) / (y*P)=n / y∧(n*P) % (y*P) / P=n % y:=by
 refine ⟨Int.mul_ediv_mul_of_pos_left n y hP,?_⟩;rw [Int.mul_comm n P,Int.mul_comm y P,Int.mul_emod_mul_of_pos _ _ hP,Int.mul_ediv_cancel_left _ (by omega)]
theorem qz (n:Nat):((2 ^ n:Nat):Int)=(2:Int) ^ n:=by simp
theorem rW (n:Nat):(0:Int)<2 ^ n:=by rw [← qz];exact Int.ofNat_lt.2 (Nat.two_pow_pos n)
theorem J3 {x z:Int} {n:Nat} (hx:0≤x) (hz:0≤z) (hn:n≤64) (hz':z<2 ^ n) (hs:x*2 ^ n+z<18446744073709551616):bits .or .u64 (x*2 ^ n) z=x*2 ^ n+z:=by
 obtain ⟨a,rfl⟩:=Int.eq_ofNat_of_zero_le hx;obtain ⟨c,rfl⟩:=Int.eq_ofNat_of_zero_le hz;have hp:=rW n;have e:(a:Int)*2 ^ n=((a*2 ^ n:Nat):Int):=by simp
 rw [e] at hs ⊢;have hc:c<2 ^ n:=by rw [← qz] at hz';exact Int.ofNat_lt.1 hz'
 rw [bits_or_u64_nat _ _ (by omega) (by omega)];have:=Nat.shiftLeft_add_eq_or_of_lt hc a;rw [Nat.shiftLeft_eq] at this;rw [← this];simp
theorem bF {x:Int} (h0:0≤x) (h1:x<18446744073709551616):IntKind.u64.wrap x=x:=by
 rw [IntKind.wrap_u64];omega

structure Norm (hi lo y : Int) (n : Nat) (P Y u L : Int) : Prop where
 P0:0<P
 Pe:(2:Int) ^ n=P
 Ye:Y=y*P
 Yw:IntKind.u64.wrap (y*2 ^ n)=Y
 Y1:9223372036854775808≤Y
 Y2:Y<18446744073709551616
 uw:bits .or .u64 (IntKind.u64.wrap (hi*2 ^ n)) (lo / 2 ^ (64-n))=u
 u0:0≤u
 u1:u<Y
 Lw:IntKind.u64.wrap (lo*2 ^ n)=L
 L0:0≤L
 L1:L<18446744073709551616
 eq:(hi*18446744073709551616+lo)*P=u*18446744073709551616+L
theorem MX (hi lo y:Int) (h1:0<hi) (h2:hi<y) (h3:y<18446744073709551616) (h4:0≤lo) (h5:lo<18446744073709551616) :
  ∃ P Y u L,Norm hi lo y (64-Lib.bitLen y.toNat) P Y u L:=by
 have hb1:Lib.bitLen y.toNat≤64:=Lib.bitLen_le _ 64 (Nat.le_refl _) (by omega);obtain ⟨hb2,s2,s1⟩:1≤Lib.bitLen y.toNat∧2 ^ (Lib.bitLen y.toNat-1)≤y.toNat∧y.toNat<2 ^ Lib.bitLen y.toNat:=Lib.bitLenAux_bounds 64 y.toNat (by omega) (by omega);generalize Lib.bitLen y.toNat=bl at *
 generalize hn:64-bl=n;have en:bl=64-n:=by omega
 subst en;have hn':n≤63:=by omega
 clear hb1 hb2 hn;have hP:=rW n;have hQ:=rW (64-n);have hQ1:=rW (64-n-1)
 have hPQ:(2:Int) ^ n*2 ^ (64-n)=18446744073709551616:=by
  rw [← Int.pow_add,show n+(64-n)=64 by omega];decide
 have hPQ1:(2:Int) ^ n*2 ^ (64-n-1)=9223372036854775808:=by
  rw [← Int.pow_add,show n+(64-n-1)=63 by omega];decide
 have t1:y<2 ^ (64-n):=by
  have:=Int.ofNat_lt.2 s1;rw [qz] at this;omega
 have t2:(2:Int) ^ (64-n-1)≤y:=by
  have:=Int.ofNat_le.2 s2;rw [qz] at this;omega
 generalize hPe:(2:Int) ^ n=P at *
 generalize hQe:(2:Int) ^ (64-n)=Q at *
 generalize (2:Int) ^ (64-n-1)=Q1 at *
 have y1:y*P<18446744073709551616:=by
  rw [← hPQ,Int.mul_comm P Q];exact Int.mul_lt_mul_of_pos_right t1 hP
 have y2:9223372036854775808≤y*P:=by
  rw [← hPQ1,Int.mul_comm P Q1];exact Int.mul_le_mul_of_nonneg_right t2 (by omega)
 have x1:(hi+1)*P≤y*P:=Int.mul_le_mul_of_nonneg_right (by omega) (by omega);have x2:(hi+1)*P=hi*P+P:=by grind
 have x3:0≤hi*P:=Int.mul_nonneg (by omega) (by omega);have l1:lo / Q<P:=Int.ediv_lt_of_lt_mul hQ (by rw [hPQ];exact h5);have l2:0≤lo / Q:=Int.ediv_nonneg h4 (by omega);have l3:=Int.emod_add_mul_ediv lo Q;have l4:=Int.emod_nonneg lo (show Q≠0 by omega);have l5:=Int.emod_lt_of_pos lo hQ;have ew:IntKind.u64.wrap (hi*P)=hi*P:=bF x3 (by omega)
 have l6:lo*P=lo / Q*18446744073709551616+lo % Q*P:=by
  rw [← hPQ];have:lo*P=(lo % Q+Q*(lo / Q))*P:=by rw [l3]
  rw [this];grind
 have l7:0≤lo % Q*P:=Int.mul_nonneg l4 (by omega)
 have l8:lo % Q*P<18446744073709551616:=by
  rw [← hPQ,Int.mul_comm P Q];exact Int.mul_lt_mul_of_pos_right l5 hP
 refine ⟨P,y*P,hi*P+lo / Q,lo % Q*P,hP,hPe,rfl,?_,y2,y1,?_,by omega,by omega,?_,l7,l8,?_⟩
 ·rw [hPe];exact bF (by omega) y1
 ·rw [hPe, hQe, ew, ← hPe];exact J3 (by omega) l2 (by omega) (by rw [hPe];exact l1) (by rw [hPe];omega)
 ·rw [hPe, l6];rw [IntKind.wrap_u64];omega
 ·have : (hi * 18446744073709551616 + lo) * P = hi * P * 18446744073709551616 + lo * P := by grind
  rw [this,l6];omega

def kM (W n:Int):Int:=if n<0 then (2*(-W)+(-n)) / (2*(-n)) else (2*W+n) / (2*n)
theorem Oj {q d r:Int} (hr:0≤r) (hr':r<d):(2*(q*d+r)+d) / (2*d)=q+(if d≤2*r then 1 else 0):=by
 have e:2*(q*d+r)+d=(2*r+d)+q*(2*d):=by grind
 rw [e,Int.add_mul_ediv_right _ _ (by omega)]
 split
 ·have e2 : 2 * r + d = (2 * r - d) + 1 * (2 * d) := by omega
  rw [e2,Int.add_mul_ediv_right _ _ (by omega),Int.ediv_eq_zero_of_lt (by omega) (by omega)];omega
 ·rw [Int.ediv_eq_zero_of_lt (by omega) (by omega)];omega
theorem Oh {q d r:Int} (hr:0≤r) (hr':r<d):(2*(-(q*d+r))+d) / (2*d) = -(q+(if d<2*r then 1 else 0)):=by
 have e:2*(-(q*d+r))+d=(d-2*r)+(-q)*(2*d):=by grind
 rw [e,Int.add_mul_ediv_right _ _ (by omega)]
 split
 ·have e2 : d - 2 * r = (3 * d - 2 * r) + (-1) * (2 * d) := by omega
  rw [e2,Int.add_mul_ediv_right _ _ (by omega),Int.ediv_eq_zero_of_lt (by omega) (by omega)];omega
 ·rw [Int.ediv_eq_zero_of_lt (by omega) (by omega)];omega

structure uF (W n : Int) (ng : Bool) (M d : Int) : Prop where
 d0:0<d
 dm:d≤9223372036854775808
 M0:0≤M
 Mm:M≤170141183460469231731687303715884105728
 n0:n≠0
 is:(ng=false∧(W=M∧n=d∨W = -M∧n = -d))∨(ng=true∧(W = -M∧n=d∨W=M∧n = -d))
theorem uF.rnd_f {W n M d q r:Int} (h:uF W n false M d) (e:M=q*d+r) (hr:0≤r) (hr':r<d):kM W n=q+(if d≤2*r then 1 else 0):=by
 have hd:=h.d0;rw [← Oj hr hr',← e]
 rcases h.is with ⟨_,⟨rfl,rfl⟩ | ⟨rfl,rfl⟩⟩ | ⟨h,_⟩
 ·rw [kM,if_neg (by omega)]
 ·rw [kM,if_pos (by omega),Int.neg_neg,Int.neg_neg]
 ·simp at h
theorem uF.rnd_t {W n M d q r:Int} (h:uF W n true M d) (e:M=q*d+r) (hr:0≤r) (hr':r<d):kM W n = -(q+(if d<2*r then 1 else 0)):=by
 have hd:=h.d0;rw [← Oh hr hr',← e]
 rcases h.is with ⟨h,_⟩ | ⟨_,⟨rfl,rfl⟩ | ⟨rfl,rfl⟩⟩
 ·simp at h
 ·rw [kM,if_neg (by omega)]
 ·rw [kM,if_pos (by omega),Int.neg_neg]

def cZ (W n:Int):Int:=if n=0 then 0 else if -9223372036854775808≤kM W n∧kM W n≤9223372036854775807 then kM W n else 0
def dQ (W n:Int):Int:=if n=0 then 17 else if -9223372036854775808≤kM W n∧kM W n≤9223372036854775807 then 0 else 2
theorem oD {W n v:Int} (hn:n≠0) (h:kM W n=v) (h1 : -9223372036854775808≤v) (h2:v≤9223372036854775807):cZ W n=v∧dQ W n=0:=by
 subst h;unfold cZ dQ;rw [if_neg hn,if_neg hn,if_pos ⟨h1,h2⟩,if_pos ⟨h1,h2⟩];exact ⟨rfl,rfl⟩
theorem fE {W n v:Int} (hn:n≠0) (h:kM W n=v) (h1:v < -9223372036854775808∨9223372036854775807<v):cZ W n=0∧dQ W n=2:=by
 subst h;unfold cZ dQ;rw [if_neg hn,if_neg hn,if_neg (by omega),if_neg (by omega)];exact ⟨rfl,rfl⟩

theorem uF.large {W n M d:Int} {ng:Bool} (h:uF W n ng M d) (hh:d≤M / 18446744073709551616):cZ W n=0∧dQ W n=2:=by
 have hd:=h.d0;have e:=Int.emod_add_mul_ediv M d;have r0:=Int.emod_nonneg M (show d≠0 by omega);have r1:=Int.emod_lt_of_pos M hd;have hq:18446744073709551616≤M / d:=Int.le_ediv_of_mul_le hd (by have:=Int.mul_comm 18446744073709551616 d;omega);generalize M / d=q at *
 generalize M % d=r at *
 have e':M=q*d+r:=by rw [Int.mul_comm];omega
 cases ng with
 | false=>exact fE h.n0 (h.rnd_f e' r0 r1) (by split <;> omega)
 | true=>exact fE h.n0 (h.rnd_t e' r0 r1) (by split <;> omega)
theorem Oe {z:Int} (h1 : -170141183460469231731687303715884105728≤z) (h2:z<170141183460469231731687303715884105728):oW z=z / 18446744073709551616:=by unfold oW wrap64;omega
theorem M4 {M:Int} (h1:0≤M) (h2:M≤170141183460469231731687303715884105728):oW M % 18446744073709551616=M / 18446744073709551616:=by unfold oW wrap64;omega
def DN:Go.Shelf.Ren:=⟨fun | 134=>217 | 129=>197 | n=>n,fun | 53=>118 | 3=>3 | 4=>4 | 46=>191 | 5=>5 | 9=>9 | n=>n,fun | n=>n⟩
theorem Nl : Go.Proofs.Lays.n134 Tryz.prog DN := {
 mixed:=by kernel_rfl
 f129:=Tryz.func197.trans (congrArg some (by kernel_rfl))
 f134:=Tryz.func217.trans (congrArg some (by kernel_rfl))
 t3:=Tryz.underlying3
 a3:=Tryz.isAgg3
 z3:=Tryz.sizeOf3
 v3:=Tryz.zeroValue3
 t4:=Tryz.underlying4
 a4:=Tryz.isAgg4
 z4:=Tryz.sizeOf4
 v4:=Tryz.zeroValue4
 t5:=Tryz.underlying5
 a5:=Tryz.isAgg5
 z5:=Tryz.sizeOf5
 v5:=Tryz.zeroValue5
 t9:=Tryz.underlying9
 a9:=Tryz.isAgg9
 z9:=Tryz.sizeOf9
 v9:=Tryz.zeroValue9
 t46:=Tryz.underlying191
 a46:=Tryz.isAgg191
 z46:=Tryz.sizeOf191
 v46:=Tryz.zeroValue191
 t53:=Tryz.underlying118
 a53:=Tryz.isAgg118
 z53:=Tryz.sizeOf118
 v53:=Tryz.zeroValue118 }
theorem bits_LeadingZeros64 (x:Int) (w:World) (h0:0≤x) (h1:x≤18446744073709551615) :
  Calls Tryz.prog 217 #[.int .u64 x] w fun e w'=>e = .returned (.int .i64 (64-(Lib.bitLen x.toNat:Int)))∧w'=w:=Any.bits_LeadingZeros64 Nl x w h0 h1
theorem Ci (hi lo y:Int) (h1:0<hi) (h2:hi<y) (h3:y<18446744073709551616) (h4:0≤lo) (h5:lo<18446744073709551616) (w:World) :
  Calls Tryz.prog 158 #[.int .u64 hi,.int .u64 lo,.int .u64 y] w (dG (.tuple #[.int .u64 ((hi*18446744073709551616+lo) / y),.int .u64 ((hi*18446744073709551616+lo) % y)]) w):=by
 obtain ⟨P,Y,u,L,N⟩:=MX hi lo y h1 h2 h3 h4 h5;have n1:(y == 0)=false:=by simp;omega
 have n2:(hi == 0)=false:=by simp;omega
 have n3:¬ y≤hi:=by omega
 have n4:0≤y:=by omega
 have n5:y≤18446744073709551615:=by omega
 have n6:0≤hi:=by omega
 have hn:(64-(Lib.bitLen y.toNat:Int))=((64-Lib.bitLen y.toNat:Nat):Int):=by
  have:Lib.bitLen y.toNat≤64:=Lib.bitLen_le _ 64 (Nat.le_refl _) (by omega);omega
 have hn64:64-Lib.bitLen y.toNat≤64:=by omega
 generalize 64-Lib.bitLen y.toNat=n at *
 have HN:=hid hn;have NN:=hid N;have e1:=N.Yw;have e2:=N.uw;have e3:=N.Lw;have y1:=N.Y1;have y2:=N.Y2;have u0:=N.u0;have u1:=N.u1;have l0:=N.L0;have l1:=N.L1;clear N hn;obtain ⟨a,ha⟩:∃ a,a=Y / 4294967296:=⟨_,rfl⟩;obtain ⟨b,hb⟩:∃ b,b=Y % 4294967296:=⟨_,rfl⟩;obtain ⟨d1,hd1⟩:∃ d,d=L / 4294967296:=⟨_,rfl⟩;obtain ⟨d0,hd0⟩:∃ d,d=L % 4294967296:=⟨_,rfl⟩;have g1:Y / 4294967296=a:=ha.symm;have g2:bits .and .u64 Y 4294967295=b:=by rw [and_low32 Y (by omega) (by omega)];exact hb.symm
 have g3:L / 4294967296=d1:=hd1.symm;have g4:bits .and .u64 L 4294967295=d0:=by rw [and_low32 L (by omega) (by omega)];exact hd0.symm
 have a1:2147483648≤a:=by omega
 have a2:a<4294967296:=by omega
 have b1:0≤b:=by omega
 have b2:b<4294967296:=by omega
 have c1:0≤d1:=by omega
 have c2:d1<4294967296:=by omega
 have c3:0≤d0:=by omega
 have c4:d0<4294967296:=by omega
 have hY:Y=a*4294967296+b:=by omega
 have hL:L=d1*4294967296+d0:=by omega
 have na:¬ a=0:=by omega
 have G1:=uS a1 a2 b1 b2 u0 (by omega) c1 c2;generalize hq1:u / a=q1 at G1;generalize hr1:u % a=r1 at G1;have g5:u.tdiv a=q1:=by rw [Int.tdiv_eq_ediv_of_nonneg u0];exact hq1
 have qb:=G1.top.1;have q0:=G1.q0;have g6:IntKind.u64.wrap q1=q1:=bF (by omega) (by omega)
 have g7:IntKind.u64.wrap (u-IntKind.u64.wrap (q1*a))=r1:=by
  have:=G1.eq;have:=G1.r0;have:=G1.rlt;have:0≤q1*a:=Int.mul_nonneg q0 (by omega);rw [bF (x:=q1*a) (by omega) (by omega),bF (by omega) (by omega)];omega
 have HYL:=hid (And.intro hY hL);have GG1:=hid G1;clear ha hb hd1 hd0 hY hL G1 hq1 hr1;have hY:=HYL.out.1;have U1:Hid (u<a*4294967296+b):=hid (by omega);have hv1:(u*4294967296+d1) / (a*4294967296+b)<4294967296:=tq a1 b1 U1.out c2;have hv0:0≤(u*4294967296+d1) / (a*4294967296+b):=Int.ediv_nonneg (by omega) (by omega);have hv2:=Int.emod_add_mul_ediv (u*4294967296+d1) (a*4294967296+b);have hv3:=Int.emod_nonneg (u*4294967296+d1) (show a*4294967296+b≠0 by omega);have hv4:=Int.emod_lt_of_pos (u*4294967296+d1) (show 0<a*4294967296+b by omega);generalize hV1:(u*4294967296+d1) / (a*4294967296+b)=v1 at hv1 hv0 hv2;generalize hX1:(u*4294967296+d1) % (a*4294967296+b)=x1 at hv2 hv3 hv4
 have k1:IntKind.u64.wrap (IntKind.u64.wrap (IntKind.u64.wrap (u*4294967296)+d1)-IntKind.u64.wrap (v1*Y))=x1:=by
  rw [hY,Int.mul_comm v1];generalize (a*4294967296+b)*v1=z at hv2;simp only [IntKind.wrap_u64];omega
 have x0:0≤x1:=hv3;have xY:x1<Y:=by omega
 have U2:Hid (x1<a*4294967296+b):=hid hv4;have HV1:=hid hV1;have HX1:=hid hX1;have G2:=uS a1 a2 b1 b2 x0 hv4 c3 c4;generalize hq2:x1 / a=q2 at G2;generalize hr2:x1 % a=r2 at G2;have k2:x1.tdiv a=q2:=by rw [Int.tdiv_eq_ediv_of_nonneg x0];exact hq2
 have kb:=G2.top.1;have k0:=G2.q0;have k3:IntKind.u64.wrap q2=q2:=bF (by omega) (by omega)
 have k4:IntKind.u64.wrap (x1-IntKind.u64.wrap (q2*a))=r2:=by
  have:=G2.eq;have:=G2.r0;have:=G2.rlt;have:0≤q2*a:=Int.mul_nonneg k0 (by omega);rw [bF (x:=q2*a) (by omega) (by omega),bF (by omega) (by omega)];omega
 have hw1:(x1*4294967296+d0) / (a*4294967296+b)<4294967296:=tq a1 b1 U2.out c4;have hw0:0≤(x1*4294967296+d0) / (a*4294967296+b):=Int.ediv_nonneg (by omega) (by omega);have hw2:=Int.emod_add_mul_ediv (x1*4294967296+d0) (a*4294967296+b);have hw3:=Int.emod_nonneg (x1*4294967296+d0) (show a*4294967296+b≠0 by omega);have hw4:=Int.emod_lt_of_pos (x1*4294967296+d0) (show 0<a*4294967296+b by omega);generalize hV2:(x1*4294967296+d0) / (a*4294967296+b)=v2 at hw1 hw0 hw2;generalize hX2:(x1*4294967296+d0) % (a*4294967296+b)=x2 at hw2 hw3 hw4
 have k5:IntKind.u64.wrap (IntKind.u64.wrap (IntKind.u64.wrap (x1*4294967296)+d0)-IntKind.u64.wrap (v2*Y))=x2:=by
  rw [hY,Int.mul_comm v2];generalize (a*4294967296+b)*v2=z at hw2;simp only [IntKind.wrap_u64];omega
 have z0:0≤x2:=hw3;have zY:x2<Y:=by omega
 have HV2:=hid hV2;have HX2:=hid hX2;have GG2:=hid G2
 have FIN:Hid ((hi*18446744073709551616+lo) / y=v1*4294967296+v2∧(hi*18446744073709551616+lo) % y=x2 / 2 ^ n):=by
  have hD:=ED (y:=a*4294967296+b) (u:=u) (d1:=d1) (d0:=d0) (q1:=v1) (q0:=v2) (by omega) hV1.symm (by rw [hX1];exact hV2.symm);rw [hX1,hX2] at hD;have hS:=shifted (n:=hi*18446744073709551616+lo) (y:=y) (P:=P) NN.out.P0;have e:u*18446744073709551616+d1*4294967296+d0=u*18446744073709551616+L:=by have:=HYL.out.2;omega
  rw [NN.out.eq,← NN.out.Ye,hY,← e,hD.1,hD.2] at hS;exact hid ⟨hS.1.symm,by rw [NN.out.Pe];exact hS.2.symm⟩
 clear hY hV1 hX1 hv2 hv3 hv4 G2 hq2 hr2 hV2 hX2 hw2 hw3 hw4
 go_enter Tryz.func158,Tryz.ntmps158
 go_upto_block 0 with (go_at_call 217;refine (bits_LeadingZeros64 y _ n4 n5).mono ?_;rintro e w1 ⟨rfl,hw⟩;rw [hw,HN.out];clear hw)
 clear g5 g6 g7 qb q0 e1 e2 e3 g1 g2 g3 g4
 go_cut [15,16] from 67 (fun q r wx=>q = .int .u64 v1∧wx=w)
 case first =>
  go_wp2_with fail
  go_loopw [15,16] (fun q r wr=>∃ q' r':Int,q = .int .u64 q'∧r = .int .u64 r'∧uz a b u d1 q' r'∧wr=w) (fun q _ _=>(intOf q).toNat)
  case atStart=>exact ⟨q1,r1,rfl,rfl,GG1.out,rfl⟩
  case round =>
   obtain ⟨q,r,rfl,rfl,G,rfl⟩:=hrel;have t1:=G.r0;have t2:=G.rlt;have t3:=G.q0;have t4:=G.top.1;have GG:=hid G;clear G
   by_cases hq:4294967296≤q
   ·by_cases hr : r + a < 4294967296
    ·go_wp2;go_roundw
     case rel=>exact ⟨q-1,r+a,by go_num,by go_num,nO a1 b1 c1 U1.out c2 GG.out (.inl hq) hr,by first | rfl | trivial⟩
     case measure=>simp [intOf];omega
    ·go_wp2
     go_meet
     exact ⟨congrArg (Value.int .u64) ((mF a1 a2 b1 b2 c1 U1.out c2 GG.out (.inl hq) (by omega)).trans HV1.out),rfl⟩
   ·obtain ⟨m, hm⟩ : ∃ m, m = q * b := ⟨_, rfl⟩;have hm0:0≤m:=by rw [hm];exact Int.mul_nonneg t3 b1
    have hm1:m≤q*4294967295:=by rw [hm];exact Int.mul_le_mul_of_nonneg_left (by omega) t3
    have gm:IntKind.u64.wrap (q*b)=m:=by rw [← hm];exact bF hm0 (by omega)
    have HM:=hid hm;clear hm
    by_cases ht:4294967296*r+d1<m
    ·have hq1 : 1 ≤ q := by omega
     have HT:Hid (r*4294967296+d1<q*b):=hid (by rw [← HM.out];omega)
     by_cases hr:r+a<4294967296
     ·go_wp2;go_roundw
      case rel=>exact ⟨q-1,r+a,by go_num,by go_num,nO a1 b1 c1 U1.out c2 GG.out (.inr HT.out) hr,by first | rfl | trivial⟩
      case measure=>simp [intOf];omega
     ·go_wp2
      go_meet
      exact ⟨congrArg (Value.int .u64) ((mF a1 a2 b1 b2 c1 U1.out c2 GG.out (.inr HT.out) (by omega)).trans HV1.out),rfl⟩
    ·have HT : Hid (q * b ≤ r * 4294967296 + d1) := hid (by rw [← HM.out]; omega);go_wp2
     go_meet
     exact ⟨congrArg (Value.int .u64) ((zD a1 b1 GG.out (Int.not_lt.2 HT.out)).trans HV1.out),rfl⟩
 case rest =>
 obtain ⟨rfl,hw⟩:=hcut;rw [hw];clear hw
 go_upto_block 2 with fail
 go_cut [18,16] from 102 (fun q r wx=>q = .int .u64 v2∧wx=w)
 case first =>
  go_wp2_with fail
  go_loopw [18,16] (fun q r wr=>∃ q' r':Int,q = .int .u64 q'∧r = .int .u64 r'∧uz a b x1 d0 q' r'∧wr=w) (fun q _ _=>(intOf q).toNat)
  case atStart=>exact ⟨q2,r2,rfl,rfl,GG2.out,rfl⟩
  case round =>
   obtain ⟨q,r,rfl,rfl,G,rfl⟩:=hrel;have t1:=G.r0;have t2:=G.rlt;have t3:=G.q0;have t4:=G.top.1;have GG:=hid G;clear G
   by_cases hq:4294967296≤q
   ·by_cases hr : r + a < 4294967296
    ·go_wp2;go_roundw
     case rel=>exact ⟨q-1,r+a,by go_num,by go_num,nO a1 b1 c3 U2.out c4 GG.out (.inl hq) hr,by first | rfl | trivial⟩
     case measure=>simp [intOf];omega
    ·go_wp2
     go_meet
     exact ⟨congrArg (Value.int .u64) ((mF a1 a2 b1 b2 c3 U2.out c4 GG.out (.inl hq) (by omega)).trans HV2.out),rfl⟩
   ·obtain ⟨m, hm⟩ : ∃ m, m = q * b := ⟨_, rfl⟩;have hm0:0≤m:=by rw [hm];exact Int.mul_nonneg t3 b1
    have hm1:m≤q*4294967295:=by rw [hm];exact Int.mul_le_mul_of_nonneg_left (by omega) t3
    have gm:IntKind.u64.wrap (q*b)=m:=by rw [← hm];exact bF hm0 (by omega)
    have HM:=hid hm;clear hm
    by_cases ht:4294967296*r+d0<m
    ·have hq1 : 1 ≤ q := by omega
     have HT:Hid (r*4294967296+d0<q*b):=hid (by rw [← HM.out];omega)
     by_cases hr:r+a<4294967296
     ·go_wp2;go_roundw
      case rel=>exact ⟨q-1,r+a,by go_num,by go_num,nO a1 b1 c3 U2.out c4 GG.out (.inr HT.out) hr,by first | rfl | trivial⟩
      case measure=>simp [intOf];omega
     ·go_wp2
      go_meet
      exact ⟨congrArg (Value.int .u64) ((mF a1 a2 b1 b2 c3 U2.out c4 GG.out (.inr HT.out) (by omega)).trans HV2.out),rfl⟩
    ·have HT : Hid (q * b ≤ r * 4294967296 + d0) := hid (by rw [← HM.out]; omega);go_wp2
     go_meet
     exact ⟨congrArg (Value.int .u64) ((zD a1 b1 GG.out (Int.not_lt.2 HT.out)).trans HV2.out),rfl⟩
 case rest =>
 obtain ⟨rfl,hw⟩:=hcut;rw [hw];clear hw;go_wp2;refine bodyPost_ret (v:=.tuple #[.int .u64 ((hi*18446744073709551616+lo) / y),.int .u64 ((hi*18446744073709551616+lo) % y)]) ?_ rfl ⟨rfl,by go_grown⟩;rw [FIN.out.1,FIN.out.2];simp [results,Tryz.results158,go_sem]
theorem EN (lo y:Int) (h2:0<y) (h3:y<18446744073709551616) (h4:0≤lo) (h5:lo<18446744073709551616) (w:World) :
  Calls Tryz.prog 158 #[.int .u64 0,.int .u64 lo,.int .u64 y] w (dG (.tuple #[.int .u64 (lo / y),.int .u64 (lo % y)]) w):=by
 have n1:(y == 0)=false:=by simp;omega
 have n2:¬ y=0:=by omega
 have n3:¬ y≤0:=by omega
 have q1:=Int.ediv_nonneg h4 (show 0≤y by omega);have q2:lo / y<18446744073709551616:=Int.ediv_lt_of_lt_mul h2 (by have:=Int.mul_le_mul_of_nonneg_left (show (1:Int)≤y by omega) (show (0:Int)≤18446744073709551616 by omega);omega);have r1:=Int.emod_nonneg lo (show y≠0 by omega);have r2:=Int.emod_lt_of_pos lo h2;have e1:lo.tdiv y=lo / y:=Int.tdiv_eq_ediv_of_nonneg h4;have e2:lo.tmod y=lo % y:=Int.tmod_eq_emod_of_nonneg h4;generalize hq:lo / y=q at q1 q2 e1;generalize hr:lo % y=r at r1 r2 e2;have Q:=hid hq;have R:=hid hr;clear hq hr;have w1:IntKind.u64.wrap q=q:=bF q1 q2;have w2:IntKind.u64.wrap r=r:=bF r1 (by omega)
 go_enter Tryz.func158,Tryz.ntmps158
 go_wp2
 go_quiet (fail)
 go_wp2;refine bodyPost_ret (v:=.tuple #[.int .u64 q,.int .u64 r]) (by simp [results,Tryz.results158,go_sem]) rfl ⟨rfl,below_drewN (Below.refl _ _) _⟩

theorem dV (hi lo y:Int) (h1:0≤hi) (h2:hi<y) (h3:y<18446744073709551616) (h4:0≤lo) (h5:lo<18446744073709551616) (w:World) :
  Calls Tryz.prog 158 #[.int .u64 hi,.int .u64 lo,.int .u64 y] w (dG (.tuple #[.int .u64 ((hi*18446744073709551616+lo) / y),.int .u64 ((hi*18446744073709551616+lo) % y)]) w):=by
 rcases Int.lt_or_le 0 hi with h | h
 ·exact Ci hi lo y h h2 h3 h4 h5 w
 ·have e : hi = 0 := by omega
  subst e;have:=EN lo y h2 h3 h4 h5 w;simpa using this
theorem EK (W:Int) (w:World):Calls Tryz.prog 157 #[.agg #[.int .i64 0,.int .u64 0],.agg #[.int .i64 (oW W),.int .u64 (jm W)]] w (dG (.agg #[.int .i64 (oW (-W)),.int .u64 (jm (-W))]) w):=by
 have h:=Dh 0 W w;rw [Int.zero_sub] at h;have e:iV 0 = .agg #[.int .i64 0,.int .u64 0]:=by simp [iV,oW,jm,wrap64]
 rw [e] at h;exact h
theorem oh (W n:Int) (h1 : -170141183460469231731687303715884105728≤W) (h2:W<170141183460469231731687303715884105728) (h3 : -9223372036854775808≤n) (h4:n≤9223372036854775807) (w:World) :
  Calls Tryz.prog 97 #[iV W,.int .i64 n] w (dG (.tuple #[.int .i64 (cZ W n),.int .i64 (dQ W n)]) w):=by
 obtain ⟨hb,hb'⟩:=OH W;obtain ⟨lb,lb'⟩:=oG W
 by_cases hn:n=0
 ·subst hn
  go_enter Tryz.func97,Tryz.ntmps97
  go_wp2;refine bodyPost_ret (v:=.tuple #[.int .i64 (cZ W 0),.int .i64 (dQ W 0)]) (by simp [results,Tryz.results97,go_sem,cZ,dQ]) rfl ⟨rfl,by go_grown⟩
 ·have hn' : (n == 0) = false := by simp [hn]
  obtain ⟨M,hM⟩:∃ M,M=if W<0 then -W else W:=⟨_,rfl⟩
  obtain ⟨d,hd⟩:∃ d,d=if n<0 then -n else n:=⟨_,rfl⟩
  have hWlt:(oW W<0)↔W<0:=by rw [Oe h1 h2];omega
  have hM0:0≤M:=by rw [hM];split <;> omega
  have hMm:M≤170141183460469231731687303715884105728:=by rw [hM];split <;> omega
  have hd0:0<d:=by rw [hd];split <;> omega
  have hdm:d≤9223372036854775808:=by rw [hd];split <;> omega
  have hsg:uF W n (decide (W<0) != decide (n<0)) M d:=by
   refine ⟨hd0,hdm,hM0,hMm,hn,?_⟩;rw [hM,hd]
   by_cases c1:W<0 <;> by_cases c2:n<0 <;> simp [c1,c2]
  have HS:=hid hsg;have HM:=hid hM;have HD:=hid hd;have HW:=hid hWlt;clear hsg hM hd hWlt
  go_enter Tryz.func97,Tryz.ntmps97
  go_upto_if 17 with fail
  have hng:decide (oW W<0)=decide (W<0):=by rw [decide_eq_decide];exact HW.out
  rw [hng];clear hng;generalize hs1:decide (W<0)=s1 at HS ⊢;have S1:=hid hs1;clear hs1
  go_cut [] from 18 (fun wx=>wx.cell? ⟨w.heap.size,0,none⟩=some (.int .i64 (oW M))∧wx.cell? ⟨w.heap.size,1,none⟩=some (.int .u64 (jm M))∧Below w.heap.size w wx)
  case first =>
   cases s1 with
   | true =>
    have hMe:Hid (-W=M):=hid (by rw [HM.out,if_pos (of_decide_eq_true S1.out)])
    have T0:There (w.alloc (.cells #[.int .i64 (oW W),.int .u64 (jm W)] 141)) w.heap.size 2:=by
     intro j hj;have:j=0∨j=1:=by omega
     rcases this with rfl | rfl
     ·exact ⟨⟨.int .i64 (oW W),by go_simp⟩,by go_simp⟩
     ·exact ⟨⟨.int .u64 (jm W),by go_simp⟩,by go_simp⟩
    have HT:=hid T0;have HB0:=hid ((Below.refl w.heap.size w).alloc (Nat.le_refl _) (.cells #[.int .i64 (oW W),.int .u64 (jm W)] 141));clear T0
    go_wp2_with (go_at_call 157;refine (EK W _).mono ?_;rintro e w1 ⟨rfl,hb1⟩;rw [hMe.out];obtain ⟨z0,z1,p0,p1,f0,f1⟩:=(There.below hb1 HT.out).get2)
    have hbw:=aj hb1 HB0.out
    go_meet
    refine ⟨by go_simp,by go_simp,by go_grown⟩
   | false =>
    have hMe:Hid (W=M):=hid (by rw [HM.out,if_neg (of_decide_eq_false S1.out)]);go_wp2
    go_meet
    rw [← hMe.out];refine ⟨by go_simp,by go_simp,by go_grown⟩
  case rest =>
   obtain ⟨p0,p1,hB⟩:=hcut
   go_upto_if 24 with fail
   generalize hs2:decide (n<0)=s2 at HS ⊢;have S2:=hid hs2;clear hs2
   go_cut [6,7] from 25 (fun a b wx=>a = .bool (s1 != s2)∧b = .int .u64 d∧wx=wc)
   case first =>
    cases s2 with
    | true =>
     have hdd:IntKind.u64.wrap (-IntKind.u64.wrap n)=d:=by rw [HD.out,if_pos (of_decide_eq_true S2.out)];simp only [IntKind.wrap_u64];have:=of_decide_eq_true S2.out;omega
     go_wp2
     go_meet
     exact ⟨by simp,rfl,rfl⟩
    | false =>
     have hdd:IntKind.u64.wrap n=d:=by rw [HD.out,if_neg (of_decide_eq_false S2.out)];simp only [IntKind.wrap_u64];have:=of_decide_eq_false S2.out;omega
     go_wp2
     go_meet
     exact ⟨by simp,congrArg (Value.int .u64) hdd,rfl⟩
   case rest =>
    obtain ⟨rfl,rfl,hw⟩:=hcut;rw [hw];clear hw;generalize (s1 != s2)=ng at HS ⊢;obtain ⟨Q,hQ⟩:∃ Q,Q=M / 18446744073709551616:=⟨_,rfl⟩;have hlo:jm M=M % 18446744073709551616:=rfl;have l0:=(oG M).1;have l1:=(oG M).2;have k1:IntKind.u64.wrap (oW M)=Q:=by rw [IntKind.wrap_u64,M4 hM0 hMm,hQ]
    have hd0:=HS.out.d0;have hdm:=HS.out.dm;have hQ0:0≤Q:=by omega
    by_cases hlarge:d≤Q
    ·have hl := HS.out.large (by rw [← hQ]; exact hlarge);have HL:=hid hl;clear hl hQ hlo;go_wp2;refine bodyPost_ret (v:=.tuple #[.int .i64 (cZ W n),.int .i64 (dQ W n)]) (by simp [results,Tryz.results97,go_sem,HL.out.1,HL.out.2]) rfl ⟨rfl,by go_grown⟩
    ·have e := Int.emod_add_mul_ediv M d;have r0:=Int.emod_nonneg M (show d≠0 by omega);have r1:=Int.emod_lt_of_pos M hd0;have q0:=Int.ediv_nonneg hM0 (show 0≤d by omega);have q1:M / d<18446744073709551616:=Int.ediv_lt_of_lt_mul hd0 (by omega);have hML:Q*18446744073709551616+jm M=M:=by omega
     have HML:=hid hML;generalize hq:M / d=q at e q0 q1;generalize hr:M % d=r at e r0 r1;have HQ:=hid hq;have HR:=hid hr;have E:=hid (show M=q*d+r by rw [Int.mul_comm];omega);have hdr:IntKind.u64.wrap (d-r)=d-r:=bF (by omega) (by omega);clear e hq hr hML hQ hlo
     cases ng with
     | false =>
      by_cases c0:d-r<r
      ·have hrd : kM W n = q + 1 := by rw [HS.out.rnd_f E.out r0 r1, if_pos (by omega)]
       have HRD:=hid hrd;have hn0:=hid HS.out.n0;clear hrd
       by_cases v1:(q+1)≤9223372036854775807
       ·have kq : IntKind.u64.wrap (q + 1) = q + 1 := bF (by omega) (by omega);have kw:wrap64 (q+1)=q+1:=by unfold wrap64;omega
        have kz:((q+1) == 0)=false:=by rw [beq_eq_false_iff_ne];omega
        have HL:Hid (cZ W n=(q+1)∧dQ W n=0):=hid (oD hn0.out (HRD.out.trans (by omega)) (by omega) (by omega))
        go_wp2_with (go_at_call 158;refine (dV Q (jm M) d hQ0 (by omega) (by omega) l0 l1 _).mono ?_;rintro e w2 ⟨rfl,hb2⟩;rw [HML.out,HQ.out,HR.out];have hbw:=aj hb2 (show Below w.heap.size w _ by first | exact hB | go_grown))
        refine bodyPost_ret (v:=.tuple #[.int .i64 (cZ W n),.int .i64 (dQ W n)]) (by simp [results,Tryz.results97,go_sem,HL.out.1,HL.out.2,kw]) rfl ⟨rfl,by go_grown⟩
       ·by_cases v2 : q + 1 < 18446744073709551616
        ·have kq : IntKind.u64.wrap (q + 1) = q + 1 := bF (by omega) (by omega);have kz:((q+1) == 0)=false:=by rw [beq_eq_false_iff_ne];omega
         have HL:Hid (cZ W n=0∧dQ W n=2):=hid (fE hn0.out HRD.out (by omega))
         go_wp2_with (go_at_call 158;refine (dV Q (jm M) d hQ0 (by omega) (by omega) l0 l1 _).mono ?_;rintro e w2 ⟨rfl,hb2⟩;rw [HML.out,HQ.out,HR.out];have hbw:=aj hb2 (show Below w.heap.size w _ by first | exact hB | go_grown))
         refine bodyPost_ret (v:=.tuple #[.int .i64 (cZ W n),.int .i64 (dQ W n)]) (by simp [results,Tryz.results97,go_sem,HL.out.1,HL.out.2]) rfl ⟨rfl,by go_grown⟩
        ·have kq : IntKind.u64.wrap (q + 1) = 0 := by rw [IntKind.wrap_u64]; omega
         have HL:Hid (cZ W n=0∧dQ W n=2):=hid (fE hn0.out HRD.out (by omega))
         go_wp2_with (go_at_call 158;refine (dV Q (jm M) d hQ0 (by omega) (by omega) l0 l1 _).mono ?_;rintro e w2 ⟨rfl,hb2⟩;rw [HML.out,HQ.out,HR.out];have hbw:=aj hb2 (show Below w.heap.size w _ by first | exact hB | go_grown))
         refine bodyPost_ret (v:=.tuple #[.int .i64 (cZ W n),.int .i64 (dQ W n)]) (by simp [results,Tryz.results97,go_sem,HL.out.1,HL.out.2]) rfl ⟨rfl,by go_grown⟩
      ·by_cases c1 : r = d - r
       ·have hb : (r == d - r) = true := by rw [beq_iff_eq]; exact c1
        have c1a:r≤d-r:=by omega
        have c1b:d-r≤r:=by omega
        clear c1;have hrd:kM W n=q+1:=by rw [HS.out.rnd_f E.out r0 r1,if_pos (by omega)]
        have HRD:=hid hrd;have hn0:=hid HS.out.n0;clear hrd
        by_cases v1:(q+1)≤9223372036854775807
        ·have kq : IntKind.u64.wrap (q + 1) = q + 1 := bF (by omega) (by omega);have kw:wrap64 (q+1)=q+1:=by unfold wrap64;omega
         have kz:((q+1) == 0)=false:=by rw [beq_eq_false_iff_ne];omega
         have HL:Hid (cZ W n=(q+1)∧dQ W n=0):=hid (oD hn0.out (HRD.out.trans (by omega)) (by omega) (by omega))
         go_wp2_with (go_at_call 158;refine (dV Q (jm M) d hQ0 (by omega) (by omega) l0 l1 _).mono ?_;rintro e w2 ⟨rfl,hb2⟩;rw [HML.out,HQ.out,HR.out];have hbw:=aj hb2 (show Below w.heap.size w _ by first | exact hB | go_grown))
         refine bodyPost_ret (v:=.tuple #[.int .i64 (cZ W n),.int .i64 (dQ W n)]) (by simp [results,Tryz.results97,go_sem,HL.out.1,HL.out.2,kw]) rfl ⟨rfl,by go_grown⟩
        ·by_cases v2 : q + 1 < 18446744073709551616
         ·have kq : IntKind.u64.wrap (q + 1) = q + 1 := bF (by omega) (by omega);have kz:((q+1) == 0)=false:=by rw [beq_eq_false_iff_ne];omega
          have HL:Hid (cZ W n=0∧dQ W n=2):=hid (fE hn0.out HRD.out (by omega))
          go_wp2_with (go_at_call 158;refine (dV Q (jm M) d hQ0 (by omega) (by omega) l0 l1 _).mono ?_;rintro e w2 ⟨rfl,hb2⟩;rw [HML.out,HQ.out,HR.out];have hbw:=aj hb2 (show Below w.heap.size w _ by first | exact hB | go_grown))
          refine bodyPost_ret (v:=.tuple #[.int .i64 (cZ W n),.int .i64 (dQ W n)]) (by simp [results,Tryz.results97,go_sem,HL.out.1,HL.out.2]) rfl ⟨rfl,by go_grown⟩
         ·have kq : IntKind.u64.wrap (q + 1) = 0 := by rw [IntKind.wrap_u64]; omega
          have HL:Hid (cZ W n=0∧dQ W n=2):=hid (fE hn0.out HRD.out (by omega))
          go_wp2_with (go_at_call 158;refine (dV Q (jm M) d hQ0 (by omega) (by omega) l0 l1 _).mono ?_;rintro e w2 ⟨rfl,hb2⟩;rw [HML.out,HQ.out,HR.out];have hbw:=aj hb2 (show Below w.heap.size w _ by first | exact hB | go_grown))
          refine bodyPost_ret (v:=.tuple #[.int .i64 (cZ W n),.int .i64 (dQ W n)]) (by simp [results,Tryz.results97,go_sem,HL.out.1,HL.out.2]) rfl ⟨rfl,by go_grown⟩
       ·have hb : (r == d - r) = false := by rw [beq_eq_false_iff_ne]; exact c1
        have hrd:kM W n=q+0:=by rw [HS.out.rnd_f E.out r0 r1,if_neg (by omega)]
        have HRD:=hid hrd;have hn0:=hid HS.out.n0;clear hrd
        by_cases v1:q≤9223372036854775807
        ·have kw : wrap64 q = q := by unfold wrap64; omega
         have HL:Hid (cZ W n=q∧dQ W n=0):=hid (oD hn0.out (HRD.out.trans (by omega)) (by omega) (by omega))
         go_wp2_with (go_at_call 158;refine (dV Q (jm M) d hQ0 (by omega) (by omega) l0 l1 _).mono ?_;rintro e w2 ⟨rfl,hb2⟩;rw [HML.out,HQ.out,HR.out];have hbw:=aj hb2 (show Below w.heap.size w _ by first | exact hB | go_grown))
         refine bodyPost_ret (v:=.tuple #[.int .i64 (cZ W n),.int .i64 (dQ W n)]) (by simp [results,Tryz.results97,go_sem,HL.out.1,HL.out.2,kw]) rfl ⟨rfl,by go_grown⟩
        ·have HL : Hid (cZ W n = 0 ∧ dQ W n = 2) := hid (fE hn0.out HRD.out (by omega))
         go_wp2_with (go_at_call 158;refine (dV Q (jm M) d hQ0 (by omega) (by omega) l0 l1 _).mono ?_;rintro e w2 ⟨rfl,hb2⟩;rw [HML.out,HQ.out,HR.out];have hbw:=aj hb2 (show Below w.heap.size w _ by first | exact hB | go_grown))
         refine bodyPost_ret (v:=.tuple #[.int .i64 (cZ W n),.int .i64 (dQ W n)]) (by simp [results,Tryz.results97,go_sem,HL.out.1,HL.out.2]) rfl ⟨rfl,by go_grown⟩
     | true =>
      by_cases c0:d-r<r
      ·have hrd : kM W n = -(q + 1) := by rw [HS.out.rnd_t E.out r0 r1, if_pos (by omega)]
       have HRD:=hid hrd;have hn0:=hid HS.out.n0;clear hrd
       by_cases v1:(q+1)≤9223372036854775808
       ·have kq : IntKind.u64.wrap (q + 1) = q + 1 := bF (by omega) (by omega);have kw:wrap64 (IntKind.u64.wrap (-(q+1))) = -(q+1):=by rw [IntKind.wrap_u64];unfold wrap64;omega
        have kz:((q+1) == 0)=false:=by rw [beq_eq_false_iff_ne];omega
        have HL:Hid (cZ W n=(-(q+1))∧dQ W n=0):=hid (oD hn0.out (HRD.out.trans (by omega)) (by omega) (by omega))
        go_wp2_with (go_at_call 158;refine (dV Q (jm M) d hQ0 (by omega) (by omega) l0 l1 _).mono ?_;rintro e w2 ⟨rfl,hb2⟩;rw [HML.out,HQ.out,HR.out];have hbw:=aj hb2 (show Below w.heap.size w _ by first | exact hB | go_grown))
        refine bodyPost_ret (v:=.tuple #[.int .i64 (cZ W n),.int .i64 (dQ W n)]) (by simp [results,Tryz.results97,go_sem,HL.out.1,HL.out.2,kw]) rfl ⟨rfl,by go_grown⟩
       ·by_cases v2 : q + 1 < 18446744073709551616
        ·have kq : IntKind.u64.wrap (q + 1) = q + 1 := bF (by omega) (by omega);have kz:((q+1) == 0)=false:=by rw [beq_eq_false_iff_ne];omega
         have HL:Hid (cZ W n=0∧dQ W n=2):=hid (fE hn0.out HRD.out (by omega))
         go_wp2_with (go_at_call 158;refine (dV Q (jm M) d hQ0 (by omega) (by omega) l0 l1 _).mono ?_;rintro e w2 ⟨rfl,hb2⟩;rw [HML.out,HQ.out,HR.out];have hbw:=aj hb2 (show Below w.heap.size w _ by first | exact hB | go_grown))
         refine bodyPost_ret (v:=.tuple #[.int .i64 (cZ W n),.int .i64 (dQ W n)]) (by simp [results,Tryz.results97,go_sem,HL.out.1,HL.out.2]) rfl ⟨rfl,by go_grown⟩
        ·have kq : IntKind.u64.wrap (q + 1) = 0 := by rw [IntKind.wrap_u64]; omega
         have HL:Hid (cZ W n=0∧dQ W n=2):=hid (fE hn0.out HRD.out (by omega))
         go_wp2_with (go_at_call 158;refine (dV Q (jm M) d hQ0 (by omega) (by omega) l0 l1 _).mono ?_;rintro e w2 ⟨rfl,hb2⟩;rw [HML.out,HQ.out,HR.out];have hbw:=aj hb2 (show Below w.heap.size w _ by first | exact hB | go_grown))
         refine bodyPost_ret (v:=.tuple #[.int .i64 (cZ W n),.int .i64 (dQ W n)]) (by simp [results,Tryz.results97,go_sem,HL.out.1,HL.out.2]) rfl ⟨rfl,by go_grown⟩
      ·by_cases c1 : r = d - r
       ·have hb : (r == d - r) = true := by rw [beq_iff_eq]; exact c1
        have c1a:r≤d-r:=by omega
        have c1b:d-r≤r:=by omega
        clear c1;have hrd:kM W n = -(q+0):=by rw [HS.out.rnd_t E.out r0 r1,if_neg (by omega)]
        have HRD:=hid hrd;have hn0:=hid HS.out.n0;clear hrd
        by_cases v1:q≤9223372036854775808
        ·have kw : wrap64 (IntKind.u64.wrap (-q)) = -q := by rw [IntKind.wrap_u64]; unfold wrap64; omega
         have HL:Hid (cZ W n=(-q)∧dQ W n=0):=hid (oD hn0.out (HRD.out.trans (by omega)) (by omega) (by omega))
         go_wp2_with (go_at_call 158;refine (dV Q (jm M) d hQ0 (by omega) (by omega) l0 l1 _).mono ?_;rintro e w2 ⟨rfl,hb2⟩;rw [HML.out,HQ.out,HR.out];have hbw:=aj hb2 (show Below w.heap.size w _ by first | exact hB | go_grown))
         refine bodyPost_ret (v:=.tuple #[.int .i64 (cZ W n),.int .i64 (dQ W n)]) (by simp [results,Tryz.results97,go_sem,HL.out.1,HL.out.2,kw]) rfl ⟨rfl,by go_grown⟩
        ·have HL : Hid (cZ W n = 0 ∧ dQ W n = 2) := hid (fE hn0.out HRD.out (by omega))
         go_wp2_with (go_at_call 158;refine (dV Q (jm M) d hQ0 (by omega) (by omega) l0 l1 _).mono ?_;rintro e w2 ⟨rfl,hb2⟩;rw [HML.out,HQ.out,HR.out];have hbw:=aj hb2 (show Below w.heap.size w _ by first | exact hB | go_grown))
         refine bodyPost_ret (v:=.tuple #[.int .i64 (cZ W n),.int .i64 (dQ W n)]) (by simp [results,Tryz.results97,go_sem,HL.out.1,HL.out.2]) rfl ⟨rfl,by go_grown⟩
       ·have hb : (r == d - r) = false := by rw [beq_eq_false_iff_ne]; exact c1
        have hrd:kM W n = -(q+0):=by rw [HS.out.rnd_t E.out r0 r1,if_neg (by omega)]
        have HRD:=hid hrd;have hn0:=hid HS.out.n0;clear hrd
        by_cases v1:q≤9223372036854775808
        ·have kw : wrap64 (IntKind.u64.wrap (-q)) = -q := by rw [IntKind.wrap_u64]; unfold wrap64; omega
         have HL:Hid (cZ W n=(-q)∧dQ W n=0):=hid (oD hn0.out (HRD.out.trans (by omega)) (by omega) (by omega))
         go_wp2_with (go_at_call 158;refine (dV Q (jm M) d hQ0 (by omega) (by omega) l0 l1 _).mono ?_;rintro e w2 ⟨rfl,hb2⟩;rw [HML.out,HQ.out,HR.out];have hbw:=aj hb2 (show Below w.heap.size w _ by first | exact hB | go_grown))
         refine bodyPost_ret (v:=.tuple #[.int .i64 (cZ W n),.int .i64 (dQ W n)]) (by simp [results,Tryz.results97,go_sem,HL.out.1,HL.out.2,kw]) rfl ⟨rfl,by go_grown⟩
        ·have HL : Hid (cZ W n = 0 ∧ dQ W n = 2) := hid (fE hn0.out HRD.out (by omega))
         go_wp2_with (go_at_call 158;refine (dV Q (jm M) d hQ0 (by omega) (by omega) l0 l1 _).mono ?_;rintro e w2 ⟨rfl,hb2⟩;rw [HML.out,HQ.out,HR.out];have hbw:=aj hb2 (show Below w.heap.size w _ by first | exact hB | go_grown))
         refine bodyPost_ret (v:=.tuple #[.int .i64 (cZ W n),.int .i64 (dQ W n)]) (by simp [results,Tryz.results97,go_sem,HL.out.1,HL.out.2]) rfl ⟨rfl,by go_grown⟩
end
end Go.Proofs.YtokgmcomgflloaaGreat
