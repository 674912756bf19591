/- Parts of a proof: contracts and laws. -/
import Derived.Test.YtiaoandbdgdecaaGreatPK00
import Derived.Test.YtiaoandbdgdecaaGreatPK01
import Derived.Test.YtiaoandbdgdecaaGreatPK02
import Derived.Deep.RegionHeld3
set_option maxRecDepth 100000
set_option maxHeartbeats 16000000
namespace Go.Proofs.YtiaoandbdgdecaaGreat
section
set_option linter.unusedVariables false
set_option linter.unusedSimpArgs false
open Go.RowKit


def edgeP (l:List V) (i:Nat) (p q:Int):Int:=sideZ (px l i) (py l i) (px l ((i+1) % l.length)) (py l ((i+1) % l.length)) p q
def hasTo (l:List V) (p q:Int) (k:Nat):Prop:=∀ i,i<k→0≤edgeP l i p q
def hasB (l:List V) (p q:Int):Bool:=decide (checkE l=0) && withinB 65536000 p q && (List.range l.length).all fun i=>decide (0≤edgeP l i p q)
theorem hasTo_zero (l:List V) (p q:Int):hasTo l p q 0:=fun _ h=>absurd h (by omega)
theorem hasTo_succ {l:List V} {p q:Int} {k:Nat} (h:hasTo l p q k) (hk:0≤edgeP l k p q):hasTo l p q (k+1):=fun i hi=>by
 by_cases e:i=k
 ·subst e;exact hk
 ·exact h i (by omega)
theorem hasB_true {l:List V} {p q:Int} (h1:checkE l=0) (h2:withinB 65536000 p q=true) (h3:hasTo l p q l.length):hasB l p q=true:=by
 unfold hasB
 rw [h2,decide_eq_true h1]
 simp only [Bool.and_self,Bool.true_and,List.all_eq_true,List.mem_range,decide_eq_true_iff]
 exact h3
theorem hasB_false {l:List V} {p q:Int} {k:Nat} (hk:k<l.length) (h:edgeP l k p q<0):hasB l p q=false:=by
 have:((List.range l.length).all fun i=>decide (0≤edgeP l i p q))=false:=by
  rw [List.all_eq_false]
  exact ⟨k,List.mem_range.2 hk,by simp;omega⟩
 unfold hasB
 rw [this]
 simp
theorem hasB_iff {l:List V} {p q:Int}:hasB l p q=true↔checkE l=0∧withinB 65536000 p q=true∧hasTo l p q l.length:=by
 unfold hasB hasTo
 simp [and_assoc]
theorem has_calls (A:Option Addr) (n c:Nat) (l:List V) (p q:Int) (w:World) (hS:Sl w A n c l) :
  Calls Tryz.prog 137 #[.slice A n c,vecV p q] w (Ret (.bool (hasB l p q)) w):=by
 have hS1:Sl (w.alloc (.cells #[.int .i64 p,.int .i64 q] 27)) A n c l:=hS.below ((Below.refl _ _).alloc (Nat.le_refl _) _)
 by_cases hE:checkE l=0
 ·cases hP:withinB 65536000 p q with
  | false =>
   have HS1:=hid hS1
   have HE:=hid hE
   have HP:=hid hP
   clear hS hS1 hE hP
   go_enter Tryz.func137,Tryz.ntmps137
   go_wp2_with (first | (go_at_call 121;refine (check_calls _ _ _ l _ HS1.out).mono ?_;rintro e w1 ⟨rfl,hb1⟩;rw [HE.out];have k1:w1.cell? ⟨w.heap.size,0,none⟩=some (.int .i64 p):=keepCell hb1 (by go_simp);have k2:w1.cell? ⟨w.heap.size,1,none⟩=some (.int .i64 q):=keepCell hb1 (by go_simp)) | (go_at_call 162;refine (within_calls _ _ _).mono ?_;rintro e w2 ⟨rfl,hb2⟩;rw [HP.out]))
   go_returns
   exact ret_bool (by simp [hasB,HP.out]) ((((Below.refl w.heap.size w).alloc (Nat.le_refl _) _).trans (hb1.mono (by simp))).trans (hb2.mono (Nat.le_trans (by simp) hb1.size)))
  | true =>
   obtain ⟨h8,h3,hw,_⟩:=checkE_zero hE
   obtain ⟨b,off,rfl,hC⟩:=hS.at_ (by intro h;subst h;simp at h3)
   have hn:=hS.len
   subst hn
   have hb2:=hC.lt
   have hcap:=hS.cap
   have HS1:=hid hS1
   have HE:=hid hE
   have HP:=hid hP
   have HC:=hid hC
   have HW:=hid hw
   clear hS hS1 hE hP hC hw
   go_enter Tryz.func137,Tryz.ntmps137
   go_wp2_with (first | (go_at_call 121;refine (check_calls _ _ _ l _ HS1.out).mono ?_;rintro e w1 ⟨rfl,hb1⟩;rw [HE.out];have k1:w1.cell? ⟨w.heap.size,0,none⟩=some (.int .i64 p):=keepCell hb1 (by go_simp);have k2:w1.cell? ⟨w.heap.size,1,none⟩=some (.int .i64 q):=keepCell hb1 (by go_simp)) | (go_at_call 162;refine (within_calls _ _ _).mono ?_;rintro e w2 ⟨rfl,hb2⟩;rw [HP.out];have l1:=hid (And.intro (keepCell hb2 k1) (keepCell hb2 k2))))
   have hB0:Below w.heap.size w w2:=(((Below.refl w.heap.size w).alloc (Nat.le_refl _) _).trans (hb1.mono (by simp))).trans (hb2.mono (Nat.le_trans (by simp) hb1.size))
   clear k1 k2
   go_loopw [17] (fun i wr=>∃ k:Nat,k≤l.length∧i = .int .i64 k∧hasTo l p q k∧Below w.heap.size w wr∧wr.cell? ⟨w.heap.size,0,none⟩=some (.int .i64 p)∧wr.cell? ⟨w.heap.size,1,none⟩=some (.int .i64 q)) (fun i _=>l.length-(intOf i).toNat)
   case atStart=>exact ⟨0,Nat.zero_le _,rfl,hasTo_zero _ _ _,hB0,l1.out.1,l1.out.2⟩
   case round =>
    obtain ⟨k,hk,rfl,hno,hB,kp,kq⟩:=hrel
    obtain ⟨wo,rfl⟩:∃ wo:World,wo=wr:=⟨_,rfl⟩
    have HN:=hid hno
    clear hno
    by_cases hlt:k<l.length
    ·have hj : (k + 1) % l.length < l.length := Nat.mod_lt _ (by omega)
     have hji:((k:Int)+1) % (l.length:Int)<(l.length:Int):=Int.emod_lt_of_pos _ (by omega)
     have hj0:0≤((k:Int)+1) % (l.length:Int):=Int.emod_nonneg _ (by omega)
     have hj1:(((k:Int)+1) % (l.length:Int)).toNat=(k+1) % l.length:=by rw [show ((k:Int)+1) % (l.length:Int)=(((k+1) % l.length:Nat):Int) by simp];omega
     have e1:IntKind.i64.wrap ((k:Int)+1)=(k:Int)+1:=IntWalk.i64_in _ (by omega)
     have e2:0≤(k:Int)+1:=by omega
     have e3:Int.tmod ((k:Int)+1) (l.length:Int)=((k:Int)+1) % (l.length:Int):=Int.tmod_eq_emod_of_nonneg (by omega)
     have e4:((l.length:Int) == 0)=false:=by simp;intro h;subst h;simp at hlt
     have e5:¬ l=[]:=by intro h;subst h;simp at hlt
     have e6:l.length≠0:=by omega
     have e7:¬ ((l.length:Int)=0):=by omega
     have hp0:=lt_of_cell kp
     have hCo:=HC.out.below hB
     have hx:=hCo.x k hlt
     have hy:=hCo.y k hlt
     have hbo:=hCo.lt
     have hCa:=hCo.below ((Below.refl _ _).alloc (Nat.le_refl _) (.cells #[.int .i64 (px l k),.int .i64 (py l k)] 27))
     have s1:(wo.alloc (.cells #[.int .i64 (px l k),.int .i64 (py l k)] 27)).drew.cell? ⟨wo.heap.size,0,none⟩=some (.int .i64 (px l k))∧(wo.alloc (.cells #[.int .i64 (px l k),.int .i64 (py l k)] 27)).drew.cell? ⟨wo.heap.size,1,none⟩=some (.int .i64 (py l k))∧(wo.alloc (.cells #[.int .i64 (px l k),.int .i64 (py l k)] 27)).drew.cell? ⟨b,off+((k+1) % l.length)*2,none⟩=some (.int .i64 (px l ((k+1) % l.length)))∧(wo.alloc (.cells #[.int .i64 (px l k),.int .i64 (py l k)] 27)).drew.cell? ⟨b,off+((k+1) % l.length)*2+1,none⟩=some (.int .i64 (py l ((k+1) % l.length)))∧(wo.alloc (.cells #[.int .i64 (px l k),.int .i64 (py l k)] 27)).drew.cell? ⟨w.heap.size,0,none⟩=some (.int .i64 p)∧(wo.alloc (.cells #[.int .i64 (px l k),.int .i64 (py l k)] 27)).drew.cell? ⟨w.heap.size,1,none⟩=some (.int .i64 q)∧Below w.heap.size w (wo.alloc (.cells #[.int .i64 (px l k),.int .i64 (py l k)] 27)).drew:=⟨by go_simp,by go_simp,hCa.x ((k+1) % l.length) hj,hCa.y ((k+1) % l.length) hj,by go_simp,by go_simp,((hB.alloc hB.size _)).drew⟩
     have S1:=hid s1
     clear s1
     clear hCo hCa
     go_wp2
     go_region_held3 (fun w' => w'.cell? ⟨wo.heap.size, 0, none⟩ = some (.int .i64 (px l k)) ∧ w'.cell? ⟨wo.heap.size, 1, none⟩ = some (.int .i64 (py l k)) ∧ w'.cell? ⟨b, off + ((k + 1) % l.length) * 2, none⟩ = some (.int .i64 (px l ((k + 1) % l.length))) ∧ w'.cell? ⟨b, off + ((k + 1) % l.length) * 2 + 1, none⟩ = some (.int .i64 (py l ((k + 1) % l.length))) ∧ w'.cell? ⟨w.heap.size, 0, none⟩ = some (.int .i64 p) ∧ w'.cell? ⟨w.heap.size, 1, none⟩ = some (.int .i64 q) ∧ Below w.heap.size w w')
      (first | with_reducible exact S1.out | (go_split_ands;with_reducible exact ⟨keepCell hb3 (by assumption),keepCell hb3 (by assumption),keepCell hb3 (by assumption),keepCell hb3 (by assumption),keepCell hb3 (by assumption),keepCell hb3 (by assumption),keepBelow hb3 (by assumption)⟩))
      (first | (go_at_call 163;refine (side_calls _ _ _ _ _ _ (allWithin_at HW.out hlt) (allWithin_at HW.out hj) HP.out _).mono ?_;rintro e w3 ⟨rfl,hb3⟩))
     go_wp2
     all_goals go_split_ands
     ·go_returns
      exact ret_bool (hasB_false hlt (by show sideZ _ _ _ _ _ _<0;assumption)).symm (by assumption)
     ·go_roundw
      case rel=>exact ⟨k+1,hlt,by go_num,hasTo_succ HN.out (by show 0≤sideZ _ _ _ _ _ _;assumption),by assumption,by assumption,by assumption⟩
      case measure=>simp [intOf];omega
    ·have hge : l.length ≤ k := by omega
     clear kp kq
     go_wp2
     go_returns
     exact ret_bool (hasB_true HE.out HP.out (by have:=HN.out;rwa [show k=l.length by omega] at this)).symm hB
 ·have HS1 := hid hS1
  have HE:=hid hE
  have hne:(checkE l != 0)=true:=by simp [hE]
  clear hS hS1 hE
  go_enter Tryz.func137,Tryz.ntmps137
  go_wp2_with (go_at_call 121;refine (check_calls _ _ _ l _ HS1.out).mono ?_;rintro e w1 ⟨rfl,hb1⟩)
  go_returns
  exact ret_bool (by have:=HE.out;simp [hasB,this]) (((Below.refl w.heap.size w).alloc (Nat.le_refl _) _).trans (hb1.mono (by simp)))
theorem wcmp_z (a b:Int) (h1 : -170141183460469231731687303715884105728≤a) (h2:a<170141183460469231731687303715884105728) (h3 : -170141183460469231731687303715884105728≤b) (h4:b<170141183460469231731687303715884105728) (w:World) :
  Calls Tryz.prog 123 #[wideV a,wideV b] w (Ret (.int .i64 (cmpZ a b)) w):=wcmp_calls a b h1 h2 h3 h4 w
theorem cmpZ_pos {a b:Int}:0<cmpZ a b↔b<a:=by unfold cmpZ;split <;> (try split) <;> omega
theorem cmpZ_neg {a b:Int}:cmpZ a b<0↔a<b:=by unfold cmpZ;split <;> (try split) <;> omega
theorem cmpZ_zero {a b:Int}:cmpZ a b=0↔a=b:=by unfold cmpZ;split <;> (try split) <;> omega
theorem cmpZ_nonneg {a b:Int}:0≤cmpZ a b↔b≤a:=by unfold cmpZ;split <;> (try split) <;> omega
theorem cmpZ_nonpos {a b:Int}:cmpZ a b≤0↔a≤b:=by unfold cmpZ;split <;> (try split) <;> omega
def i64 (a:Int):Prop := -9223372036854775808≤a∧a≤9223372036854775807
def dotL (l:List V) (u v:Int) (j:Nat):Int:=px l j*u+py l j*v

def supTo (l : List V) (u v : Int) : Nat → Nat
 | 0=>0
 | k+1=>if dotL l u v (supTo l u v k)<dotL l u v k then k else supTo l u v k
theorem supTo_lt (l:List V) (u v:Int) (k:Nat) (h:k≤l.length) (h0:0<l.length):supTo l u v k<l.length:=by
 induction k with
 | zero=>exact h0
 | succ k ih =>
  have:=ih (by omega)
  simp only [supTo]
  split <;> omega
def suppZ (l:List V) (u v:Int):Int:=if checkE l=0 then (supTo l u v l.length:Int) else -1
theorem dotL_bd {l:List V} (hw:allWithin 65536000 l=true) {u v:Int} (hu:i64 u) (hv:i64 v) {j:Nat} (hj:j<l.length) :
  -170141183460469231731687303715884105728≤dotL l u v j∧dotL l u v j<170141183460469231731687303715884105728:=by
 obtain ⟨_,_,_,_⟩:=withinB_iff.1 (allWithin_at hw hj)
 have m1:=mul_bd (x:=px l j) (y:=u) (M:=65536000) (N:=9223372036854775808) (by omega) (by omega) (by unfold i64 at *;omega) (by unfold i64 at *;omega)
 have m2:=mul_bd (x:=py l j) (y:=v) (M:=65536000) (N:=9223372036854775808) (by omega) (by omega) (by unfold i64 at *;omega) (by unfold i64 at *;omega)
 unfold dotL
 omega
theorem within_i64 {l:List V} (hw:allWithin 65536000 l=true) {j:Nat} (hj:j<l.length):i64 (px l j)∧i64 (py l j):=by
 obtain ⟨_,_,_,_⟩:=withinB_iff.1 (allWithin_at hw hj)
 unfold i64
 omega
theorem pdot_l {l:List V} (hw:allWithin 65536000 l=true) {u v:Int} (hu:i64 u) (hv:i64 v) {j:Nat} (hj:j<l.length) (w:World) :
  Calls Tryz.prog 122 #[vecV (px l j) (py l j),vecV u v] w (Ret (wideV (dotL l u v j)) w):=pdot_calls _ _ _ _ (within_i64 hw hj).1 (within_i64 hw hj).2 hu hv w
theorem support_calls (A:Option Addr) (n c:Nat) (l:List V) (u v:Int) (hu:i64 u) (hv:i64 v) (w:World) (hS:Sl w A n c l) :
  Calls Tryz.prog 71 #[.slice A n c,vecV u v] w (Ret (.int .i64 (suppZ l u v)) w):=by
 have hS1:Sl (w.alloc (.cells #[.int .i64 u,.int .i64 v] 27)) A n c l:=hS.below ((Below.refl _ _).alloc (Nat.le_refl _) _)
 have HU:=hid hu
 have HV:=hid hv
 clear hu hv
 by_cases hE:checkE l=0
 ·obtain ⟨h8, h3, hw, _⟩ := checkE_zero hE
  obtain ⟨b,off,rfl,hC⟩:=hS.at_ (by intro h;subst h;simp at h3)
  have hn:=hS.len
  subst hn
  have hb2:=hC.lt
  have hcap:=hS.cap
  have HS1:=hid hS1
  have HE:=hid hE
  have HC:=hid hC
  have HW:=hid hw
  clear hS hS1 hE hC hw
  go_enter Tryz.func71,Tryz.ntmps71
  go_wp2_with (go_at_call 121;refine (check_calls _ _ _ l _ HS1.out).mono ?_;rintro e w1 ⟨rfl,hb1⟩;rw [HE.out];have l1:=hid (And.intro (show w1.cell? ⟨w.heap.size,0,none⟩=some (.int .i64 u) from keepCell hb1 (by go_simp)) (show w1.cell? ⟨w.heap.size,1,none⟩=some (.int .i64 v) from keepCell hb1 (by go_simp))))
  have hB0:Below w.heap.size w w1:=((Below.refl w.heap.size w).alloc (Nat.le_refl _) _).trans (hb1.mono (by simp))
  go_loopw [5,13] (fun s i wr=>∃ k:Nat,k≤l.length∧i = .int .i64 k∧s = .int .i64 (supTo l u v k)∧Below w.heap.size w wr∧wr.cell? ⟨w.heap.size,0,none⟩=some (.int .i64 u)∧wr.cell? ⟨w.heap.size,1,none⟩=some (.int .i64 v)) (fun _ i _=>l.length-(intOf i).toNat)
  case atStart=>exact ⟨0,Nat.zero_le _,rfl,rfl,hB0,l1.out.1,l1.out.2⟩
  case round =>
   obtain ⟨k,hk,rfl,rfl,hB,kp,kq⟩:=hrel
   obtain ⟨wo,rfl⟩:∃ wo:World,wo=wr:=⟨_,rfl⟩
   have hs:=supTo_lt l u v k hk (by omega)
   have hst:=hid (show supTo l u v (k+1)=if dotL l u v (supTo l u v k)<dotL l u v k then k else supTo l u v k from rfl)
   obtain ⟨s,hsd⟩:∃ s,s=supTo l u v k:=⟨_,rfl⟩
   rw [← hsd] at hs
   have HST:Hid (supTo l u v (k+1)=if dotL l u v s<dotL l u v k then k else s):=by rw [hsd];exact hst.out
   rw [← hsd]
   have HSD:=hid hsd
   clear hst hsd
   by_cases hlt:k<l.length
   ·have hsi : (s : Int) < (l.length : Int) := by omega
    have hp0:=lt_of_cell kp
    have hCo:=HC.out.below hB
    have hx:=hCo.x k hlt
    have hy:=hCo.y k hlt
    have hbo:=hCo.lt
    have hCa:=hCo.below ((Below.refl _ _).alloc (Nat.le_refl _) (.cells #[.int .i64 (px l k),.int .i64 (py l k)] 27))
    have b1:=hid (dotL_bd HW.out HU.out HV.out hlt)
    have b2:=hid (dotL_bd HW.out HU.out HV.out hs)
    have s1:(wo.alloc (.cells #[.int .i64 (px l k),.int .i64 (py l k)] 27)).drew.cell? ⟨wo.heap.size,0,none⟩=some (.int .i64 (px l k))∧(wo.alloc (.cells #[.int .i64 (px l k),.int .i64 (py l k)] 27)).drew.cell? ⟨wo.heap.size,1,none⟩=some (.int .i64 (py l k))∧(wo.alloc (.cells #[.int .i64 (px l k),.int .i64 (py l k)] 27)).drew.cell? ⟨b,off+s*2,none⟩=some (.int .i64 (px l s))∧(wo.alloc (.cells #[.int .i64 (px l k),.int .i64 (py l k)] 27)).drew.cell? ⟨b,off+s*2+1,none⟩=some (.int .i64 (py l s))∧(wo.alloc (.cells #[.int .i64 (px l k),.int .i64 (py l k)] 27)).drew.cell? ⟨w.heap.size,0,none⟩=some (.int .i64 u)∧(wo.alloc (.cells #[.int .i64 (px l k),.int .i64 (py l k)] 27)).drew.cell? ⟨w.heap.size,1,none⟩=some (.int .i64 v)∧Below w.heap.size w (wo.alloc (.cells #[.int .i64 (px l k),.int .i64 (py l k)] 27)).drew:=⟨by go_simp,by go_simp,hCa.x s hs,hCa.y s hs,by go_simp,by go_simp,((hB.alloc hB.size _)).drew⟩
    have S1:=hid s1
    clear s1
    clear hCo hCa
    go_wp2
    go_region_held3 (fun w' => w'.cell? ⟨wo.heap.size, 0, none⟩ = some (.int .i64 (px l k)) ∧ w'.cell? ⟨wo.heap.size, 1, none⟩ = some (.int .i64 (py l k)) ∧ w'.cell? ⟨b, off + s * 2, none⟩ = some (.int .i64 (px l s)) ∧ w'.cell? ⟨b, off + s * 2 + 1, none⟩ = some (.int .i64 (py l s)) ∧ w'.cell? ⟨w.heap.size, 0, none⟩ = some (.int .i64 u) ∧ w'.cell? ⟨w.heap.size, 1, none⟩ = some (.int .i64 v) ∧ Below w.heap.size w w')
     (first | with_reducible exact S1.out | (go_split_ands;with_reducible exact ⟨keepCell hb3 (by assumption),keepCell hb3 (by assumption),keepCell hb3 (by assumption),keepCell hb3 (by assumption),keepCell hb3 (by assumption),keepCell hb3 (by assumption),keepBelow hb3 (by assumption)⟩))
     (first | (go_at_call 122;(first | (with_reducible refine (pdot_l HW.out HU.out HV.out hlt _).mono ?_) | (with_reducible refine (pdot_l HW.out HU.out HV.out hs _).mono ?_));rintro e w3 ⟨rfl,hb3⟩) | (go_at_call 123;refine (wcmp_z _ _ b1.out.1 b1.out.2 b2.out.1 b2.out.2 _).mono ?_;rintro e w3 ⟨rfl,hb3⟩))
    go_wp2
    all_goals go_split_ands
    ·go_roundw
     case rel=>exact ⟨k+1,hlt,by go_num,by rw [HST.out,if_pos (cmpZ_pos.1 (by assumption))],by assumption,by assumption,by assumption⟩
     case measure=>simp [intOf];omega
    ·go_roundw
     case rel=>exact ⟨k+1,hlt,by go_num,by rw [HST.out,if_neg (by have:=cmpZ_nonpos.1 (show cmpZ _ _≤0 by assumption);omega)],by assumption,by assumption,by assumption⟩
     case measure=>simp [intOf];omega
   ·have hge : l.length ≤ k := by omega
    clear kp kq
    go_wp2
    go_returns
    exact ret_int (by rw [suppZ,if_pos HE.out,HSD.out,show l.length=k by omega]) hB
 ·have HS1 := hid hS1
  have HE:=hid hE
  have hne:(checkE l != 0)=true:=by simp [hE]
  clear hS hS1 hE
  go_enter Tryz.func71,Tryz.ntmps71
  go_wp2_with (go_at_call 121;refine (check_calls _ _ _ l _ HS1.out).mono ?_;rintro e w1 ⟨rfl,hb1⟩)
  go_returns
  exact ret_int (by rw [suppZ,if_neg HE.out]) (((Below.refl w.heap.size w).alloc (Nat.le_refl _) _).trans (hb1.mono (by simp)))

def tri1 (l:List V) (i:Nat):Prop:=∀ i',i'<i→∀ k,i'<k→k<l.length→∀ m,k<m→m<l.length→0<sideL l i' k m
def tri2 (l:List V) (i k:Nat):Prop:=∀ k',i<k'→k'<k→∀ m,k'<m→m<l.length→0<sideL l i k' m
def tri3 (l:List V) (i k m:Nat):Prop:=∀ m',k<m'→m'<m→0<sideL l i k m'

def polyE (l:List V):Int :=
 if 8<l.length then 2 else if l.length<3 then 3 else if allWithin 65536000 l=false then 1
 else if (List.range l.length).all (fun i=>(List.range l.length).all fun k=>(List.range l.length).all fun m=>decide (i<k→k<m→0<sideL l i k m)) then 0 else 3
theorem polyE_ok {l:List V} (h8:l.length≤8) (h3:3≤l.length) (hw:allWithin 65536000 l=true) (h:tri1 l l.length):polyE l=0:=by
 unfold polyE
 rw [if_neg (by omega),if_neg (by omega),if_neg (by simp [hw]),if_pos]
 simp only [List.all_eq_true,List.mem_range,decide_eq_true_iff]
 intro i hi k hk m hm h1 h2
 exact h i hi k h1 hk m h2 hm
theorem polyE_bad {l:List V} {i k m:Nat} (h8:l.length≤8) (h3:3≤l.length) (hw:allWithin 65536000 l=true) (hi:i<k) (hk:k<m) (hm:m<l.length) (h:sideL l i k m≤0):polyE l=3:=by
 unfold polyE
 rw [if_neg (by omega),if_neg (by omega),if_neg (by simp [hw]),if_neg]
 simp only [List.all_eq_true,List.mem_range,decide_eq_true_iff]
 intro hh
 have:=hh i (by omega) k (by omega) m hm hi hk
 omega
theorem polyE_zero {l:List V} (h:polyE l=0):l.length≤8∧3≤l.length∧allWithin 65536000 l=true∧tri1 l l.length:=by
 unfold polyE at h
 split at h
 ·omega
 ·split at h
  ·omega
  ·split at h
   ·omega
   ·split at h
    ·rename_i h1 h2 h3 h4
     refine ⟨by omega,by omega,by simpa using h3,fun i hi k hik hk m hkm hm=>?_⟩
     simp only [List.all_eq_true,List.mem_range,decide_eq_true_iff] at h4
     exact h4 i hi k hk m hm hik hkm
    ·omega
theorem tri1_zero (l:List V):tri1 l 0:=fun _ h=>absurd h (by omega)
theorem tri1_succ {l:List V} {i:Nat} (h:tri1 l i) (h2:tri2 l i l.length):tri1 l (i+1):=fun i' hi k hik hk m hkm hm=>by
 by_cases e:i'=i
 ·subst e;exact h2 k hik hk m hkm hm
 ·exact h i' (by omega) k hik hk m hkm hm
theorem tri2_zero (l:List V) (i:Nat):tri2 l i (i+1):=fun _ h1 h2=>absurd h1 (by omega)
theorem tri2_succ {l:List V} {i k:Nat} (h:tri2 l i k) (h3:tri3 l i k l.length):tri2 l i (k+1):=fun k' hik hk m hkm hm=>by
 by_cases e:k'=k
 ·subst e;exact h3 m hkm hm
 ·exact h k' hik (by omega) m hkm hm
theorem tri3_zero (l:List V) (i k:Nat):tri3 l i k (k+1):=fun _ h1 h2=>absurd h1 (by omega)
theorem tri3_succ {l:List V} {i k m:Nat} (h:tri3 l i k m) (hm:0<sideL l i k m):tri3 l i k (m+1):=fun m' hkm hm'=>by
 by_cases e:m'=m
 ·subst e;exact hm
 ·exact h m' hkm (by omega)
theorem within_sm {l:List V} (hw:allWithin 65536000 l=true) {j:Nat} (hj:j<l.length):sm (px l j)∧sm (py l j):=by
 obtain ⟨_,_,_,_⟩:=withinB_iff.1 (allWithin_at hw hj)
 unfold sm
 omega
theorem left_l {l:List V} (hw:allWithin 65536000 l=true) {i k m:Nat} (hi:i<l.length) (hk:k<l.length) (hm:m<l.length) (w:World) :
  Calls Tryz.prog 138 #[vecV (px l i) (py l i),vecV (px l k) (py l k),vecV (px l m) (py l m)] w (Ret (.int .i64 (cmpZ (sideL l i k m) 0)) w) :=
 left_calls _ _ _ _ _ _ (within_sm hw hi).1 (within_sm hw hi).2 (within_sm hw hk).1 (within_sm hw hk).2 (within_sm hw hm).1 (within_sm hw hm).2 w
def inTo (l:List V) (k:Nat):Prop:=∀ j,j<k→withinB 65536000 (px l j) (py l j)=true
theorem inTo_zero (l:List V):inTo l 0:=fun _ h=>absurd h (by omega)
theorem inTo_succ {l:List V} {k:Nat} (h:inTo l k) (hk:withinB 65536000 (px l k) (py l k)=true):inTo l (k+1):=fun j hj=>by
 by_cases e:j=k
 ·subst e;exact hk
 ·exact h j (by omega)
theorem inTo_all {l:List V} (h:inTo l l.length):allWithin 65536000 l=true:=by
 unfold allWithin
 rw [List.all_eq_true]
 intro p hp
 obtain ⟨j,hj,rfl⟩:=List.mem_iff_getElem.1 hp
 have:=h j hj
 rw [px_lt hj]
 exact this
theorem inTo_not {l:List V} {k:Nat} (hk:k<l.length) (h:withinB 65536000 (px l k) (py l k)=false):allWithin 65536000 l=false:=by
 cases e:allWithin 65536000 l with
 | false=>rfl
 | true=>rw [allWithin_at e hk] at h;cases h
theorem rpoly_calls (A:Option Addr) (n c:Nat) (l:List V) (w:World) (hS:Sl w A n c l) :
  Calls Tryz.prog 130 #[.slice A n c] w (Ret (.int .i64 (polyE l)) w):=by
 have hn:=hS.len
 subst hn
 have hcap:=hS.cap
 have hbig:=hS.big
 by_cases h8:8<l.length
 ·clear hS
  go_enter Tryz.func130,Tryz.ntmps130
  go_wp2
  go_returns
  exact ret_int (by rw [polyE,if_pos h8]) (Below.refl _ _)
 by_cases h3:l.length<3
 ·clear hS
  go_enter Tryz.func130,Tryz.ntmps130
  go_wp2
  go_returns
  exact ret_int (by rw [polyE,if_neg h8,if_pos h3]) (Below.refl _ _)
 obtain ⟨b,off,rfl,hC⟩:=hS.at_ (by intro h;subst h;simp at h3)
 have hb2:=hC.lt
 have HC:=hid hC
 clear hS hC
 go_enter Tryz.func130,Tryz.ntmps130
 go_wp2
 go_loopw [19] (fun i wr=>∃ k:Nat,k≤l.length∧i = .int .i64 k∧inTo l k∧Below w.heap.size w wr) (fun i _=>l.length-(intOf i).toNat)
 case atStart=>exact ⟨0,Nat.zero_le _,rfl,inTo_zero _,Below.refl _ _⟩
 case round =>
  obtain ⟨k,hk,rfl,hin,hB⟩:=hrel
  obtain ⟨wo,rfl⟩:∃ wo:World,wo=wr:=⟨_,rfl⟩
  have HI:=hid hin
  clear hin
  by_cases hlt:k<l.length
  ·have hCo := HC.out.below hB
   have hx:=hCo.x k hlt
   have hy:=hCo.y k hlt
   have hbo:=hCo.lt
   clear hCo
   cases hP:withinB 65536000 (px l k) (py l k) with
   | false =>
    have HP:=hid hP
    clear hP
    go_wp2_with (go_at_call 85;refine (coord_calls _ _ 65536000 _ (by omega) (by omega)).mono ?_;rintro e w2 ⟨rfl,hb2⟩;rw [HP.out])
    go_returns
    exact ret_int (by rw [polyE,if_neg h8,if_neg h3,if_pos (inTo_not hlt HP.out)]) ((hB.alloc hB.size _).trans (hb2.mono (Nat.le_trans hB.size (by simp))))
   | true =>
    have HP:=hid hP
    clear hP
    go_wp2_with (go_at_call 85;refine (coord_calls _ _ 65536000 _ (by omega) (by omega)).mono ?_;rintro e w2 ⟨rfl,hb2⟩;rw [HP.out])
    go_roundw
    case rel=>exact ⟨k+1,hlt,by go_num,inTo_succ HI.out HP.out,(hB.alloc hB.size _).trans (hb2.mono (Nat.le_trans hB.size (by simp)))⟩
    case measure=>simp [intOf];omega
  ·have hge : l.length ≤ k := by omega
   have hw:=hid (inTo_all (by have:=HI.out;rwa [show k=l.length by omega] at this))
   go_wp2
   go_loopw [28] (fun s wr=>∃ i:Nat,i≤l.length∧s = .int .i64 i∧tri1 l i∧Below w.heap.size w wr) (fun s _=>l.length-(intOf s).toNat)
   case atStart=>exact ⟨0,Nat.zero_le _,rfl,tri1_zero _,hB⟩
   case round =>
    obtain ⟨i,hi,rfl,ht1,hB1⟩:=hrel
    have HT1:=hid ht1
    clear ht1
    by_cases hlt1:i<l.length
    ·go_wp2
     go_loopw [7] (fun s wr=>∃ k:Nat,i<k∧k≤l.length∧s = .int .i64 k∧tri2 l i k∧Below w.heap.size w wr) (fun s _=>l.length-(intOf s).toNat)
     case atStart=>exact ⟨i+1,by omega,hlt1,by go_num,tri2_zero _ _,hB1⟩
     case round =>
      obtain ⟨k,hik,hk,rfl,ht2,hB2⟩:=hrel
      have HT2:=hid ht2
      clear ht2
      by_cases hlt2:k<l.length
      ·go_wp2
       go_loopw [8] (fun s wr=>∃ m:Nat,k<m∧m≤l.length∧s = .int .i64 m∧tri3 l i k m∧Below w.heap.size w wr) (fun s _=>l.length-(intOf s).toNat)
       case atStart=>exact ⟨k+1,by omega,hlt2,by go_num,tri3_zero _ _ _,hB2⟩
       case round =>
        obtain ⟨m,hkm,hm,rfl,ht3,hB3⟩:=hrel
        have HT3:=hid ht3
        clear ht3
        by_cases hlt3:m<l.length
        ·have hCr := HC.out.below hB3
         have e1:(i:Int)<(l.length:Int):=by omega
         have e2:(k:Int)<(l.length:Int):=by omega
         have e3:(m:Int)<(l.length:Int):=by omega
         have s1:wr.drew.cell? ⟨b,off+i*2,none⟩=some (.int .i64 (px l i))∧wr.drew.cell? ⟨b,off+i*2+1,none⟩=some (.int .i64 (py l i))∧wr.drew.cell? ⟨b,off+k*2,none⟩=some (.int .i64 (px l k))∧wr.drew.cell? ⟨b,off+k*2+1,none⟩=some (.int .i64 (py l k))∧wr.drew.cell? ⟨b,off+m*2,none⟩=some (.int .i64 (px l m))∧wr.drew.cell? ⟨b,off+m*2+1,none⟩=some (.int .i64 (py l m))∧Below w.heap.size w wr.drew:=⟨hCr.x i hlt1,hCr.y i hlt1,hCr.x k hlt2,hCr.y k hlt2,hCr.x m hlt3,hCr.y m hlt3,hB3.drew⟩
         have S1:=hid s1
         clear s1
         clear hCr
         go_wp2
         go_region_held3 (fun w' => w'.cell? ⟨b, off + i * 2, none⟩ = some (.int .i64 (px l i)) ∧ w'.cell? ⟨b, off + i * 2 + 1, none⟩ = some (.int .i64 (py l i)) ∧ w'.cell? ⟨b, off + k * 2, none⟩ = some (.int .i64 (px l k)) ∧ w'.cell? ⟨b, off + k * 2 + 1, none⟩ = some (.int .i64 (py l k)) ∧ w'.cell? ⟨b, off + m * 2, none⟩ = some (.int .i64 (px l m)) ∧ w'.cell? ⟨b, off + m * 2 + 1, none⟩ = some (.int .i64 (py l m)) ∧ Below w.heap.size w w')
          (first | with_reducible exact S1.out | (go_split_ands;with_reducible exact ⟨keepCell hb3 (by assumption),keepCell hb3 (by assumption),keepCell hb3 (by assumption),keepCell hb3 (by assumption),keepCell hb3 (by assumption),keepCell hb3 (by assumption),keepBelow hb3 (by assumption)⟩))
          (first | (go_at_call 138;refine (left_l hw.out hlt1 hlt2 hlt3 _).mono ?_;rintro e w3 ⟨rfl,hb3⟩))
         go_wp2
         all_goals go_split_ands
         ·go_returns
          exact ret_int (polyE_bad (by omega) (by omega) hw.out hik hkm hlt3 (cmpZ_nonpos.1 (by assumption))).symm (by assumption)
         ·go_roundw
          case rel=>exact ⟨m+1,by omega,by omega,by go_num,tri3_succ HT3.out (cmpZ_pos.1 (by assumption)),by assumption⟩
          case measure=>simp [intOf];omega
        ·have hge3 : l.length ≤ m := by omega
         go_wp2
         go_roundw
         case rel=>exact ⟨k+1,by omega,by omega,by go_num,tri2_succ HT2.out (by have:=HT3.out;rwa [show m=l.length by omega] at this),hB3⟩
         case measure=>simp [intOf];omega
      ·have hge2 : l.length ≤ k := by omega
       go_wp2
       go_roundw
       case rel=>exact ⟨i+1,by omega,by go_num,tri1_succ HT1.out (by have:=HT2.out;rwa [show k=l.length by omega] at this),hB2⟩
       case measure=>simp [intOf];omega
    ·have hge1 : l.length ≤ i := by omega
     go_wp2
     go_returns
     exact ret_int (polyE_ok (by omega) (by omega) hw.out (by have:=HT1.out;rwa [show i=l.length by omega] at this)).symm hB1
theorem put_some (L:List Value) (df:List Deferred) (k:Nat) (v:Value):Act.put ⟨L.toArray,df⟩ (some k) v=⟨(L.set k v).toArray,df⟩:=by simp [Act.put]

def skipOk (md : Region.Mode) (ops : Array Oper) : List (Nat × Nat) → Array Bool → List Value → Bool
 | [],_,_=>true
 | (i,k) :: r,listed,L=>(match ops[i]? with
   | some o=>(match o.dst with | some d=>d == k | none=>false) && Region.free md ops listed i && (Region.ready md ops listed).contains i && !Region.wanted o (yielded ops L.toArray)
   | none=>false) && skipOk md ops r (listed.setIfInBounds i true) (L.set k undef)
def setAll : List (Nat × Nat) → Array Bool → Array Bool
 | [],listed=>listed
 | (i,_) :: r,listed=>setAll r (listed.setIfInBounds i true)
def setUndef : List (Nat × Nat) → List Value → List Value
 | [],L=>L
 | (_,k) :: r,L=>setUndef r (L.set k undef)
theorem held_skips {P:Program} {ops:Array Oper} {Q:Exit→Act→World→Prop} {md:Region.Mode} {S:World→Prop} {df:List Deferred} {w:World} (hs:Region.noSelect ops=true) (hQ:∀ c a a' w,Q (.panic c) a' w→Q (.panic c) a w) (hS:S w) :
  ∀ (is : List (Nat × Nat)) (fuel fuel' : Nat) (listed : Array Bool) (L : List Value), skipOk md ops is listed L = true → fuel' = fuel + is.length →
   wpAnyH P md ops Q S fuel (setAll is listed) ⟨(setUndef is L).toArray,df⟩ w→wpAnyH P md ops Q S fuel' listed ⟨L.toArray,df⟩ w:=by
 intro is
 induction is with
 | nil=>intro fuel fuel' listed L _ hf h;rw [hf];exact h
 | cons x r ih =>
  obtain ⟨i,k⟩:=x
  intro fuel fuel' listed L hok hf h
  simp only [skipOk,Bool.and_eq_true] at hok
  obtain ⟨h1,h2⟩:=hok
  split at h1
  ·rename_i o ho
   simp only [Bool.and_eq_true,Bool.not_eq_true'] at h1
   obtain ⟨⟨⟨a,b⟩,c⟩,d⟩:=h1
   have hd:o.dst=some k:=by
    split at a
    ·rename_i e he
     rw [he]
     exact congrArg some (by simpa using a)
    ·cases a
   rw [hf,List.length_cons,← Nat.add_assoc]
   refine wpAnyH_take (v:=undef) ho hs b c (fun c a w hq=>hQ c a _ w hq) (Or.inr ⟨d,rfl⟩) hS ?_
   rw [hd,put_some]
   exact ih fuel _ _ _ h2 rfl h
  ·cases h1

theorem held_take {P : Program} {ops : Array Oper} {Q : Exit → Act → World → Prop} {md : Region.Mode} {S : World → Prop} {fuel' : Nat} {listed : Array Bool} {L : List Value} {df : List Deferred} {w : World} (i k fuel : Nat) {oi : Oper} {v : Value} (hi : ops[i]? = some oi) (hd : oi.dst = some k)
  (hs:Region.noSelect ops=true) (hf:Region.free md ops listed i=true) (hr:(Region.ready md ops listed).contains i=true) (hfu:fuel'=fuel+1) (hQ:∀ c a a' w,Q (.panic c) a' w→Q (.panic c) a w)
  (hw:Region.wanted oi (yielded ops L.toArray)=true) (hy:∀ w,S w→(execOp (Act.eval ⟨L.toArray,df⟩) oi).run P w = .ok (.value v) w) (hS:S w)
  (h:wpAnyH P md ops Q S fuel (listed.setIfInBounds i true) ⟨(L.set k v).toArray,df⟩ w):wpAnyH P md ops Q S fuel' listed ⟨L.toArray,df⟩ w:=by
 subst hfu
 exact wpAnyH_take (v:=v) hi hs hf hr (fun c a w hq=>hQ c a _ w hq) (Or.inl ⟨hw,hy⟩) hS (by rw [hd,put_some];exact h)
def sideP (l:List V) (i k:Nat) (p q:Int):Int:=sideZ (px l i) (py l i) (px l k) (py l k) p q
def triIn (l:List V) (p q:Int) (m:Nat):Bool:=decide (0≤sideP l 0 (m-1) p q∧0≤sideP l (m-1) m p q∧0≤sideP l m 0 p q)
def noTri (l:List V) (p q:Int) (m:Nat):Prop:=∀ j,2≤j→j<m→triIn l p q j=false

def insB (l:List V) (p q:Int):Bool:=withinB 65536000 p q && (List.range l.length).any fun m=>decide (2≤m) && triIn l p q m
theorem noTri_two (l:List V) (p q:Int):noTri l p q 2:=fun _ h1 h2=>absurd h1 (by omega)
theorem noTri_succ {l:List V} {p q:Int} {m:Nat} (h:noTri l p q m) (hm:triIn l p q m=false):noTri l p q (m+1):=fun j h2 hj=>by
 by_cases e:j=m
 ·subst e;exact hm
 ·exact h j h2 (by omega)
theorem insB_true {l:List V} {p q:Int} {m:Nat} (h1:withinB 65536000 p q=true) (h2:2≤m) (hm:m<l.length) (ht:triIn l p q m=true):insB l p q=true:=by
 unfold insB
 rw [h1,Bool.true_and,List.any_eq_true]
 exact ⟨m,List.mem_range.2 hm,by simp [h2,ht]⟩
theorem insB_false {l:List V} {p q:Int} (h:noTri l p q l.length):insB l p q=false:=by
 unfold insB
 rw [Bool.and_eq_false_iff]
 refine .inr ?_
 rw [List.any_eq_false]
 intro m hm
 by_cases h2:2≤m
 ·simp [h m h2 (List.mem_range.1 hm)]
 ·simp [h2]
theorem insB_iff {l:List V} {p q:Int}:insB l p q=true↔withinB 65536000 p q=true∧∃ m,2≤m∧m<l.length∧triIn l p q m=true:=by
 unfold insB
 simp only [Bool.and_eq_true,List.any_eq_true,List.mem_range,decide_eq_true_iff]
 constructor
 ·rintro ⟨a,m,b,c,d⟩;exact ⟨a,m,c,b,d⟩
 ·rintro ⟨a,m,c,b,d⟩;exact ⟨a,m,b,c,d⟩
theorem left_p {l:List V} (hw:allWithin 65536000 l=true) {p q:Int} (hp:withinB 65536000 p q=true) {i k:Nat} (hi:i<l.length) (hk:k<l.length) (w:World) :
  Calls Tryz.prog 138 #[vecV (px l i) (py l i),vecV (px l k) (py l k),vecV p q] w (Ret (.int .i64 (cmpZ (sideP l i k p q) 0)) w) :=
 left_calls _ _ _ _ _ _ (within_sm hw hi).1 (within_sm hw hi).2 (within_sm hw hk).1 (within_sm hw hk).2 (by obtain ⟨_,_,_,_⟩:=withinB_iff.1 hp;unfold sm;omega) (by obtain ⟨_,_,_,_⟩:=withinB_iff.1 hp;unfold sm;omega) w
theorem inside_calls (A:Option Addr) (n c:Nat) (l:List V) (p q:Int) (w:World) (hS:Sl w A n c l) (hw:allWithin 65536000 l=true) (h8:l.length≤8) (h0:3≤l.length) :
  Calls Tryz.prog 94 #[.slice A n c,vecV p q] w (Ret (.bool (insB l p q)) w):=by
 obtain ⟨b,off,rfl,hC⟩:=hS.at_ (by intro h;subst h;simp at h0)
 have hn:=hS.len
 subst hn
 have hb2:=hC.lt
 have hcap:=hS.cap
 have HC:=hid hC
 have HW:=hid hw
 clear hS hC hw
 cases hP:withinB 65536000 p q with
 | false =>
  have HP:=hid hP
  clear hP
  go_enter Tryz.func94,Tryz.ntmps94
  go_wp2_with (go_at_call 85;refine (coord_calls _ _ 65536000 _ (by omega) (by omega)).mono ?_;rintro e w2 ⟨rfl,hb3⟩;rw [HP.out])
  go_returns
  exact ret_bool (by simp [insB,HP.out]) (((Below.refl w.heap.size w).alloc (Nat.le_refl _) _).trans (hb3.mono (by simp)))
 | true =>
  have HP:=hid hP
  clear hP
  go_enter Tryz.func94,Tryz.ntmps94
  go_wp2_with (go_at_call 85;refine (coord_calls _ _ 65536000 _ (by omega) (by omega)).mono ?_;rintro e w2 ⟨rfl,hb3⟩;rw [HP.out];have l1:=hid (And.intro (show w2.cell? ⟨w.heap.size,0,none⟩=some (.int .i64 p) from keepCell hb3 (by go_simp)) (show w2.cell? ⟨w.heap.size,1,none⟩=some (.int .i64 q) from keepCell hb3 (by go_simp))))
  have hB0:Below w.heap.size w w2:=((Below.refl w.heap.size w).alloc (Nat.le_refl _) _).trans (hb3.mono (by simp))
  go_loopw [5] (fun s wr=>∃ m:Nat,2≤m∧m≤l.length∧s = .int .i64 m∧noTri l p q m∧Below w.heap.size w wr∧wr.cell? ⟨w.heap.size,0,none⟩=some (.int .i64 p)∧wr.cell? ⟨w.heap.size,1,none⟩=some (.int .i64 q)) (fun s _=>l.length-(intOf s).toNat)
  case atStart=>exact ⟨2,by omega,by omega,rfl,noTri_two _ _ _,hB0,l1.out.1,l1.out.2⟩
  case round =>
   obtain ⟨m,hm2,hm,rfl,hno,hB,kp,kq⟩:=hrel
   have HN:=hid hno
   clear hno
   by_cases hlt:m<l.length
   ·have e1 : IntKind.i64.wrap ((m : Int) - 1) = (m : Int) - 1 := IntWalk.i64_in _ (by omega)
    have e2:0≤(m:Int)-1:=by omega
    have e3:(m:Int)-1<(l.length:Int):=by omega
    have e4:((m:Int)-1).toNat=m-1:=by omega
    have e5:(0:Int)<(l.length:Int):=by omega
    have e6:(m:Int)<(l.length:Int):=by omega
    have e8:0<l.length:=by omega
    have e9:1≤(m:Int):=by omega
    have hCr:=HC.out.below hB
    have s1:wr.drew.cell? ⟨b,off,none⟩=some (.int .i64 (px l 0))∧wr.drew.cell? ⟨b,off+1,none⟩=some (.int .i64 (py l 0))∧wr.drew.cell? ⟨b,off+(m-1)*2,none⟩=some (.int .i64 (px l (m-1)))∧wr.drew.cell? ⟨b,off+(m-1)*2+1,none⟩=some (.int .i64 (py l (m-1)))∧wr.drew.cell? ⟨b,off+m*2,none⟩=some (.int .i64 (px l m))∧wr.drew.cell? ⟨b,off+m*2+1,none⟩=some (.int .i64 (py l m))∧wr.drew.cell? ⟨w.heap.size,0,none⟩=some (.int .i64 p)∧wr.drew.cell? ⟨w.heap.size,1,none⟩=some (.int .i64 q)∧Below w.heap.size w wr.drew:=⟨by simpa using hCr.x 0 (by omega),by simpa using hCr.y 0 (by omega),hCr.x (m-1) (by omega),hCr.y (m-1) (by omega),hCr.x m hlt,hCr.y m hlt,kp,kq,hB.drew⟩
    have S1:=hid s1
    clear s1
    clear hCr kp kq
    by_cases c1:0≤sideP l 0 (m-1) p q
    ·by_cases c2 : 0 ≤ sideP l (m - 1) m p q
     ·by_cases c3 : 0 ≤ sideP l m 0 p q
      ·have HF : Hid (triIn l p q m = true) := decide_eq_true ⟨c1, c2, c3⟩
       have f1:0≤cmpZ (sideP l 0 (m-1) p q) 0:=cmpZ_nonneg.2 c1
       have g1:decide (0≤cmpZ (sideP l 0 (m-1) p q) 0)=true:=decide_eq_true f1
       have f2:0≤cmpZ (sideP l (m-1) m p q) 0:=cmpZ_nonneg.2 c2
       have g2:decide (0≤cmpZ (sideP l (m-1) m p q) 0)=true:=decide_eq_true f2
       have f3:0≤cmpZ (sideP l m 0 p q) 0:=cmpZ_nonneg.2 c3
       have g3:decide (0≤cmpZ (sideP l m 0 p q) 0)=true:=decide_eq_true f3
       clear c1 c2 c3
       go_wp2
       go_region_held3 (fun w' => w'.cell? ⟨b, off, none⟩ = some (.int .i64 (px l 0)) ∧ w'.cell? ⟨b, off + 1, none⟩ = some (.int .i64 (py l 0)) ∧ w'.cell? ⟨b, off + (m - 1) * 2, none⟩ = some (.int .i64 (px l (m - 1))) ∧ w'.cell? ⟨b, off + (m - 1) * 2 + 1, none⟩ = some (.int .i64 (py l (m - 1))) ∧ w'.cell? ⟨b, off + m * 2, none⟩ = some (.int .i64 (px l m)) ∧ w'.cell? ⟨b, off + m * 2 + 1, none⟩ = some (.int .i64 (py l m)) ∧ w'.cell? ⟨w.heap.size, 0, none⟩ = some (.int .i64 p) ∧ w'.cell? ⟨w.heap.size, 1, none⟩ = some (.int .i64 q) ∧ Below w.heap.size w w')
        (first | with_reducible exact S1.out | (go_split_ands;with_reducible exact ⟨keepCell hb3 (by assumption),keepCell hb3 (by assumption),keepCell hb3 (by assumption),keepCell hb3 (by assumption),keepCell hb3 (by assumption),keepCell hb3 (by assumption),keepCell hb3 (by assumption),keepCell hb3 (by assumption),keepBelow hb3 (by assumption)⟩))
        (first | (go_at_call 138;(first | (with_reducible refine (left_p HW.out HP.out (show 0<l.length by omega) (show m-1<l.length by omega) _).mono ?_) | (with_reducible refine (left_p HW.out HP.out (show m-1<l.length by omega) hlt _).mono ?_) | (with_reducible refine (left_p HW.out HP.out hlt (show 0<l.length by omega) _).mono ?_));rintro e w3 ⟨rfl,hb3⟩))
       go_wp2
       go_split_ands
       go_returns
       exact ret_bool (insB_true HP.out hm2 hlt HF.out).symm (by assumption)
      ·have HF : Hid (triIn l p q m = false) := decide_eq_false fun h => c3 h.2.2
       have f1:0≤cmpZ (sideP l 0 (m-1) p q) 0:=cmpZ_nonneg.2 c1
       have g1:decide (0≤cmpZ (sideP l 0 (m-1) p q) 0)=true:=decide_eq_true f1
       have f2:0≤cmpZ (sideP l (m-1) m p q) 0:=cmpZ_nonneg.2 c2
       have g2:decide (0≤cmpZ (sideP l (m-1) m p q) 0)=true:=decide_eq_true f2
       have f3:cmpZ (sideP l m 0 p q) 0<0:=cmpZ_neg.2 (by omega)
       have g3:decide (0≤cmpZ (sideP l m 0 p q) 0)=false:=by simp;omega
       clear c1 c2 c3
       go_wp2
       go_region_held3 (fun w' => w'.cell? ⟨b, off, none⟩ = some (.int .i64 (px l 0)) ∧ w'.cell? ⟨b, off + 1, none⟩ = some (.int .i64 (py l 0)) ∧ w'.cell? ⟨b, off + (m - 1) * 2, none⟩ = some (.int .i64 (px l (m - 1))) ∧ w'.cell? ⟨b, off + (m - 1) * 2 + 1, none⟩ = some (.int .i64 (py l (m - 1))) ∧ w'.cell? ⟨b, off + m * 2, none⟩ = some (.int .i64 (px l m)) ∧ w'.cell? ⟨b, off + m * 2 + 1, none⟩ = some (.int .i64 (py l m)) ∧ w'.cell? ⟨w.heap.size, 0, none⟩ = some (.int .i64 p) ∧ w'.cell? ⟨w.heap.size, 1, none⟩ = some (.int .i64 q) ∧ Below w.heap.size w w')
        (first | with_reducible exact S1.out | (go_split_ands;with_reducible exact ⟨keepCell hb3 (by assumption),keepCell hb3 (by assumption),keepCell hb3 (by assumption),keepCell hb3 (by assumption),keepCell hb3 (by assumption),keepCell hb3 (by assumption),keepCell hb3 (by assumption),keepCell hb3 (by assumption),keepBelow hb3 (by assumption)⟩))
        (first | (go_at_call 138;(first | (with_reducible refine (left_p HW.out HP.out (show 0<l.length by omega) (show m-1<l.length by omega) _).mono ?_) | (with_reducible refine (left_p HW.out HP.out (show m-1<l.length by omega) hlt _).mono ?_) | (with_reducible refine (left_p HW.out HP.out hlt (show 0<l.length by omega) _).mono ?_));rintro e w3 ⟨rfl,hb3⟩))
       go_wp2
       go_split_ands
       go_roundw
       case rel=>exact ⟨m+1,by omega,by omega,by go_num,noTri_succ HN.out HF.out,by assumption,by assumption,by assumption⟩
       case measure=>simp [intOf];omega
     ·have HF : Hid (triIn l p q m = false) := decide_eq_false fun h => c2 h.2.1
      have f1:0≤cmpZ (sideP l 0 (m-1) p q) 0:=cmpZ_nonneg.2 c1
      have g1:decide (0≤cmpZ (sideP l 0 (m-1) p q) 0)=true:=decide_eq_true f1
      have f2:cmpZ (sideP l (m-1) m p q) 0<0:=cmpZ_neg.2 (by omega)
      have g2:decide (0≤cmpZ (sideP l (m-1) m p q) 0)=false:=by simp;omega
      clear c1 c2
      go_wp2
      refine wp_region_noPanic ?_
      refine wp_region_held_drew (S:=fun w'=>w'.cell? ⟨b,off,none⟩=some (.int .i64 (px l 0))∧w'.cell? ⟨b,off+1,none⟩=some (.int .i64 (py l 0))∧w'.cell? ⟨b,off+(m-1)*2,none⟩=some (.int .i64 (px l (m-1)))∧w'.cell? ⟨b,off+(m-1)*2+1,none⟩=some (.int .i64 (py l (m-1)))∧w'.cell? ⟨b,off+m*2,none⟩=some (.int .i64 (px l m))∧w'.cell? ⟨b,off+m*2+1,none⟩=some (.int .i64 (py l m))∧w'.cell? ⟨w.heap.size,0,none⟩=some (.int .i64 p)∧w'.cell? ⟨w.heap.size,1,none⟩=some (.int .i64 q)∧Below w.heap.size w w') (by kernel_rfl) ?hs1_0 (fun hH=>?hr1_0)
      case hs1_0=>exact S1.out
      refine held_take 0 15 36 (v:=?v1_0) rfl (by kernel_rfl) (by kernel_rfl) (by kernel_rfl) (by kernel_rfl) (by kernel_rfl) (fun _ _ _ _ h=>h) (by kernel_rfl) ?hy1_0 hH ?_
      case hy1_0=>(intro w' hSw;go_simp;try (with_reducible rfl))
      simp only [List.set_cons_zero,List.set_cons_succ]
      refine held_take 1 16 35 (v:=?v1_1) rfl (by kernel_rfl) (by kernel_rfl) (by kernel_rfl) (by kernel_rfl) (by kernel_rfl) (fun _ _ _ _ h=>h) (by kernel_rfl) ?hy1_1 hH ?_
      case hy1_1=>(intro w' hSw;go_simp;try (with_reducible rfl))
      simp only [List.set_cons_zero,List.set_cons_succ]
      refine held_take 2 17 34 (v:=?v1_2) rfl (by kernel_rfl) (by kernel_rfl) (by kernel_rfl) (by kernel_rfl) (by kernel_rfl) (fun _ _ _ _ h=>h) (by kernel_rfl) ?hy1_2 hH ?_
      case hy1_2=>(intro w' hSw;go_simp;try (with_reducible rfl))
      simp only [List.set_cons_zero,List.set_cons_succ]
      refine held_take 3 18 33 (v:=?v1_3) rfl (by kernel_rfl) (by kernel_rfl) (by kernel_rfl) (by kernel_rfl) (by kernel_rfl) (fun _ _ _ _ h=>h) (by kernel_rfl) ?hy1_3 hH ?_
      case hy1_3=>(intro w' hSw;go_simp;try (with_reducible rfl))
      simp only [List.set_cons_zero,List.set_cons_succ]
      refine held_take 4 19 32 (v:=?v1_4) rfl (by kernel_rfl) (by kernel_rfl) (by kernel_rfl) (by kernel_rfl) (by kernel_rfl) (fun _ _ _ _ h=>h) (by kernel_rfl) ?hy1_4 hH ?_
      case hy1_4=>(intro w' hSw;go_simp;try (with_reducible rfl))
      simp only [List.set_cons_zero,List.set_cons_succ]
      refine held_take 5 20 31 (v:=?v1_5) rfl (by kernel_rfl) (by kernel_rfl) (by kernel_rfl) (by kernel_rfl) (by kernel_rfl) (fun _ _ _ _ h=>h) (by kernel_rfl) ?hy1_5 hH ?_
      case hy1_5=>(intro w' hSw;go_simp;try (with_reducible rfl))
      simp only [List.set_cons_zero,List.set_cons_succ]
      refine held_take 6 21 30 (v:=?v1_6) rfl (by kernel_rfl) (by kernel_rfl) (by kernel_rfl) (by kernel_rfl) (by kernel_rfl) (fun _ _ _ _ h=>h) (by kernel_rfl) ?hy1_6 hH ?_
      case hy1_6=>(intro w' hSw;go_simp;try (with_reducible rfl))
      simp only [List.set_cons_zero,List.set_cons_succ]
      refine held_take 7 22 29 (v:=?v1_7) rfl (by kernel_rfl) (by kernel_rfl) (by kernel_rfl) (by kernel_rfl) (by kernel_rfl) (fun _ _ _ _ h=>h) (by kernel_rfl) ?hy1_7 hH ?_
      case hy1_7=>(intro w' hSw;go_simp;try (with_reducible rfl))
      simp only [List.set_cons_zero,List.set_cons_succ]
      refine held_take 8 23 28 (v:=?v1_8) rfl (by kernel_rfl) (by kernel_rfl) (by kernel_rfl) (by kernel_rfl) (by kernel_rfl) (fun _ _ _ _ h=>h) (by kernel_rfl) ?hy1_8 hH ?_
      case hy1_8=>(intro w' hSw;go_simp;try (with_reducible rfl))
      simp only [List.set_cons_zero,List.set_cons_succ]
      refine wpAnyH_ready (rs:=[9]) (by kernel_rfl) (by simp) ?_
      refine AllReadyH.cons (o:=_) rfl (fun K hK=>?st1_9) AllReadyH.nil
      go_simp
      go_at_call 138;(first | (with_reducible refine (left_p HW.out HP.out (show 0<l.length by omega) (show m-1<l.length by omega) _).mono ?_) | (with_reducible refine (left_p HW.out HP.out (show m-1<l.length by omega) hlt _).mono ?_) | (with_reducible refine (left_p HW.out HP.out hlt (show 0<l.length by omega) _).mono ?_));rintro e w9 ⟨rfl,hb9⟩
      refine hK.out _ _ ?hs1_9 (fun hH2=>?hr1_9)
      case hs1_9=>(obtain ⟨q0,q1,q2,q3,q4,q5,q6,q7,q8⟩:=hH;exact ⟨keepCell hb9 q0,keepCell hb9 q1,keepCell hb9 q2,keepCell hb9 q3,keepCell hb9 q4,keepCell hb9 q5,keepCell hb9 q6,keepCell hb9 q7,keepBelow hb9 q8⟩)
      clear hK K hH
      have hH:=hH2
      clear hH2
      try simp only [Act.put,List.setIfInBounds_toArray,List.set_cons_zero,List.set_cons_succ]
      refine held_take 10 25 26 (v:=?v1_10) rfl (by kernel_rfl) (by kernel_rfl) (by kernel_rfl) (by kernel_rfl) (by kernel_rfl) (fun _ _ _ _ h=>h) (by kernel_rfl) ?hy1_10 hH ?_
      case hy1_10=>(intro w' hSw;go_simp;try (with_reducible rfl))
      simp only [List.set_cons_zero,List.set_cons_succ]
      refine held_take 11 26 25 (v:=?v1_11) rfl (by kernel_rfl) (by kernel_rfl) (by kernel_rfl) (by kernel_rfl) (by kernel_rfl) (fun _ _ _ _ h=>h) (by kernel_rfl) ?hy1_11 hH ?_
      case hy1_11=>(intro w' hSw;go_simp;try (with_reducible rfl))
      simp only [List.set_cons_zero,List.set_cons_succ]
      refine held_take 12 27 24 (v:=?v1_12) rfl (by kernel_rfl) (by kernel_rfl) (by kernel_rfl) (by kernel_rfl) (by kernel_rfl) (fun _ _ _ _ h=>h) (by kernel_rfl) ?hy1_12 hH ?_
      case hy1_12=>(intro w' hSw;go_simp;try (with_reducible rfl))
      simp only [List.set_cons_zero,List.set_cons_succ]
      refine held_take 13 28 23 (v:=?v1_13) rfl (by kernel_rfl) (by kernel_rfl) (by kernel_rfl) (by kernel_rfl) (by kernel_rfl) (fun _ _ _ _ h=>h) (by kernel_rfl) ?hy1_13 hH ?_
      case hy1_13=>(intro w' hSw;go_simp;try (with_reducible rfl))
      simp only [List.set_cons_zero,List.set_cons_succ]
      refine held_take 14 29 22 (v:=?v1_14) rfl (by kernel_rfl) (by kernel_rfl) (by kernel_rfl) (by kernel_rfl) (by kernel_rfl) (fun _ _ _ _ h=>h) (by kernel_rfl) ?hy1_14 hH ?_
      case hy1_14=>(intro w' hSw;go_simp;try (with_reducible rfl))
      simp only [List.set_cons_zero,List.set_cons_succ]
      refine held_take 15 30 21 (v:=?v1_15) rfl (by kernel_rfl) (by kernel_rfl) (by kernel_rfl) (by kernel_rfl) (by kernel_rfl) (fun _ _ _ _ h=>h) (by kernel_rfl) ?hy1_15 hH ?_
      case hy1_15=>(intro w' hSw;go_simp;try (with_reducible rfl))
      simp only [List.set_cons_zero,List.set_cons_succ]
      refine held_take 16 31 20 (v:=?v1_16) rfl (by kernel_rfl) (by kernel_rfl) (by kernel_rfl) (by kernel_rfl) (by kernel_rfl) (fun _ _ _ _ h=>h) (by kernel_rfl) ?hy1_16 hH ?_
      case hy1_16=>(intro w' hSw;go_simp;try (with_reducible rfl))
      simp only [List.set_cons_zero,List.set_cons_succ]
      refine held_take 17 32 19 (v:=?v1_17) rfl (by kernel_rfl) (by kernel_rfl) (by kernel_rfl) (by kernel_rfl) (by kernel_rfl) (fun _ _ _ _ h=>h) (by kernel_rfl) ?hy1_17 hH ?_
      case hy1_17=>(intro w' hSw;go_simp;try (with_reducible rfl))
      simp only [List.set_cons_zero,List.set_cons_succ]
      refine held_take 18 33 18 (v:=?v1_18) rfl (by kernel_rfl) (by kernel_rfl) (by kernel_rfl) (by kernel_rfl) (by kernel_rfl) (fun _ _ _ _ h=>h) (by kernel_rfl) ?hy1_18 hH ?_
      case hy1_18=>(intro w' hSw;go_simp;try (with_reducible rfl))
      simp only [List.set_cons_zero,List.set_cons_succ]
      refine held_take 19 34 17 (v:=?v1_19) rfl (by kernel_rfl) (by kernel_rfl) (by kernel_rfl) (by kernel_rfl) (by kernel_rfl) (fun _ _ _ _ h=>h) (by kernel_rfl) ?hy1_19 hH ?_
      case hy1_19=>(intro w' hSw;go_simp;try (with_reducible rfl))
      simp only [List.set_cons_zero,List.set_cons_succ]
      refine held_take 20 35 16 (v:=?v1_20) rfl (by kernel_rfl) (by kernel_rfl) (by kernel_rfl) (by kernel_rfl) (by kernel_rfl) (fun _ _ _ _ h=>h) (by kernel_rfl) ?hy1_20 hH ?_
      case hy1_20=>(intro w' hSw;go_simp;try (with_reducible rfl))
      simp only [List.set_cons_zero,List.set_cons_succ]
      refine held_take 21 36 15 (v:=?v1_21) rfl (by kernel_rfl) (by kernel_rfl) (by kernel_rfl) (by kernel_rfl) (by kernel_rfl) (fun _ _ _ _ h=>h) (by kernel_rfl) ?hy1_21 hH ?_
      case hy1_21=>(intro w' hSw;go_simp;try (with_reducible rfl))
      simp only [List.set_cons_zero,List.set_cons_succ]
      refine wpAnyH_ready (rs:=[22]) (by kernel_rfl) (by simp) ?_
      refine AllReadyH.cons (o:=_) rfl (fun K hK=>?st1_22) AllReadyH.nil
      go_simp
      go_at_call 138;(first | (with_reducible refine (left_p HW.out HP.out (show 0<l.length by omega) (show m-1<l.length by omega) _).mono ?_) | (with_reducible refine (left_p HW.out HP.out (show m-1<l.length by omega) hlt _).mono ?_) | (with_reducible refine (left_p HW.out HP.out hlt (show 0<l.length by omega) _).mono ?_));rintro e w22 ⟨rfl,hb22⟩
      refine hK.out _ _ ?hs1_22 (fun hH2=>?hr1_22)
      case hs1_22=>(obtain ⟨q0,q1,q2,q3,q4,q5,q6,q7,q8⟩:=hH;exact ⟨keepCell hb22 q0,keepCell hb22 q1,keepCell hb22 q2,keepCell hb22 q3,keepCell hb22 q4,keepCell hb22 q5,keepCell hb22 q6,keepCell hb22 q7,keepBelow hb22 q8⟩)
      clear hK K hH
      have hH:=hH2
      clear hH2
      try simp only [Act.put,List.setIfInBounds_toArray,List.set_cons_zero,List.set_cons_succ]
      refine held_take 23 38 13 (v:=?v1_23) rfl (by kernel_rfl) (by kernel_rfl) (by kernel_rfl) (by kernel_rfl) (by kernel_rfl) (fun _ _ _ _ h=>h) (by kernel_rfl) ?hy1_23 hH ?_
      case hy1_23=>(intro w' hSw;go_simp;try (with_reducible rfl))
      simp only [List.set_cons_zero,List.set_cons_succ]
      refine held_take 24 39 12 (v:=?v1_24) rfl (by kernel_rfl) (by kernel_rfl) (by kernel_rfl) (by kernel_rfl) (by kernel_rfl) (fun _ _ _ _ h=>h) (by kernel_rfl) ?hy1_24 hH ?_
      case hy1_24=>(intro w' hSw;go_simp;try (with_reducible rfl))
      simp only [List.set_cons_zero,List.set_cons_succ]
      refine held_take 25 40 11 (v:=?v1_25) rfl (by kernel_rfl) (by kernel_rfl) (by kernel_rfl) (by kernel_rfl) (by kernel_rfl) (fun _ _ _ _ h=>h) (by kernel_rfl) ?hy1_25 hH ?_
      case hy1_25=>(intro w' hSw;go_simp;try (with_reducible rfl))
      simp only [List.set_cons_zero,List.set_cons_succ]
      refine held_skips (by kernel_rfl) (fun _ _ _ _ h=>h) hH [(26,41),(27,42),(28,43),(29,44),(30,45),(31,46),(32,47),(33,48),(34,49),(35,50)] 1 _ _ _ (by kernel_rfl) (by kernel_rfl) ?_
      simp only [setUndef,List.set_cons_zero,List.set_cons_succ]
      refine held_take 36 51 0 (v:=?v1_36) rfl (by kernel_rfl) (by kernel_rfl) (by kernel_rfl) (by kernel_rfl) (by kernel_rfl) (fun _ _ _ _ h=>h) (by kernel_rfl) ?hy1_36 hH ?_
      case hy1_36=>(intro w' hSw;go_simp;try (with_reducible rfl))
      simp only [List.set_cons_zero,List.set_cons_succ]
      refine wpAnyH_done (by kernel_rfl) ?_ _
      refine NoPanic.normal ?_
      go_wp2
      go_split_ands
      go_roundw
      case rel=>exact ⟨m+1,by omega,by omega,by go_num,noTri_succ HN.out HF.out,by assumption,by assumption,by assumption⟩
      case measure=>simp [intOf];omega
    ·have HF : Hid (triIn l p q m = false) := decide_eq_false fun h => c1 h.1
     have f1:cmpZ (sideP l 0 (m-1) p q) 0<0:=cmpZ_neg.2 (by omega)
     have g1:decide (0≤cmpZ (sideP l 0 (m-1) p q) 0)=false:=by simp;omega
     clear c1
     go_wp2
     refine wp_region_noPanic ?_
     refine wp_region_held_drew (S:=fun w'=>w'.cell? ⟨b,off,none⟩=some (.int .i64 (px l 0))∧w'.cell? ⟨b,off+1,none⟩=some (.int .i64 (py l 0))∧w'.cell? ⟨b,off+(m-1)*2,none⟩=some (.int .i64 (px l (m-1)))∧w'.cell? ⟨b,off+(m-1)*2+1,none⟩=some (.int .i64 (py l (m-1)))∧w'.cell? ⟨b,off+m*2,none⟩=some (.int .i64 (px l m))∧w'.cell? ⟨b,off+m*2+1,none⟩=some (.int .i64 (py l m))∧w'.cell? ⟨w.heap.size,0,none⟩=some (.int .i64 p)∧w'.cell? ⟨w.heap.size,1,none⟩=some (.int .i64 q)∧Below w.heap.size w w') (by kernel_rfl) ?hs2_0 (fun hH=>?hr2_0)
     case hs2_0=>exact S1.out
     refine held_take 0 15 36 (v:=?v2_0) rfl (by kernel_rfl) (by kernel_rfl) (by kernel_rfl) (by kernel_rfl) (by kernel_rfl) (fun _ _ _ _ h=>h) (by kernel_rfl) ?hy2_0 hH ?_
     case hy2_0=>(intro w' hSw;go_simp;try (with_reducible rfl))
     simp only [List.set_cons_zero,List.set_cons_succ]
     refine held_take 1 16 35 (v:=?v2_1) rfl (by kernel_rfl) (by kernel_rfl) (by kernel_rfl) (by kernel_rfl) (by kernel_rfl) (fun _ _ _ _ h=>h) (by kernel_rfl) ?hy2_1 hH ?_
     case hy2_1=>(intro w' hSw;go_simp;try (with_reducible rfl))
     simp only [List.set_cons_zero,List.set_cons_succ]
     refine held_take 2 17 34 (v:=?v2_2) rfl (by kernel_rfl) (by kernel_rfl) (by kernel_rfl) (by kernel_rfl) (by kernel_rfl) (fun _ _ _ _ h=>h) (by kernel_rfl) ?hy2_2 hH ?_
     case hy2_2=>(intro w' hSw;go_simp;try (with_reducible rfl))
     simp only [List.set_cons_zero,List.set_cons_succ]
     refine held_take 3 18 33 (v:=?v2_3) rfl (by kernel_rfl) (by kernel_rfl) (by kernel_rfl) (by kernel_rfl) (by kernel_rfl) (fun _ _ _ _ h=>h) (by kernel_rfl) ?hy2_3 hH ?_
     case hy2_3=>(intro w' hSw;go_simp;try (with_reducible rfl))
     simp only [List.set_cons_zero,List.set_cons_succ]
     refine held_take 4 19 32 (v:=?v2_4) rfl (by kernel_rfl) (by kernel_rfl) (by kernel_rfl) (by kernel_rfl) (by kernel_rfl) (fun _ _ _ _ h=>h) (by kernel_rfl) ?hy2_4 hH ?_
     case hy2_4=>(intro w' hSw;go_simp;try (with_reducible rfl))
     simp only [List.set_cons_zero,List.set_cons_succ]
     refine held_take 5 20 31 (v:=?v2_5) rfl (by kernel_rfl) (by kernel_rfl) (by kernel_rfl) (by kernel_rfl) (by kernel_rfl) (fun _ _ _ _ h=>h) (by kernel_rfl) ?hy2_5 hH ?_
     case hy2_5=>(intro w' hSw;go_simp;try (with_reducible rfl))
     simp only [List.set_cons_zero,List.set_cons_succ]
     refine held_take 6 21 30 (v:=?v2_6) rfl (by kernel_rfl) (by kernel_rfl) (by kernel_rfl) (by kernel_rfl) (by kernel_rfl) (fun _ _ _ _ h=>h) (by kernel_rfl) ?hy2_6 hH ?_
     case hy2_6=>(intro w' hSw;go_simp;try (with_reducible rfl))
     simp only [List.set_cons_zero,List.set_cons_succ]
     refine held_take 7 22 29 (v:=?v2_7) rfl (by kernel_rfl) (by kernel_rfl) (by kernel_rfl) (by kernel_rfl) (by kernel_rfl) (fun _ _ _ _ h=>h) (by kernel_rfl) ?hy2_7 hH ?_
     case hy2_7=>(intro w' hSw;go_simp;try (with_reducible rfl))
     simp only [List.set_cons_zero,List.set_cons_succ]
     refine held_take 8 23 28 (v:=?v2_8) rfl (by kernel_rfl) (by kernel_rfl) (by kernel_rfl) (by kernel_rfl) (by kernel_rfl) (fun _ _ _ _ h=>h) (by kernel_rfl) ?hy2_8 hH ?_
     case hy2_8=>(intro w' hSw;go_simp;try (with_reducible rfl))
     simp only [List.set_cons_zero,List.set_cons_succ]
     refine wpAnyH_ready (rs:=[9]) (by kernel_rfl) (by simp) ?_
     refine AllReadyH.cons (o:=_) rfl (fun K hK=>?st2_9) AllReadyH.nil
     go_simp
     go_at_call 138;(first | (with_reducible refine (left_p HW.out HP.out (show 0<l.length by omega) (show m-1<l.length by omega) _).mono ?_) | (with_reducible refine (left_p HW.out HP.out (show m-1<l.length by omega) hlt _).mono ?_) | (with_reducible refine (left_p HW.out HP.out hlt (show 0<l.length by omega) _).mono ?_));rintro e w9 ⟨rfl,hb9⟩
     refine hK.out _ _ ?hs2_9 (fun hH2=>?hr2_9)
     case hs2_9=>(obtain ⟨q0,q1,q2,q3,q4,q5,q6,q7,q8⟩:=hH;exact ⟨keepCell hb9 q0,keepCell hb9 q1,keepCell hb9 q2,keepCell hb9 q3,keepCell hb9 q4,keepCell hb9 q5,keepCell hb9 q6,keepCell hb9 q7,keepBelow hb9 q8⟩)
     clear hK K hH
     have hH:=hH2
     clear hH2
     try simp only [Act.put,List.setIfInBounds_toArray,List.set_cons_zero,List.set_cons_succ]
     refine held_take 10 25 26 (v:=?v2_10) rfl (by kernel_rfl) (by kernel_rfl) (by kernel_rfl) (by kernel_rfl) (by kernel_rfl) (fun _ _ _ _ h=>h) (by kernel_rfl) ?hy2_10 hH ?_
     case hy2_10=>(intro w' hSw;go_simp;try (with_reducible rfl))
     simp only [List.set_cons_zero,List.set_cons_succ]
     refine held_take 11 26 25 (v:=?v2_11) rfl (by kernel_rfl) (by kernel_rfl) (by kernel_rfl) (by kernel_rfl) (by kernel_rfl) (fun _ _ _ _ h=>h) (by kernel_rfl) ?hy2_11 hH ?_
     case hy2_11=>(intro w' hSw;go_simp;try (with_reducible rfl))
     simp only [List.set_cons_zero,List.set_cons_succ]
     refine held_skips (by kernel_rfl) (fun _ _ _ _ h=>h) hH [(12,27),(13,28),(14,29),(15,30),(16,31),(17,32),(18,33),(19,34),(20,35),(21,36),(22,37),(23,38)] 13 _ _ _ (by kernel_rfl) (by kernel_rfl) ?_
     simp only [setUndef,List.set_cons_zero,List.set_cons_succ]
     refine held_take 24 39 12 (v:=?v2_24) rfl (by kernel_rfl) (by kernel_rfl) (by kernel_rfl) (by kernel_rfl) (by kernel_rfl) (fun _ _ _ _ h=>h) (by kernel_rfl) ?hy2_24 hH ?_
     case hy2_24=>(intro w' hSw;go_simp;try (with_reducible rfl))
     simp only [List.set_cons_zero,List.set_cons_succ]
     refine held_take 25 40 11 (v:=?v2_25) rfl (by kernel_rfl) (by kernel_rfl) (by kernel_rfl) (by kernel_rfl) (by kernel_rfl) (fun _ _ _ _ h=>h) (by kernel_rfl) ?hy2_25 hH ?_
     case hy2_25=>(intro w' hSw;go_simp;try (with_reducible rfl))
     simp only [List.set_cons_zero,List.set_cons_succ]
     refine held_skips (by kernel_rfl) (fun _ _ _ _ h=>h) hH [(26,41),(27,42),(28,43),(29,44),(30,45),(31,46),(32,47),(33,48),(34,49),(35,50)] 1 _ _ _ (by kernel_rfl) (by kernel_rfl) ?_
     simp only [setUndef,List.set_cons_zero,List.set_cons_succ]
     refine held_take 36 51 0 (v:=?v2_36) rfl (by kernel_rfl) (by kernel_rfl) (by kernel_rfl) (by kernel_rfl) (by kernel_rfl) (fun _ _ _ _ h=>h) (by kernel_rfl) ?hy2_36 hH ?_
     case hy2_36=>(intro w' hSw;go_simp;try (with_reducible rfl))
     simp only [List.set_cons_zero,List.set_cons_succ]
     refine wpAnyH_done (by kernel_rfl) ?_ _
     refine NoPanic.normal ?_
     go_wp2
     go_split_ands
     go_roundw
     case rel=>exact ⟨m+1,by omega,by omega,by go_num,noTri_succ HN.out HF.out,by assumption,by assumption,by assumption⟩
     case measure=>simp [intOf];omega
   ·have hge : l.length ≤ m := by omega
    clear kp kq
    go_wp2
    go_returns
    exact ret_bool (insB_false (by have:=HN.out;rwa [show m=l.length by omega] at this)).symm hB

def okFar (l:List V) (u v:Int) (i k:Nat):Bool:=decide (dotL l u v k<dotL l u v i∨dotL l u v k=dotL l u v i∧i≤k)
def okTo (l : List V) (u v : Int) (i : Nat) : Nat → Bool
 | 0=>true
 | k+1=>okTo l u v i k && okFar l u v i k
theorem okTo_iff (l:List V) (u v:Int) (i k:Nat):okTo l u v i k=true↔∀ j,j<k→okFar l u v i j=true:=by
 induction k with
 | zero=>simp [okTo]
 | succ k ih =>
  simp only [okTo,Bool.and_eq_true,ih]
  constructor
  ·rintro ⟨h1, h2⟩ j hj
   by_cases e:j=k
   ·subst e;exact h2
   ·exact h1 j (by omega)
  ·exact fun h=>⟨fun j hj=>h j (by omega),h k (by omega)⟩
def noFar (l:List V) (u v:Int) (i:Nat):Prop:=∀ j,j<i→okTo l u v j l.length=false
theorem noFar_zero (l:List V) (u v:Int):noFar l u v 0:=fun _ h=>absurd h (by omega)
theorem noFar_succ {l:List V} {u v:Int} {i:Nat} (h:noFar l u v i) (hi:okTo l u v i l.length=false):noFar l u v (i+1):=fun j hj=>by
 by_cases e:j=i
 ·subst e;exact hi
 ·exact h j (by omega)

def farIs (l:List V) (u v:Int) (r:Int):Prop:=(∃ i:Nat,r=i∧i<l.length∧noFar l u v i∧okTo l u v i l.length=true)∨(r = -1∧noFar l u v l.length)
def RetFar (l:List V) (u v:Int) (w:World) (e:Ending) (w':World):Prop:=∃ r,farIs l u v r∧Ret (.int .i64 r) w e w'
theorem rdot_l {l:List V} (hw:allWithin 65536000 l=true) {u v:Int} (hu:i64 u) (hv:i64 v) {j:Nat} (hj:j<l.length) (w:World) :
  Calls Tryz.prog 140 #[vecV (px l j) (py l j),vecV u v] w (Ret (bigV (dotL l u v j)) w):=rdot_calls _ _ _ _ (within_i64 hw hj).1 (within_i64 hw hj).2 hu hv w
theorem far_calls (A:Option Addr) (n c:Nat) (l:List V) (u v:Int) (hu:i64 u) (hv:i64 v) (w:World) (hS:Sl w A n c l) (hw:allWithin 65536000 l=true) (h8:l.length≤8) (h0:3≤l.length) :
  Calls Tryz.prog 103 #[.slice A n c,vecV u v] w (RetFar l u v w):=by
 obtain ⟨b,off,rfl,hC⟩:=hS.at_ (by intro h;subst h;simp at h0)
 have hn:=hS.len
 subst hn
 have hb2:=hC.lt
 have hcap:=hS.cap
 have HC:=hid hC
 have HW:=hid hw
 have HU:=hid hu
 have HV:=hid hv
 clear hS hC hw hu hv
 go_enter Tryz.func103,Tryz.ntmps103
 go_wp2
 go_loopw [13] (fun s wr=>∃ i:Nat,i≤l.length∧s = .int .i64 i∧noFar l u v i∧Below w.heap.size w wr∧wr.cell? ⟨w.heap.size,0,none⟩=some (.int .i64 u)∧wr.cell? ⟨w.heap.size,1,none⟩=some (.int .i64 v)) (fun s _=>l.length-(intOf s).toNat)
 case atStart=>exact ⟨0,Nat.zero_le _,rfl,noFar_zero _ _ _,by go_grown,by go_simp,by go_simp⟩
 case round =>
  obtain ⟨i,hi,rfl,hno,hB,ku,kv⟩:=hrel
  obtain ⟨wo,rfl⟩:∃ wo:World,wo=wr:=⟨_,rfl⟩
  have HN:=hid hno
  clear hno
  by_cases hlt:i<l.length
  ·have hCo := HC.out.below hB
   have hx:=hCo.x i hlt
   have hy:=hCo.y i hlt
   have hbo:=hCo.lt
   have hwo:=lt_of_cell ku
   have KU:=hid ku
   have KV:=hid kv
   clear hCo ku kv
   obtain ⟨Wb,hWb⟩:∃ Wb,Wb=(wo.alloc (.cells #[.int .i64 (px l i),.int .i64 (py l i)] 27)):=⟨_,rfl⟩
   have hWs:wo.heap.size<Wb.heap.size:=by subst hWb;simp
   have hWB:Below wo.heap.size wo Wb:=by subst hWb;exact (Below.refl _ _).alloc (Nat.le_refl _) _
   have hWx:Wb.cell? ⟨wo.heap.size,0,none⟩=some (.int .i64 (px l i))∧Wb.cell? ⟨wo.heap.size,1,none⟩=some (.int .i64 (py l i)):=by subst hWb;exact ⟨by go_simp,by go_simp⟩
   have HWx:=hid hWx
   clear hWx
   go_wp2
   rw [← hWb]
   clear hWb
   go_loopw [7,20] (fun t s wr=>∃ k:Nat,k≤l.length∧s = .int .i64 k∧t = .bool (okTo l u v i k)∧Below Wb.heap.size Wb wr) (fun _ s _=>l.length-(intOf s).toNat)
   case atStart=>exact ⟨0,Nat.zero_le _,rfl,rfl,Below.refl _ _⟩
   case round =>
    obtain ⟨k,hk,rfl,rfl,hBi⟩:=hrel
    obtain ⟨wi,rfl⟩:∃ wi:World,wi=wr:=⟨_,rfl⟩
    have hz1:wo.heap.size<wi.heap.size:=Nat.lt_of_lt_of_le hWs hBi.size
    have hz2:w.heap.size<wi.heap.size:=by omega
    have hBo:Below wo.heap.size wo wi:=hWB.trans (hBi.mono (by omega))
    have hBw:Below w.heap.size w wi:=hB.trans (hBo.mono hB.size)
    by_cases hlt2:k<l.length
    ·have hCi := HC.out.below hBw
     have hx3:=hCi.x k hlt2
     have hy3:=hCi.y k hlt2
     have hbi:=hCi.lt
     have gx:wi.cell? ⟨wo.heap.size,0,none⟩=some (.int .i64 (px l i)):=keepCell hBi HWx.out.1
     have gy:wi.cell? ⟨wo.heap.size,1,none⟩=some (.int .i64 (py l i)):=keepCell hBi HWx.out.2
     have gu:wi.cell? ⟨w.heap.size,0,none⟩=some (.int .i64 u):=keepCell hBo KU.out
     have gv:wi.cell? ⟨w.heap.size,1,none⟩=some (.int .i64 v):=keepCell hBo KV.out
     have b1:=hid (dotL_bd HW.out HU.out HV.out hlt)
     have b2:=hid (dotL_bd HW.out HU.out HV.out hlt2)
     have s1:(wi.alloc (.cells #[.int .i64 (px l k),.int .i64 (py l k)] 27)).drew.cell? ⟨wi.heap.size,0,none⟩=some (.int .i64 (px l k))∧(wi.alloc (.cells #[.int .i64 (px l k),.int .i64 (py l k)] 27)).drew.cell? ⟨wi.heap.size,1,none⟩=some (.int .i64 (py l k))∧(wi.alloc (.cells #[.int .i64 (px l k),.int .i64 (py l k)] 27)).drew.cell? ⟨wo.heap.size,0,none⟩=some (.int .i64 (px l i))∧(wi.alloc (.cells #[.int .i64 (px l k),.int .i64 (py l k)] 27)).drew.cell? ⟨wo.heap.size,1,none⟩=some (.int .i64 (py l i))∧(wi.alloc (.cells #[.int .i64 (px l k),.int .i64 (py l k)] 27)).drew.cell? ⟨w.heap.size,0,none⟩=some (.int .i64 u)∧(wi.alloc (.cells #[.int .i64 (px l k),.int .i64 (py l k)] 27)).drew.cell? ⟨w.heap.size,1,none⟩=some (.int .i64 v)∧Below Wb.heap.size Wb (wi.alloc (.cells #[.int .i64 (px l k),.int .i64 (py l k)] 27)).drew:=⟨by go_simp,by go_simp,by go_simp,by go_simp,by go_simp,by go_simp,((hBi.alloc hBi.size _)).drew⟩
     have S1:=hid s1
     clear s1
     clear hCi
     go_wp2
     go_region_held3 (fun w' => w'.cell? ⟨wi.heap.size, 0, none⟩ = some (.int .i64 (px l k)) ∧ w'.cell? ⟨wi.heap.size, 1, none⟩ = some (.int .i64 (py l k)) ∧ w'.cell? ⟨wo.heap.size, 0, none⟩ = some (.int .i64 (px l i)) ∧ w'.cell? ⟨wo.heap.size, 1, none⟩ = some (.int .i64 (py l i)) ∧ w'.cell? ⟨w.heap.size, 0, none⟩ = some (.int .i64 u) ∧ w'.cell? ⟨w.heap.size, 1, none⟩ = some (.int .i64 v) ∧ Below Wb.heap.size Wb w')
      (first | with_reducible exact S1.out | (go_split_ands;with_reducible exact ⟨keepCell hb3 (by assumption),keepCell hb3 (by assumption),keepCell hb3 (by assumption),keepCell hb3 (by assumption),keepCell hb3 (by assumption),keepCell hb3 (by assumption),keepBelow hb3 (by assumption)⟩))
      (first | (go_at_call 140;(first | (with_reducible refine (rdot_l HW.out HU.out HV.out hlt _).mono ?_) | (with_reducible refine (rdot_l HW.out HU.out HV.out hlt2 _).mono ?_));rintro e w3 ⟨rfl,hb3⟩) | (go_at_call 132;refine (bcmp_calls _ _ b2.out.1 b2.out.2 b1.out.1 b1.out.2 _).mono ?_;rintro e w3 ⟨rfl,hb3⟩))
     go_split_ands
     have hBn:Below Wb.heap.size Wb w3:=by assumption
     generalize hcc:cmpZ (dotL l u v k) (dotL l u v i)=cc
     have HCC:=hid hcc
     clear hcc
     cases hok:okTo l u v i k with
     | false =>
      have HOK:=hid hok
      clear hok
      go_wp2
      go_roundw
      case rel=>exact ⟨k+1,hlt2,by go_num,by rw [okTo,HOK.out];rfl,hBn⟩
      case measure=>simp [intOf];omega
     | true =>
      have HOK:=hid hok
      clear hok
      by_cases c1:cc<0
      ·have g1 : decide (cc < 0) = true := decide_eq_true c1
       go_wp2
       go_roundw
       case rel=>exact ⟨k+1,hlt2,by go_num,by rw [okTo,HOK.out,okFar,decide_eq_true (.inl (cmpZ_neg.1 (by rw [HCC.out];exact c1)))];rfl,hBn⟩
       case measure=>simp [intOf];omega
      ·have g1 : decide (cc < 0) = false := decide_eq_false c1
       by_cases c2:cc=0
       ·have g2 : (cc == 0) = true := by simp [c2]
        have hd:=hid (cmpZ_zero.1 (show cmpZ (dotL l u v k) (dotL l u v i)=0 by rw [HCC.out];exact c2))
        have C2:=hid c2
        clear c2
        by_cases c3:i≤k
        ·go_wp2
         go_roundw
         case rel=>exact ⟨k+1,hlt2,by go_num,by rw [okTo,HOK.out,okFar,decide_eq_true (.inr ⟨hd.out,c3⟩)];simp <;> omega,hBn⟩
         case measure=>simp [intOf];omega
        ·go_wp2
         go_roundw
         case rel=>exact ⟨k+1,hlt2,by go_num,by rw [okTo,HOK.out,okFar,decide_eq_false (fun h=>h.elim (fun h=>absurd (cmpZ_neg.2 h) (by rw [HCC.out];exact c1)) (fun h=>c3 h.2))];simp <;> omega,hBn⟩
         case measure=>simp [intOf];omega
       ·have g2 : (cc == 0) = false := by simp [c2]
        have hd:=hid (fun h=>c2 (by rw [← HCC.out];exact cmpZ_zero.2 h):¬ dotL l u v k=dotL l u v i)
        have C2:=hid c2
        clear c2
        go_wp2
        go_roundw
        case rel=>exact ⟨k+1,hlt2,by go_num,by rw [okTo,HOK.out,okFar,decide_eq_false (fun h=>h.elim (fun h=>absurd (cmpZ_neg.2 h) (by rw [HCC.out];exact c1)) (fun h=>hd.out h.1))];rfl,hBn⟩
        case measure=>simp [intOf];omega
    ·have hge : l.length ≤ k := by omega
     cases hok:okTo l u v i k with
     | false =>
      have HOK:=hid hok
      clear hok
      go_wp2
      go_roundw
      case rel=>exact ⟨i+1,hlt,by go_num,noFar_succ HN.out (by rw [show l.length=k by omega];exact HOK.out),hBw,keepCell hBo KU.out,keepCell hBo KV.out⟩
      case measure=>simp [intOf];omega
     | true =>
      have HOK:=hid hok
      clear hok
      go_wp2
      go_returns
      exact ⟨i,.inl ⟨i,rfl,hlt,HN.out,by rw [show l.length=k by omega];exact HOK.out⟩,rfl,hBw⟩
  ·have hge : l.length ≤ i := by omega
   clear ku kv
   go_wp2
   go_returns
   exact ⟨-1,.inr ⟨rfl,by have:=HN.out;rwa [show i=l.length by omega] at this⟩,rfl,hB⟩

theorem Sl.of4 {w : World} {g c : Nat} (a b p q r s u v : Int) (h0 : w.cell? ⟨g, 0, none⟩ = some (.int .i64 a)) (h1 : w.cell? ⟨g, 1, none⟩ = some (.int .i64 b)) (h2 : w.cell? ⟨g, 2, none⟩ = some (.int .i64 p)) (h3 : w.cell? ⟨g, 3, none⟩ = some (.int .i64 q))
  (h4:w.cell? ⟨g,4,none⟩=some (.int .i64 r)) (h5:w.cell? ⟨g,5,none⟩=some (.int .i64 s)) (h6:w.cell? ⟨g,6,none⟩=some (.int .i64 u)) (h7:w.cell? ⟨g,7,none⟩=some (.int .i64 v)) (hc:4≤c) (hc2:c≤9223372036854775807):Sl w (some ⟨g,0,none⟩) 4 c [(a,b),(p,q),(r,s),(u,v)]:=by
 refine ⟨rfl,hc,hc2,fun _=>⟨g,0,rfl,lt_of_cell h0,fun j hj=>?_,fun j hj=>?_⟩⟩
 ·match j,hj with
  | 0,_=>exact h0
  | 1,_=>exact h2
  | 2,_=>exact h4
  | 3,_=>exact h6
 ·match j,hj with
  | 0,_=>exact h1
  | 1,_=>exact h3
  | 2,_=>exact h5
  | 3,_=>exact h7
def sqL (x y s:Int):List V:=[(x*65536,y*65536),(x*65536+s*65536,y*65536),(x*65536+s*65536,y*65536+s*65536),(x*65536,y*65536+s*65536)]
end
end Go.Proofs.YtiaoandbdgdecaaGreat
