/- Parts of a proof: contracts and laws. -/
import Derived.Test.YtokgmcomgflloaaGreatQA00
import Derived.Test.YtokgmcomgflloaaGreatQA01
import Derived.Deep.RegionHeld3
import Derived.Test.YtokgmcomgflloaaGreatQA03
import Derived.Test.YtokgmcomgflloaaGreatQA02
import Derived.Deep.DeepCutAuto
set_option maxRecDepth 100000
set_option maxHeartbeats 16000000
namespace Go.Proofs.YtokgmcomgflloaaGreat
section
set_option linter.unusedVariables false
set_option linter.unusedSimpArgs false
open Go.RowKit
variable {w0 w w':World}


def vw (l:List V) (i:Nat) (p q:Int):Int:=iZ (px l i) (py l i) (px l ((i+1) % l.length)) (py l ((i+1) % l.length)) p q
def Eb (l:List V) (p q:Int) (k:Nat):Prop:=∀ i,i<k→0≤vw l i p q
def hasB (l:List V) (p q:Int):Bool:=decide (bH l=0) && aI 65536000 p q && (List.range l.length).all fun i=>decide (0≤vw l i p q)
theorem EH (l:List V) (p q:Int):Eb l p q 0:=fun _ h=>absurd h (by omega)
theorem EO {l:List V} {p q:Int} {k:Nat} (h:Eb l p q k) (hk:0≤vw l k p q):Eb l p q (k+1):=fun i hi=>by
 by_cases e:i=k
 ·subst e;exact hk
 ·exact h i (by omega)
theorem zI {l:List V} {p q:Int} (h1:bH l=0) (h2:aI 65536000 p q=true) (h3:Eb l p q l.length):hasB l p q=true:=by
 unfold hasB;rw [h2,decide_eq_true h1];simp only [Bool.and_self,Bool.true_and,List.all_eq_true,List.mem_range,decide_eq_true_iff];exact h3
theorem EX {l:List V} {p q:Int} {k:Nat} (hk:k<l.length) (h:vw l k p q<0):hasB l p q=false:=by
 have:((List.range l.length).all fun i=>decide (0≤vw l i p q))=false:=by
  rw [List.all_eq_false];exact ⟨k,List.mem_range.2 hk,by simp;omega⟩
 unfold hasB;rw [this];simp
theorem Jp (A:Option Addr) (n c:Nat) (l:List V) (p q:Int) (w:World) (hS:Sl w A n c l) :
  Calls Tryz.prog 214 #[.slice A n c,aR p q] w (dG (.bool (hasB l p q)) w):=by
 have hS1:Sl (w.alloc (.cells #[.int .i64 p,.int .i64 q] 24)) A n c l:=hS.below ((Below.refl _ _).alloc (Nat.le_refl _) _)
 by_cases hE:bH l=0
 ·cases hP:aI 65536000 p q with
  | false =>
   have HS1:=hid hS1;have HE:=hid hE;have HP:=hid hP;clear hS hS1 hE hP
   go_enter Tryz.func214,Tryz.ntmps214
   go_wp2_with (first | (go_at_call 146;refine (fO _ _ _ l _ HS1.out).mono ?_;rintro e w1 ⟨rfl,hb1⟩;rw [HE.out];have k1:w1.cell? ⟨w.heap.size,0,none⟩=some (.int .i64 p):=keepCell hb1 (by go_simp);have k2:w1.cell? ⟨w.heap.size,1,none⟩=some (.int .i64 q):=keepCell hb1 (by go_simp)) | (go_at_call 211;refine (nT _ _ _).mono ?_;rintro e w2 ⟨rfl,hb2⟩;rw [HP.out]))
   go_returns
   exact bR (by simp [hasB,HP.out]) ((((Below.refl w.heap.size w).alloc (Nat.le_refl _) _).trans (hb1.mono (by simp))).trans (hb2.mono (Nat.le_trans (by simp) hb1.size)))
  | true =>
   obtain ⟨h8,h3,hw,_⟩:=bI hE;obtain ⟨b,off,rfl,hC⟩:=hS.at_ (by intro h;subst h;simp at h3);have hn:=hS.len;subst hn;have hb2:=hC.lt;have hcap:=hS.cap;have HS1:=hid hS1;have HE:=hid hE;have HP:=hid hP;have HC:=hid hC;have HW:=hid hw;clear hS hS1 hE hP hC hw
   go_enter Tryz.func214,Tryz.ntmps214
   go_wp2_with (first | (go_at_call 146;refine (fO _ _ _ l _ HS1.out).mono ?_;rintro e w1 ⟨rfl,hb1⟩;rw [HE.out];have k1:w1.cell? ⟨w.heap.size,0,none⟩=some (.int .i64 p):=keepCell hb1 (by go_simp);have k2:w1.cell? ⟨w.heap.size,1,none⟩=some (.int .i64 q):=keepCell hb1 (by go_simp)) | (go_at_call 211;refine (nT _ _ _).mono ?_;rintro e w2 ⟨rfl,hb2⟩;rw [HP.out];have l1:=hid (And.intro (keepCell hb2 k1) (keepCell hb2 k2))))
   have hB0:Below w.heap.size w w2:=(((Below.refl w.heap.size w).alloc (Nat.le_refl _) _).trans (hb1.mono (by simp))).trans (hb2.mono (Nat.le_trans (by simp) hb1.size));clear k1 k2
   go_loopw [17] (fun i wr=>∃ k:Nat,k≤l.length∧i = .int .i64 k∧Eb l p q k∧Below w.heap.size w wr∧wr.cell? ⟨w.heap.size,0,none⟩=some (.int .i64 p)∧wr.cell? ⟨w.heap.size,1,none⟩=some (.int .i64 q)) (fun i _=>l.length-(intOf i).toNat)
   case atStart=>exact ⟨0,Nat.zero_le _,rfl,EH _ _ _,hB0,l1.out.1,l1.out.2⟩
   case round =>
    obtain ⟨k,hk,rfl,hno,hB,kp,kq⟩:=hrel;obtain ⟨wo,rfl⟩:∃ wo:World,wo=wr:=⟨_,rfl⟩;have HN:=hid hno;clear hno
    by_cases hlt:k<l.length
    ·have hj : (k + 1) % l.length < l.length := Nat.mod_lt _ (by omega);have hji:((k:Int)+1) % (l.length:Int)<(l.length:Int):=Int.emod_lt_of_pos _ (by omega);have hj0:0≤((k:Int)+1) % (l.length:Int):=Int.emod_nonneg _ (by omega);have hj1:(((k:Int)+1) % (l.length:Int)).toNat=(k+1) % l.length:=by rw [show ((k:Int)+1) % (l.length:Int)=(((k+1) % l.length:Nat):Int) by simp];omega
     have e1:IntKind.i64.wrap ((k:Int)+1)=(k:Int)+1:=IntWalk.i64_in _ (by omega);have e2:0≤(k:Int)+1:=by omega
     have e3:Int.tmod ((k:Int)+1) (l.length:Int)=((k:Int)+1) % (l.length:Int):=Int.tmod_eq_emod_of_nonneg (by omega);have e4:((l.length:Int) == 0)=false:=by simp;intro h;subst h;simp at hlt
     have e5:¬ l=[]:=by intro h;subst h;simp at hlt
     have e6:l.length≠0:=by omega
     have e7:¬ ((l.length:Int)=0):=by omega
     have hp0:=lt_of_cell kp;have hCo:=HC.out.below hB;have hx:=hCo.x k hlt;have hy:=hCo.y k hlt;have hbo:=hCo.lt;have hCa:=hCo.below ((Below.refl _ _).alloc (Nat.le_refl _) (.cells #[.int .i64 (px l k),.int .i64 (py l k)] 24));have s1:(wo.alloc (.cells #[.int .i64 (px l k),.int .i64 (py l k)] 24)).drew.cell? ⟨wo.heap.size,0,none⟩=some (.int .i64 (px l k))∧(wo.alloc (.cells #[.int .i64 (px l k),.int .i64 (py l k)] 24)).drew.cell? ⟨wo.heap.size,1,none⟩=some (.int .i64 (py l k))∧(wo.alloc (.cells #[.int .i64 (px l k),.int .i64 (py l k)] 24)).drew.cell? ⟨b,off+((k+1) % l.length)*2,none⟩=some (.int .i64 (px l ((k+1) % l.length)))∧(wo.alloc (.cells #[.int .i64 (px l k),.int .i64 (py l k)] 24)).drew.cell? ⟨b,off+((k+1) % l.length)*2+1,none⟩=some (.int .i64 (py l ((k+1) % l.length)))∧(wo.alloc (.cells #[.int .i64 (px l k),.int .i64 (py l k)] 24)).drew.cell? ⟨w.heap.size,0,none⟩=some (.int .i64 p)∧(wo.alloc (.cells #[.int .i64 (px l k),.int .i64 (py l k)] 24)).drew.cell? ⟨w.heap.size,1,none⟩=some (.int .i64 q)∧Below w.heap.size w (wo.alloc (.cells #[.int .i64 (px l k),.int .i64 (py l k)] 24)).drew:=⟨by go_simp,by go_simp,hCa.x ((k+1) % l.length) hj,hCa.y ((k+1) % l.length) hj,by go_simp,by go_simp,((hB.alloc hB.size _)).drew⟩;have S1:=hid s1;clear s1;clear hCo hCa;go_wp2
     go_region_held3 (fun w' => w'.cell? ⟨wo.heap.size, 0, none⟩ = some (.int .i64 (px l k)) ∧ w'.cell? ⟨wo.heap.size, 1, none⟩ = some (.int .i64 (py l k)) ∧ w'.cell? ⟨b, off + ((k + 1) % l.length) * 2, none⟩ = some (.int .i64 (px l ((k + 1) % l.length))) ∧ w'.cell? ⟨b, off + ((k + 1) % l.length) * 2 + 1, none⟩ = some (.int .i64 (py l ((k + 1) % l.length))) ∧ w'.cell? ⟨w.heap.size, 0, none⟩ = some (.int .i64 p) ∧ w'.cell? ⟨w.heap.size, 1, none⟩ = some (.int .i64 q) ∧ Below w.heap.size w w')
      (first | with_reducible exact S1.out | (go_split_ands;with_reducible exact ⟨keepCell hb3 (by assumption),keepCell hb3 (by assumption),keepCell hb3 (by assumption),keepCell hb3 (by assumption),keepCell hb3 (by assumption),keepCell hb3 (by assumption),aj hb3 (by assumption)⟩))
      (first | (go_at_call 156;refine (xQ _ _ _ _ _ _ (aQ HW.out hlt) (aQ HW.out hj) HP.out _).mono ?_;rintro e w3 ⟨rfl,hb3⟩))
     go_wp2
     all_goals go_split_ands
     ·go_returns
      exact bR (EX hlt (by show iZ _ _ _ _ _ _<0;assumption)).symm (by assumption)
     ·go_roundw
      case rel=>exact ⟨k+1,hlt,by go_num,EO HN.out (by show 0≤iZ _ _ _ _ _ _;assumption),by assumption,by assumption,by assumption⟩
      case measure=>simp [intOf];omega
    ·have hge : l.length ≤ k := by omega
     clear kp kq;go_wp2
     go_returns
     exact bR (zI HE.out HP.out (by have:=HN.out;rwa [show k=l.length by omega] at this)).symm hB
 ·have HS1 := hid hS1;have HE:=hid hE;have hne:(bH l != 0)=true:=by simp [hE]
  clear hS hS1 hE
  go_enter Tryz.func214,Tryz.ntmps214
  go_wp2_with (go_at_call 146;refine (fO _ _ _ l _ HS1.out).mono ?_;rintro e w1 ⟨rfl,hb1⟩)
  go_returns
  exact bR (by have:=HE.out;simp [hasB,this]) (((Below.refl w.heap.size w).alloc (Nat.le_refl _) _).trans (hb1.mono (by simp)))
theorem Om (a b:Int) (h1 : -170141183460469231731687303715884105728≤a) (h2:a<170141183460469231731687303715884105728) (h3 : -170141183460469231731687303715884105728≤b) (h4:b<170141183460469231731687303715884105728) (w:World) :
  Calls Tryz.prog 218 #[iV a,iV b] w (dG (.int .i64 (Ji a b)) w):=FY a b h1 h2 h3 h4 w
theorem LV {a b:Int}:0<Ji a b↔b<a:=by unfold Ji;split <;> (try split) <;> omega
theorem Eu {a b:Int}:Ji a b≤0↔a≤b:=by unfold Ji;split <;> (try split) <;> omega
def i64 (a:Int):Prop := -9223372036854775808≤a∧a≤9223372036854775807
def kN (l:List V) (u v:Int) (j:Nat):Int:=px l j*u+py l j*v

def jg (l : List V) (u v : Int) : Nat → Nat
 | 0=>0
 | k+1=>if kN l u v (jg l u v k)<kN l u v k then k else jg l u v k
theorem LP (l:List V) (u v:Int) (k:Nat) (h:k≤l.length) (h0:0<l.length):jg l u v k<l.length:=by
 induction k with
 | zero=>exact h0
 | succ k ih =>
  have:=ih (by omega);simp only [jg]
  split <;> omega
def Da (l:List V) (u v:Int):Int:=if bH l=0 then (jg l u v l.length:Int) else -1
theorem GV {l:List V} (hw:aP 65536000 l=true) {u v:Int} (hu:i64 u) (hv:i64 v) {j:Nat} (hj:j<l.length) :
  -170141183460469231731687303715884105728≤kN l u v j∧kN l u v j<170141183460469231731687303715884105728:=by
 obtain ⟨_,_,_,_⟩:=aD.1 (aQ hw hj);have m1:=dh (x:=px l j) (y:=u) (M:=65536000) (N:=9223372036854775808) (by omega) (by omega) (by unfold i64 at *;omega) (by unfold i64 at *;omega);have m2:=dh (x:=py l j) (y:=v) (M:=65536000) (N:=9223372036854775808) (by omega) (by omega) (by unfold i64 at *;omega) (by unfold i64 at *;omega);unfold kN;omega
theorem xK {l:List V} (hw:aP 65536000 l=true) {j:Nat} (hj:j<l.length):i64 (px l j)∧i64 (py l j):=by
 obtain ⟨_,_,_,_⟩:=aD.1 (aQ hw hj);unfold i64;omega
theorem KX {l:List V} (hw:aP 65536000 l=true) {u v:Int} (hu:i64 u) (hv:i64 v) {j:Nat} (hj:j<l.length) (w:World) :
  Calls Tryz.prog 223 #[aR (px l j) (py l j),aR u v] w (dG (iV (kN l u v j)) w):=ER _ _ _ _ (xK hw hj).1 (xK hw hj).2 hu hv w
theorem zu (A:Option Addr) (n c:Nat) (l:List V) (u v:Int) (hu:i64 u) (hv:i64 v) (w:World) (hS:Sl w A n c l) :
  Calls Tryz.prog 170 #[.slice A n c,aR u v] w (dG (.int .i64 (Da l u v)) w):=by
 have hS1:Sl (w.alloc (.cells #[.int .i64 u,.int .i64 v] 24)) A n c l:=hS.below ((Below.refl _ _).alloc (Nat.le_refl _) _);have HU:=hid hu;have HV:=hid hv;clear hu hv
 by_cases hE:bH l=0
 ·obtain ⟨h8, h3, hw, _⟩ := bI hE;obtain ⟨b,off,rfl,hC⟩:=hS.at_ (by intro h;subst h;simp at h3);have hn:=hS.len;subst hn;have hb2:=hC.lt;have hcap:=hS.cap;have HS1:=hid hS1;have HE:=hid hE;have HC:=hid hC;have HW:=hid hw;clear hS hS1 hE hC hw
  go_enter Tryz.func170,Tryz.ntmps170
  go_wp2_with (go_at_call 146;refine (fO _ _ _ l _ HS1.out).mono ?_;rintro e w1 ⟨rfl,hb1⟩;rw [HE.out];have l1:=hid (And.intro (show w1.cell? ⟨w.heap.size,0,none⟩=some (.int .i64 u) from keepCell hb1 (by go_simp)) (show w1.cell? ⟨w.heap.size,1,none⟩=some (.int .i64 v) from keepCell hb1 (by go_simp))))
  have hB0:Below w.heap.size w w1:=((Below.refl w.heap.size w).alloc (Nat.le_refl _) _).trans (hb1.mono (by simp))
  go_loopw [5,13] (fun s i wr=>∃ k:Nat,k≤l.length∧i = .int .i64 k∧s = .int .i64 (jg l u v k)∧Below w.heap.size w wr∧wr.cell? ⟨w.heap.size,0,none⟩=some (.int .i64 u)∧wr.cell? ⟨w.heap.size,1,none⟩=some (.int .i64 v)) (fun _ i _=>l.length-(intOf i).toNat)
  case atStart=>exact ⟨0,Nat.zero_le _,rfl,rfl,hB0,l1.out.1,l1.out.2⟩
  case round =>
   obtain ⟨k,hk,rfl,rfl,hB,kp,kq⟩:=hrel;obtain ⟨wo,rfl⟩:∃ wo:World,wo=wr:=⟨_,rfl⟩;have hs:=LP l u v k hk (by omega);have hst:=hid (show jg l u v (k+1)=if kN l u v (jg l u v k)<kN l u v k then k else jg l u v k from rfl);obtain ⟨s,hsd⟩:∃ s,s=jg l u v k:=⟨_,rfl⟩;rw [← hsd] at hs;have HST:Hid (jg l u v (k+1)=if kN l u v s<kN l u v k then k else s):=by rw [hsd];exact hst.out
   rw [← hsd];have HSD:=hid hsd;clear hst hsd
   by_cases hlt:k<l.length
   ·have hsi : (s : Int) < (l.length : Int) := by omega
    have hp0:=lt_of_cell kp;have hCo:=HC.out.below hB;have hx:=hCo.x k hlt;have hy:=hCo.y k hlt;have hbo:=hCo.lt;have hCa:=hCo.below ((Below.refl _ _).alloc (Nat.le_refl _) (.cells #[.int .i64 (px l k),.int .i64 (py l k)] 24));have b1:=hid (GV HW.out HU.out HV.out hlt);have b2:=hid (GV HW.out HU.out HV.out hs);have s1:(wo.alloc (.cells #[.int .i64 (px l k),.int .i64 (py l k)] 24)).drew.cell? ⟨wo.heap.size,0,none⟩=some (.int .i64 (px l k))∧(wo.alloc (.cells #[.int .i64 (px l k),.int .i64 (py l k)] 24)).drew.cell? ⟨wo.heap.size,1,none⟩=some (.int .i64 (py l k))∧(wo.alloc (.cells #[.int .i64 (px l k),.int .i64 (py l k)] 24)).drew.cell? ⟨b,off+s*2,none⟩=some (.int .i64 (px l s))∧(wo.alloc (.cells #[.int .i64 (px l k),.int .i64 (py l k)] 24)).drew.cell? ⟨b,off+s*2+1,none⟩=some (.int .i64 (py l s))∧(wo.alloc (.cells #[.int .i64 (px l k),.int .i64 (py l k)] 24)).drew.cell? ⟨w.heap.size,0,none⟩=some (.int .i64 u)∧(wo.alloc (.cells #[.int .i64 (px l k),.int .i64 (py l k)] 24)).drew.cell? ⟨w.heap.size,1,none⟩=some (.int .i64 v)∧Below w.heap.size w (wo.alloc (.cells #[.int .i64 (px l k),.int .i64 (py l k)] 24)).drew:=⟨by go_simp,by go_simp,hCa.x s hs,hCa.y s hs,by go_simp,by go_simp,((hB.alloc hB.size _)).drew⟩;have S1:=hid s1;clear s1;clear hCo hCa;go_wp2
    go_region_held3 (fun w' => w'.cell? ⟨wo.heap.size, 0, none⟩ = some (.int .i64 (px l k)) ∧ w'.cell? ⟨wo.heap.size, 1, none⟩ = some (.int .i64 (py l k)) ∧ w'.cell? ⟨b, off + s * 2, none⟩ = some (.int .i64 (px l s)) ∧ w'.cell? ⟨b, off + s * 2 + 1, none⟩ = some (.int .i64 (py l s)) ∧ w'.cell? ⟨w.heap.size, 0, none⟩ = some (.int .i64 u) ∧ w'.cell? ⟨w.heap.size, 1, none⟩ = some (.int .i64 v) ∧ Below w.heap.size w w')
     (first | with_reducible exact S1.out | (go_split_ands;with_reducible exact ⟨keepCell hb3 (by assumption),keepCell hb3 (by assumption),keepCell hb3 (by assumption),keepCell hb3 (by assumption),keepCell hb3 (by assumption),keepCell hb3 (by assumption),aj hb3 (by assumption)⟩))
     (first | (go_at_call 223;(first | (with_reducible refine (KX HW.out HU.out HV.out hlt _).mono ?_) | (with_reducible refine (KX HW.out HU.out HV.out hs _).mono ?_));rintro e w3 ⟨rfl,hb3⟩) | (go_at_call 218;refine (Om _ _ b1.out.1 b1.out.2 b2.out.1 b2.out.2 _).mono ?_;rintro e w3 ⟨rfl,hb3⟩))
    go_wp2
    all_goals go_split_ands
    ·go_roundw
     case rel=>exact ⟨k+1,hlt,by go_num,by rw [HST.out,if_pos (LV.1 (by assumption))],by assumption,by assumption,by assumption⟩
     case measure=>simp [intOf];omega
    ·go_roundw
     case rel=>exact ⟨k+1,hlt,by go_num,by rw [HST.out,if_neg (by have:=Eu.1 (show Ji _ _≤0 by assumption);omega)],by assumption,by assumption,by assumption⟩
     case measure=>simp [intOf];omega
   ·have hge : l.length ≤ k := by omega
    clear kp kq;go_wp2
    go_returns
    exact aB (by rw [Da,if_pos HE.out,HSD.out,show l.length=k by omega]) hB
 ·have HS1 := hid hS1;have HE:=hid hE;have hne:(bH l != 0)=true:=by simp [hE]
  clear hS hS1 hE
  go_enter Tryz.func170,Tryz.ntmps170
  go_wp2_with (go_at_call 146;refine (fO _ _ _ l _ HS1.out).mono ?_;rintro e w1 ⟨rfl,hb1⟩)
  go_returns
  exact aB (by rw [Da,if_neg HE.out]) (((Below.refl w.heap.size w).alloc (Nat.le_refl _) _).trans (hb1.mono (by simp)))








theorem Sl.of4 {w : World} {g c : Nat} (a b p q r s u v : Int) (h0 : w.cell? ⟨g, 0, none⟩ = some (.int .i64 a)) (h1 : w.cell? ⟨g, 1, none⟩ = some (.int .i64 b)) (h2 : w.cell? ⟨g, 2, none⟩ = some (.int .i64 p)) (h3 : w.cell? ⟨g, 3, none⟩ = some (.int .i64 q))
  (h4:w.cell? ⟨g,4,none⟩=some (.int .i64 r)) (h5:w.cell? ⟨g,5,none⟩=some (.int .i64 s)) (h6:w.cell? ⟨g,6,none⟩=some (.int .i64 u)) (h7:w.cell? ⟨g,7,none⟩=some (.int .i64 v)) (hc:4≤c) (hc2:c≤9223372036854775807):Sl w (some ⟨g,0,none⟩) 4 c [(a,b),(p,q),(r,s),(u,v)]:=by
 refine ⟨rfl,hc,hc2,fun _=>⟨g,0,rfl,lt_of_cell h0,fun j hj=>?_,fun j hj=>?_⟩⟩
 ·match j,hj with
  | 0,_=>exact h0
  | 1,_=>exact h2
  | 2,_=>exact h4
  | 3,_=>exact h6
 ·match j,hj with
  | 0,_=>exact h1
  | 1,_=>exact h3
  | 2,_=>exact h5
  | 3,_=>exact h7
def gV (l:List V):Int:=if bH l≠0 then bH l else if aP 2097152 l=false then 1 else if tY l=false∨hasB l 0 0=false then 3 else 0
theorem J7 (m:Int) (l:List V):l.any (fun p => !aI m p.1 p.2) = !aP m l:=qx m l
theorem Dj (A:Option Addr) (n c:Nat) (l:List V) (w:World) (hS:Sl w A n c l):Calls Tryz.prog 150 #[.slice A n c] w (dG (.int .i64 (gV l)) w):=by
 have HS:=hid hS;clear hS
 by_cases hE:bH l=0
 ·obtain ⟨h8, h3, hw, _⟩ := bI hE;have HW:=hid hw;have HE:=hid hE;have HSE:Hid (gV l=if aP 2097152 l=false then 1 else if tY l=false∨hasB l 0 0=false then 3 else 0):=by show _=_;unfold gV;rw [if_neg (by simp [hE])]
  clear hw hE
  go_enter Tryz.func150,Tryz.ntmps150
  go_wp2_with fail
  refine (fO _ _ _ l _ HS.out).mono ?_;rintro e w1 ⟨rfl,hb1⟩;rw [HE.out];have HS1:=hid (HS.out.below hb1)
  go_wp2_with fail
  refine (ug _ (fun p => !aI 2097152 p.1 p.2) Jb AO _ _ _ l _ HS1.out).mono ?_;rintro e w2 ⟨rfl,hb2⟩;rw [J7];have HS2:=hid (HS1.out.below hb2);have hB2:=aj hb2 hb1;clear hb1 hb2 HS1 HS
  cases hin:aP 2097152 l with
  | false =>
   have HR:Hid (gV l=1):=by show _=_;rw [HSE.out,if_pos hin]
   clear hin HSE;go_wp2
   go_returns
   exact aB HR.out.symm hB2
  | true =>
   have HSF:Hid (gV l=if tY l=false∨hasB l 0 0=false then 3 else 0):=by show _=_;rw [HSE.out,if_neg (by simp [hin])]
   clear hin HSE
   go_wp2_with fail
   refine (IB _ _ _ l _ HS2.out HW.out h3 h8).mono ?_;rintro e w3 ⟨rfl,hb3⟩;have HS3:=hid (HS2.out.below hb3);have hB3:=aj hb3 hB2;clear hb3 hB2 HS2
   cases hf:tY l with
   | false =>
    have HR:Hid (gV l=3):=by show _=_;rw [HSF.out,if_pos (.inl hf)]
    clear hf HSF;go_wp2
    go_returns
    exact aB HR.out.symm hB3
   | true =>
    have HF:=hid hf;clear hf
    go_wp2_with fail
    refine (Jp _ _ _ l 0 0 _ HS3.out).mono ?_;rintro e w4 ⟨rfl,hb4⟩;have hB4:=aj hb4 hB3;clear hb4 hB3 HS3
    cases hh:hasB l 0 0 with
    | false =>
     have HR:Hid (gV l=3):=by show _=_;rw [HSF.out,if_pos (.inr hh)]
     clear hh HSF;go_wp2
     go_returns
     exact aB HR.out.symm hB4
    | true =>
     have HR:Hid (gV l=0):=by show _=_;rw [HSF.out,if_neg (by rw [HF.out,hh];simp)]
     clear hh HSF HF;go_wp2
     go_returns
     exact aB HR.out.symm hB4
 ·have HR : Hid (gV l = bH l) := by show _ = _; unfold gV; rw [if_pos hE]
  have hne:(bH l != 0)=true:=by simp [hE]
  clear hE
  go_enter Tryz.func150,Tryz.ntmps150
  go_wp2_with fail
  refine (fO _ _ _ l _ HS.out).mono ?_;rintro e w1 ⟨rfl,hb1⟩;go_wp2
  go_returns
  exact aB HR.out.symm hb1

structure Bd where
 px:Int
 py:Int
 vx:Int
 vy:Int
 ang:Int
 spin:Int
 mass:Int
 iner:Int
 bounce:Int
 rub:Int
 asleep:Bool
 calm:Int
abbrev dK (b:Bd) (A:Option Addr) (n c:Nat):Value:=.agg #[.int .i64 b.px,.int .i64 b.py,.int .i64 b.vx,.int .i64 b.vy,.int .i64 b.ang,.int .i64 b.spin,.int .i64 b.mass,.int .i64 b.iner,.int .i64 b.bounce,.int .i64 b.rub,.slice A n c,.bool b.asleep,.int .i64 b.calm]

structure aL (w : World) (g : Nat) (b : Bd) (A : Option Addr) (n c : Nat) : Prop where
 c0:w.cell? ⟨g,0,none⟩=some (.int .i64 b.px)
 c1:w.cell? ⟨g,1,none⟩=some (.int .i64 b.py)
 c2:w.cell? ⟨g,2,none⟩=some (.int .i64 b.vx)
 c3:w.cell? ⟨g,3,none⟩=some (.int .i64 b.vy)
 c4:w.cell? ⟨g,4,none⟩=some (.int .i64 b.ang)
 c5:w.cell? ⟨g,5,none⟩=some (.int .i64 b.spin)
 c6:w.cell? ⟨g,6,none⟩=some (.int .i64 b.mass)
 c7:w.cell? ⟨g,7,none⟩=some (.int .i64 b.iner)
 c8:w.cell? ⟨g,8,none⟩=some (.int .i64 b.bounce)
 c9:w.cell? ⟨g,9,none⟩=some (.int .i64 b.rub)
 c10:w.cell? ⟨g,10,none⟩=some (.slice A n c)
 c11:w.cell? ⟨g,11,none⟩=some (.bool b.asleep)
 c12:w.cell? ⟨g,12,none⟩=some (.int .i64 b.calm)
 free:∀ j,w.frozen? ⟨g,j,none⟩=false
theorem aL.lt {g:Nat} {b:Bd} {A:Option Addr} {n c:Nat} (h:aL w g b A n c):g<w.heap.size:=lt_of_cell h.c0
theorem aM {g:Nat} {b:Bd} {A:Option Addr} {n c:Nat} (hb:Below w.heap.size w w') (h:aL w g b A n c):aL w' g b A n c :=
 ⟨keepCell hb h.c0,keepCell hb h.c1,keepCell hb h.c2,keepCell hb h.c3,keepCell hb h.c4,keepCell hb h.c5,keepCell hb h.c6,keepCell hb h.c7,keepCell hb h.c8,keepCell hb h.c9,keepCell hb h.c10,keepCell hb h.c11,keepCell hb h.c12,fun j=>((dF hb).2 _ _ h.lt).trans (h.free j)⟩
theorem aL.here (w:World) (b:Bd) (A:Option Addr) (n c:Nat) (t:TypeId):aL (w.alloc (.cells #[.int .i64 b.px,.int .i64 b.py,.int .i64 b.vx,.int .i64 b.vy,.int .i64 b.ang,.int .i64 b.spin,.int .i64 b.mass,.int .i64 b.iner,.int .i64 b.bounce,.int .i64 b.rub,.slice A n c,.bool b.asleep,.int .i64 b.calm] t)) w.heap.size b A n c :=
 ⟨by go_simp,by go_simp,by go_simp,by go_simp,by go_simp,by go_simp,by go_simp,by go_simp,by go_simp,by go_simp,by go_simp,by go_simp,by go_simp,fun j=>by go_simp⟩
theorem aL.drew {g:Nat} {b:Bd} {A:Option Addr} {n c:Nat} (h:aL w g b A n c):aL w.drew g b A n c :=
 ⟨h.c0,h.c1,h.c2,h.c3,h.c4,h.c5,h.c6,h.c7,h.c8,h.c9,h.c10,h.c11,h.c12,h.free⟩
theorem aL.alloc {g:Nat} {b:Bd} {A:Option Addr} {n c:Nat} (h:aL w g b A n c) (o:Obj):aL (w.alloc o) g b A n c:=aM Ba h
def fG (b:Bd):Bool:=decide (b.vx=0∧b.vy=0∧b.spin=0)
def kT (b:Bd):Int :=
 if aI 58982400 b.px b.py && aI 268435456 b.vx b.vy && iA b.spin (-16777216) 16777216 && iA b.ang 0 65535 then
  if iA b.mass 0 1099511627776 && iA b.iner 0 1099511627776 && iA b.bounce 0 65536 && iA b.rub 0 65536 && iA b.calm 0 1000 then
   if ((b.mass == 0) != (b.iner == 0)) || (b.mass == 0) && (!fG b || b.asleep || (b.calm != 0)) || b.asleep && !fG b then 3 else 0
  else 1
 else 1

def aT (b:Bd) (l:List V):Int:=if gV l≠0 then gV l else kT b
theorem iJ (b:Bd) (A:Option Addr) (n c:Nat) (l:List V) (w:World) (hS:Sl w A n c l):Calls Tryz.prog 88 #[dK b A n c] w (dG (.int .i64 (aT b l)) w):=by
 obtain ⟨W,hW⟩:∃ W,W=w.alloc (.cells #[.int .i64 b.px,.int .i64 b.py,.int .i64 b.vx,.int .i64 b.vy,.int .i64 b.ang,.int .i64 b.spin,.int .i64 b.mass,.int .i64 b.iner,.int .i64 b.bounce,.int .i64 b.rub,.slice A n c,.bool b.asleep,.int .i64 b.calm] 27):=⟨_,rfl⟩;have HK:=hid (show aL W w.heap.size b A n c by rw [hW];exact aL.here w b A n c _);have hB:Below w.heap.size w W:=by rw [hW];go_grown
 have HS0:=hid (hS.below hB);clear hS
 go_enter Tryz.func88,Tryz.ntmps88
 go_wp2_with fail
 rw [← hW];clear hW;refine (Dj _ _ _ l _ HS0.out).mono ?_;rintro e w1 ⟨rfl,hb1⟩;have HK1:=hid (aM hb1 HK.out);have hB1:=aj hb1 hB;clear hb1 HK hB HS0
 by_cases hE:gV l=0
 ·have HBE : Hid (aT b l = kT b) := by show _ = _; unfold aT; rw [if_neg (by simp [hE])]
  rw [hE];clear hE;obtain ⟨k0,k1,k2,k3,k4,k5,k6,k7,k8,k9,k10,k11,k12,_⟩:=HK1.out
  go_wp2_with fail
  refine (mO _ _ _ _ (by omega) (by omega)).mono ?_;rintro e w2 ⟨rfl,hb2⟩;have HK2:=hid (aM hb2 HK1.out);have hB2:=aj hb2 hB1;clear hb2 HK1 hB1 k0 k1 k2 k3 k4 k5 k6 k7 k8 k9 k10 k11 k12
  cases h0:aI 58982400 b.px b.py with
  | false =>
   have HR:Hid (aT b l=1):=by show _=_;rw [HBE.out];simp [kT,h0]
   clear h0 HBE;go_wp2
   go_returns
   exact aB HR.out.symm hB2
  | true =>
   have H0:=hid h0;clear h0;obtain ⟨k0,k1,k2,k3,k4,k5,k6,k7,k8,k9,k10,k11,k12,_⟩:=HK2.out
   go_wp2_with fail
   refine (mO _ _ _ _ (by omega) (by omega)).mono ?_;rintro e w3 ⟨rfl,hb3⟩;have HK3:=hid (aM hb3 HK2.out);have hB3:=aj hb3 hB2;clear hb3 HK2 hB2 k0 k1 k2 k3 k4 k5 k6 k7 k8 k9 k10 k11 k12
   cases h1:aI 268435456 b.vx b.vy with
   | false =>
    have HR:Hid (aT b l=1):=by show _=_;rw [HBE.out];simp [kT,h1,H0.out]
    clear h1 HBE;go_wp2
    go_returns
    exact aB HR.out.symm hB3
   | true =>
    have H1:=hid h1;clear h1;obtain ⟨k0,k1,k2,k3,k4,k5,k6,k7,k8,k9,k10,k11,k12,_⟩:=HK3.out
    go_wp2_with fail
    refine (lF _ _ _ _).mono ?_;rintro e w4 ⟨rfl,hb4⟩;have HK4:=hid (aM hb4 HK3.out);have hB4:=aj hb4 hB3;clear hb4 HK3 hB3 k0 k1 k2 k3 k4 k5 k6 k7 k8 k9 k10 k11 k12
    cases h2:iA b.spin (-16777216) 16777216 with
    | false =>
     have HR:Hid (aT b l=1):=by show _=_;rw [HBE.out];simp [kT,h2,H0.out,H1.out]
     clear h2 HBE;go_wp2
     go_returns
     exact aB HR.out.symm hB4
    | true =>
     have H2:=hid h2;clear h2;obtain ⟨k0,k1,k2,k3,k4,k5,k6,k7,k8,k9,k10,k11,k12,_⟩:=HK4.out
     go_wp2_with fail
     refine (lF _ _ _ _).mono ?_;rintro e w5 ⟨rfl,hb5⟩;have HK5:=hid (aM hb5 HK4.out);have hB5:=aj hb5 hB4;clear hb5 HK4 hB4 k0 k1 k2 k3 k4 k5 k6 k7 k8 k9 k10 k11 k12
     cases h3:iA b.ang 0 65535 with
     | false =>
      have HR:Hid (aT b l=1):=by show _=_;rw [HBE.out];simp [kT,h3,H0.out,H1.out,H2.out]
      clear h3 HBE;go_wp2
      go_returns
      exact aB HR.out.symm hB5
     | true =>
      have H3:=hid h3;clear h3;obtain ⟨k0,k1,k2,k3,k4,k5,k6,k7,k8,k9,k10,k11,k12,_⟩:=HK5.out
      go_wp2_with fail
      refine (lF _ _ _ _).mono ?_;rintro e w6 ⟨rfl,hb6⟩;have HK6:=hid (aM hb6 HK5.out);have hB6:=aj hb6 hB5;clear hb6 HK5 hB5 k0 k1 k2 k3 k4 k5 k6 k7 k8 k9 k10 k11 k12
      cases h4:iA b.mass 0 1099511627776 with
      | false =>
       have HR:Hid (aT b l=1):=by show _=_;rw [HBE.out];simp [kT,h4,H0.out,H1.out,H2.out,H3.out]
       clear h4 HBE;go_wp2
       go_returns
       exact aB HR.out.symm hB6
      | true =>
       have H4:=hid h4;clear h4;obtain ⟨k0,k1,k2,k3,k4,k5,k6,k7,k8,k9,k10,k11,k12,_⟩:=HK6.out
       go_wp2_with fail
       refine (lF _ _ _ _).mono ?_;rintro e w7 ⟨rfl,hb7⟩;have HK7:=hid (aM hb7 HK6.out);have hB7:=aj hb7 hB6;clear hb7 HK6 hB6 k0 k1 k2 k3 k4 k5 k6 k7 k8 k9 k10 k11 k12
       cases h5:iA b.iner 0 1099511627776 with
       | false =>
        have HR:Hid (aT b l=1):=by show _=_;rw [HBE.out];simp [kT,h5,H0.out,H1.out,H2.out,H3.out,H4.out]
        clear h5 HBE;go_wp2
        go_returns
        exact aB HR.out.symm hB7
       | true =>
        have H5:=hid h5;clear h5;obtain ⟨k0,k1,k2,k3,k4,k5,k6,k7,k8,k9,k10,k11,k12,_⟩:=HK7.out
        go_wp2_with fail
        refine (lF _ _ _ _).mono ?_;rintro e w8 ⟨rfl,hb8⟩;have HK8:=hid (aM hb8 HK7.out);have hB8:=aj hb8 hB7;clear hb8 HK7 hB7 k0 k1 k2 k3 k4 k5 k6 k7 k8 k9 k10 k11 k12
        cases h6:iA b.bounce 0 65536 with
        | false =>
         have HR:Hid (aT b l=1):=by show _=_;rw [HBE.out];simp [kT,h6,H0.out,H1.out,H2.out,H3.out,H4.out,H5.out]
         clear h6 HBE;go_wp2
         go_returns
         exact aB HR.out.symm hB8
        | true =>
         have H6:=hid h6;clear h6;obtain ⟨k0,k1,k2,k3,k4,k5,k6,k7,k8,k9,k10,k11,k12,_⟩:=HK8.out
         go_wp2_with fail
         refine (lF _ _ _ _).mono ?_;rintro e w9 ⟨rfl,hb9⟩;have HK9:=hid (aM hb9 HK8.out);have hB9:=aj hb9 hB8;clear hb9 HK8 hB8 k0 k1 k2 k3 k4 k5 k6 k7 k8 k9 k10 k11 k12
         cases h7:iA b.rub 0 65536 with
         | false =>
          have HR:Hid (aT b l=1):=by show _=_;rw [HBE.out];simp [kT,h7,H0.out,H1.out,H2.out,H3.out,H4.out,H5.out,H6.out]
          clear h7 HBE;go_wp2
          go_returns
          exact aB HR.out.symm hB9
         | true =>
          have H7:=hid h7;clear h7;obtain ⟨k0,k1,k2,k3,k4,k5,k6,k7,k8,k9,k10,k11,k12,_⟩:=HK9.out
          go_wp2_with fail
          refine (lF _ _ _ _).mono ?_;rintro e w10 ⟨rfl,hb10⟩;have HK10:=hid (aM hb10 HK9.out);have hB10:=aj hb10 hB9;clear hb10 HK9 hB9 k0 k1 k2 k3 k4 k5 k6 k7 k8 k9 k10 k11 k12
          cases h8:iA b.calm 0 1000 with
          | false =>
           have HR:Hid (aT b l=1):=by show _=_;rw [HBE.out];simp [kT,h8,H0.out,H1.out,H2.out,H3.out,H4.out,H5.out,H6.out,H7.out]
           clear h8 HBE;go_wp2
           go_returns
           exact aB HR.out.symm hB10
          | true =>
           have H8:=hid h8;clear h8
           have HNE:Hid (aT b l=if ((b.mass == 0) != (b.iner == 0)) || (b.mass == 0) && (!fG b || b.asleep || (b.calm != 0)) || b.asleep && !fG b then 3 else 0):=by
            show _=_;rw [HBE.out];simp only [kT,H0.out,H1.out,H2.out,H3.out,H4.out,H5.out,H6.out,H7.out,H8.out,Bool.and_self,if_true]
           clear HBE H0 H1 H2 H3 H4 H5 H6 H7 H8;obtain ⟨k0,k1,k2,k3,k4,k5,k6,k7,k8,k9,k10,k11,k12,_⟩:=HK10.out
           go_upto_region 9 with fail
           go_cut [5] from 69 to 77 (fun t wx=>t = .bool (fG b)∧wx=w10)
           case first =>
            by_cases v1:b.vx=0
            ·by_cases v2 : b.vy = 0
             ·by_cases v3 : b.spin = 0
              ·have hs : fG b = true := by simp [fG, v1, v2, v3]
               rw [v1] at k2;rw [v2] at k3;rw [v3] at k5;have HSB:=hid hs;clear v1 v2 v3 hs HNE;go_wp2
               go_meet
               exact ⟨by rw [HSB.out],rfl⟩
              ·have hs : fG b = false := by simp [fG, v3]
               have v4:(b.spin == 0)=false:=by simp [v3]
               rw [v1] at k2;rw [v2] at k3;have HSB:=hid hs;clear v1 v2 v3 hs HNE;go_wp2
               go_meet
               exact ⟨by rw [HSB.out],rfl⟩
             ·have hs : fG b = false := by simp [fG, v2]
              have v4:(b.vy == 0)=false:=by simp [v2]
              rw [v1] at k2;have HSB:=hid hs;clear v1 v2 hs HNE;go_wp2
              go_meet
              exact ⟨by rw [HSB.out],rfl⟩
            ·have hs : fG b = false := by simp [fG, v1]
             have v4:(b.vx == 0)=false:=by simp [v1]
             have HSB:=hid hs;clear v1 hs HNE;go_wp2
             go_meet
             exact ⟨by rw [HSB.out],rfl⟩
           case rest =>
            obtain ⟨rfl,hw⟩:=hcut;rw [hw];clear hw wc;generalize fG b=st at HNE ⊢
            cases hm:(b.mass == 0) with
            | true =>
             cases hi:(b.iner == 0) with
             | true =>
              cases st with
              | true =>
               cases ha:b.asleep with
               | true =>
                rw [ha] at k11 HNE;have HR:Hid (aT b l=3):=by show _=_;rw [HNE.out];simp [*]
                clear HNE;go_wp2
                go_returns
                exact aB HR.out.symm hB10
               | false =>
                rw [ha] at k11 HNE;have hc:(b.calm != 0)=true∨(b.calm != 0)=false:=by cases (b.calm != 0) <;> simp
                rcases hc with hc | hc
                ·have HR : Hid (aT b l = 3) := by show _ = _; rw [HNE.out]; simp [*]
                 clear HNE;go_wp2
                 go_returns
                 exact aB HR.out.symm hB10
                ·have HR : Hid (aT b l = 0) := by show _ = _; rw [HNE.out]; simp [*]
                 clear HNE;go_wp2
                 go_returns
                 exact aB HR.out.symm hB10
              | false =>
               have HR:Hid (aT b l=3):=by show _=_;rw [HNE.out];simp [*]
               clear HNE;go_wp2
               go_returns
               exact aB HR.out.symm hB10
             | false =>
              have HR:Hid (aT b l=3):=by show _=_;rw [HNE.out];simp [*]
              clear HNE;go_wp2
              go_returns
              exact aB HR.out.symm hB10
            | false =>
             cases hi:(b.iner == 0) with
             | true =>
              have HR:Hid (aT b l=3):=by show _=_;rw [HNE.out];simp [*]
              clear HNE;go_wp2
              go_returns
              exact aB HR.out.symm hB10
             | false =>
              cases ha:b.asleep with
              | true =>
               rw [ha] at k11 HNE
               cases st with
               | true =>
                have HR:Hid (aT b l=0):=by show _=_;rw [HNE.out];simp [*]
                clear HNE;go_wp2
                go_returns
                exact aB HR.out.symm hB10
               | false =>
                have HR:Hid (aT b l=3):=by show _=_;rw [HNE.out];simp [*]
                clear HNE;go_wp2
                go_returns
                exact aB HR.out.symm hB10
              | false =>
               rw [ha] at k11 HNE;have HR:Hid (aT b l=0):=by show _=_;rw [HNE.out];simp [*]
               clear HNE;go_wp2
               go_returns
               exact aB HR.out.symm hB10
 ·have HR : Hid (aT b l = gV l) := by show _ = _; unfold aT; rw [if_pos hE]
  have hne:(gV l != 0)=true:=by simp [hE]
  clear hE;go_wp2
  go_returns
  exact aB HR.out.symm hB1
end
end Go.Proofs.YtokgmcomgflloaaGreat
