/- Parts of a proof: contracts and laws. -/
import Derived.Test.YtokgmcomgflloaaGreatQX00
import Derived.Test.YtokgmcomgflloaaGreatQX01
import Derived.Test.YtokgmcomgflloaaGreatQX02
import Derived.Deep.RegionHeld3
set_option maxRecDepth 100000
set_option maxHeartbeats 16000000
namespace Go.Proofs.YtokgmcomgflloaaGreat
section
set_option linter.unusedVariables false
set_option linter.unusedSimpArgs false
open Go.RowKit


def oN (l:List V) (i:Nat) (p q:Int):Int:=bS (px l i) (py l i) (px l ((i+1) % l.length)) (py l ((i+1) % l.length)) p q
def rJ (l:List V) (p q:Int) (k:Nat):Prop:=∀ i,i<k→0≤oN l i p q
def hasB (l:List V) (p q:Int):Bool:=decide (bF l=0) && aB 65536000 p q && (List.range l.length).all fun i=>decide (0≤oN l i p q)
theorem zm (l:List V) (p q:Int):rJ l p q 0:=fun _ h=>absurd h (by omega)
theorem yZ {l:List V} {p q:Int} {k:Nat} (h:rJ l p q k) (hk:0≤oN l k p q):rJ l p q (k+1):=fun i hi=>by
 by_cases e:i=k
 ·subst e;exact hk
 ·exact h i (by omega)
theorem DF {l:List V} {p q:Int} (h1:bF l=0) (h2:aB 65536000 p q=true) (h3:rJ l p q l.length):hasB l p q=true:=by
 unfold hasB;rw [h2,decide_eq_true h1];simp only [Bool.and_self,Bool.true_and,List.all_eq_true,List.mem_range,decide_eq_true_iff];exact h3
theorem Ah {l:List V} {p q:Int} {k:Nat} (hk:k<l.length) (h:oN l k p q<0):hasB l p q=false:=by
 have:((List.range l.length).all fun i=>decide (0≤oN l i p q))=false:=by
  rw [List.all_eq_false];exact ⟨k,List.mem_range.2 hk,by simp;omega⟩
 unfold hasB;rw [this];simp
theorem Ef {l:List V} {p q:Int}:hasB l p q=true↔bF l=0∧aB 65536000 p q=true∧rJ l p q l.length:=by
 unfold hasB rJ;simp [and_assoc]
theorem BK (A:Option Addr) (n c:Nat) (l:List V) (p q:Int) (w:World) (hS:Sl w A n c l) :
  Calls Tryz.prog 214 #[.slice A n c,bV p q] w (dw (.bool (hasB l p q)) w):=by
 have hS1:Sl (w.alloc (.cells #[.int .i64 p,.int .i64 q] 24)) A n c l:=hS.below ((Below.refl _ _).alloc (Nat.le_refl _) _)
 by_cases hE:bF l=0
 ·cases hP:aB 65536000 p q with
  | false =>
   have HS1:=hid hS1;have HE:=hid hE;have HP:=hid hP;clear hS hS1 hE hP
   go_enter Tryz.func214,Tryz.ntmps214
   go_wp2_with (first | (go_at_call 146;refine (iM _ _ _ l _ HS1.out).mono ?_;rintro e w1 ⟨rfl,hb1⟩;rw [HE.out];have k1:w1.cell? ⟨w.heap.size,0,none⟩=some (.int .i64 p):=keepCell hb1 (by go_simp);have k2:w1.cell? ⟨w.heap.size,1,none⟩=some (.int .i64 q):=keepCell hb1 (by go_simp)) | (go_at_call 211;refine (jY _ _ _).mono ?_;rintro e w2 ⟨rfl,hb2⟩;rw [HP.out]))
   go_returns
   exact aY (by simp [hasB,HP.out]) ((((Below.refl w.heap.size w).alloc (Nat.le_refl _) _).trans (hb1.mono (by simp))).trans (hb2.mono (Nat.le_trans (by simp) hb1.size)))
  | true =>
   obtain ⟨h8,h3,hw,_⟩:=dX hE;obtain ⟨b,off,rfl,hC⟩:=hS.at_ (by intro h;subst h;simp at h3);have hn:=hS.len;subst hn;have hb2:=hC.lt;have hcap:=hS.cap;have HS1:=hid hS1;have HE:=hid hE;have HP:=hid hP;have HC:=hid hC;have HW:=hid hw;clear hS hS1 hE hP hC hw
   go_enter Tryz.func214,Tryz.ntmps214
   go_wp2_with (first | (go_at_call 146;refine (iM _ _ _ l _ HS1.out).mono ?_;rintro e w1 ⟨rfl,hb1⟩;rw [HE.out];have k1:w1.cell? ⟨w.heap.size,0,none⟩=some (.int .i64 p):=keepCell hb1 (by go_simp);have k2:w1.cell? ⟨w.heap.size,1,none⟩=some (.int .i64 q):=keepCell hb1 (by go_simp)) | (go_at_call 211;refine (jY _ _ _).mono ?_;rintro e w2 ⟨rfl,hb2⟩;rw [HP.out];have l1:=hid (And.intro (keepCell hb2 k1) (keepCell hb2 k2))))
   have hB0:Below w.heap.size w w2:=(((Below.refl w.heap.size w).alloc (Nat.le_refl _) _).trans (hb1.mono (by simp))).trans (hb2.mono (Nat.le_trans (by simp) hb1.size));clear k1 k2
   go_loopw [17] (fun i wr=>∃ k:Nat,k≤l.length∧i = .int .i64 k∧rJ l p q k∧Below w.heap.size w wr∧wr.cell? ⟨w.heap.size,0,none⟩=some (.int .i64 p)∧wr.cell? ⟨w.heap.size,1,none⟩=some (.int .i64 q)) (fun i _=>l.length-(intOf i).toNat)
   case atStart=>exact ⟨0,Nat.zero_le _,rfl,zm _ _ _,hB0,l1.out.1,l1.out.2⟩
   case round =>
    obtain ⟨k,hk,rfl,hno,hB,kp,kq⟩:=hrel;obtain ⟨wo,rfl⟩:∃ wo:World,wo=wr:=⟨_,rfl⟩;have HN:=hid hno;clear hno
    by_cases hlt:k<l.length
    ·have hj : (k + 1) % l.length < l.length := Nat.mod_lt _ (by omega);have hji:((k:Int)+1) % (l.length:Int)<(l.length:Int):=Int.emod_lt_of_pos _ (by omega);have hj0:0≤((k:Int)+1) % (l.length:Int):=Int.emod_nonneg _ (by omega);have hj1:(((k:Int)+1) % (l.length:Int)).toNat=(k+1) % l.length:=by rw [show ((k:Int)+1) % (l.length:Int)=(((k+1) % l.length:Nat):Int) by simp];omega
     have e1:IntKind.i64.wrap ((k:Int)+1)=(k:Int)+1:=IntWalk.i64_in _ (by omega);have e2:0≤(k:Int)+1:=by omega
     have e3:Int.tmod ((k:Int)+1) (l.length:Int)=((k:Int)+1) % (l.length:Int):=Int.tmod_eq_emod_of_nonneg (by omega);have e4:((l.length:Int) == 0)=false:=by simp;intro h;subst h;simp at hlt
     have e5:¬ l=[]:=by intro h;subst h;simp at hlt
     have e6:l.length≠0:=by omega
     have e7:¬ ((l.length:Int)=0):=by omega
     have hp0:=lt_of_cell kp;have hCo:=HC.out.below hB;have hx:=hCo.x k hlt;have hy:=hCo.y k hlt;have hbo:=hCo.lt;have hCa:=hCo.below ((Below.refl _ _).alloc (Nat.le_refl _) (.cells #[.int .i64 (px l k),.int .i64 (py l k)] 24));have s1:(wo.alloc (.cells #[.int .i64 (px l k),.int .i64 (py l k)] 24)).drew.cell? ⟨wo.heap.size,0,none⟩=some (.int .i64 (px l k))∧(wo.alloc (.cells #[.int .i64 (px l k),.int .i64 (py l k)] 24)).drew.cell? ⟨wo.heap.size,1,none⟩=some (.int .i64 (py l k))∧(wo.alloc (.cells #[.int .i64 (px l k),.int .i64 (py l k)] 24)).drew.cell? ⟨b,off+((k+1) % l.length)*2,none⟩=some (.int .i64 (px l ((k+1) % l.length)))∧(wo.alloc (.cells #[.int .i64 (px l k),.int .i64 (py l k)] 24)).drew.cell? ⟨b,off+((k+1) % l.length)*2+1,none⟩=some (.int .i64 (py l ((k+1) % l.length)))∧(wo.alloc (.cells #[.int .i64 (px l k),.int .i64 (py l k)] 24)).drew.cell? ⟨w.heap.size,0,none⟩=some (.int .i64 p)∧(wo.alloc (.cells #[.int .i64 (px l k),.int .i64 (py l k)] 24)).drew.cell? ⟨w.heap.size,1,none⟩=some (.int .i64 q)∧Below w.heap.size w (wo.alloc (.cells #[.int .i64 (px l k),.int .i64 (py l k)] 24)).drew:=⟨by go_simp,by go_simp,hCa.x ((k+1) % l.length) hj,hCa.y ((k+1) % l.length) hj,by go_simp,by go_simp,((hB.alloc hB.size _)).drew⟩;have S1:=hid s1;clear s1;clear hCo hCa;go_wp2
     go_region_held3 (fun w' => w'.cell? ⟨wo.heap.size, 0, none⟩ = some (.int .i64 (px l k)) ∧ w'.cell? ⟨wo.heap.size, 1, none⟩ = some (.int .i64 (py l k)) ∧ w'.cell? ⟨b, off + ((k + 1) % l.length) * 2, none⟩ = some (.int .i64 (px l ((k + 1) % l.length))) ∧ w'.cell? ⟨b, off + ((k + 1) % l.length) * 2 + 1, none⟩ = some (.int .i64 (py l ((k + 1) % l.length))) ∧ w'.cell? ⟨w.heap.size, 0, none⟩ = some (.int .i64 p) ∧ w'.cell? ⟨w.heap.size, 1, none⟩ = some (.int .i64 q) ∧ Below w.heap.size w w')
      (first | with_reducible exact S1.out | (go_split_ands;with_reducible exact ⟨keepCell hb3 (by assumption),keepCell hb3 (by assumption),keepCell hb3 (by assumption),keepCell hb3 (by assumption),keepCell hb3 (by assumption),keepCell hb3 (by assumption),ah hb3 (by assumption)⟩))
      (first | (go_at_call 156;refine (qD _ _ _ _ _ _ (bG HW.out hlt) (bG HW.out hj) HP.out _).mono ?_;rintro e w3 ⟨rfl,hb3⟩))
     go_wp2
     all_goals go_split_ands
     ·go_returns
      exact aY (Ah hlt (by show bS _ _ _ _ _ _<0;assumption)).symm (by assumption)
     ·go_roundw
      case rel=>exact ⟨k+1,hlt,by go_num,yZ HN.out (by show 0≤bS _ _ _ _ _ _;assumption),by assumption,by assumption,by assumption⟩
      case measure=>simp [intOf];omega
    ·have hge : l.length ≤ k := by omega
     clear kp kq;go_wp2
     go_returns
     exact aY (DF HE.out HP.out (by have:=HN.out;rwa [show k=l.length by omega] at this)).symm hB
 ·have HS1 := hid hS1;have HE:=hid hE;have hne:(bF l != 0)=true:=by simp [hE]
  clear hS hS1 hE
  go_enter Tryz.func214,Tryz.ntmps214
  go_wp2_with (go_at_call 146;refine (iM _ _ _ l _ HS1.out).mono ?_;rintro e w1 ⟨rfl,hb1⟩)
  go_returns
  exact aY (by have:=HE.out;simp [hasB,this]) (((Below.refl w.heap.size w).alloc (Nat.le_refl _) _).trans (hb1.mono (by simp)))
theorem Em {a b:Int}:0<dZ a b↔b<a:=by unfold dZ;split <;> (try split) <;> omega
theorem kW {a b:Int}:dZ a b<0↔a<b:=by unfold dZ;split <;> (try split) <;> omega
theorem gI {a b:Int}:0≤dZ a b↔b≤a:=by unfold dZ;split <;> (try split) <;> omega
theorem xH {a b:Int}:dZ a b≤0↔a≤b:=by unfold dZ;split <;> (try split) <;> omega
def i64 (a:Int):Prop := -9223372036854775808≤a∧a≤9223372036854775807


def yu (l:List V) (i:Nat):Prop:=∀ i',i'<i→∀ k,i'<k→k<l.length→∀ m,k<m→m<l.length→0<eD l i' k m
def Fj (l:List V) (i k:Nat):Prop:=∀ k',i<k'→k'<k→∀ m,k'<m→m<l.length→0<eD l i k' m
def FC (l:List V) (i k m:Nat):Prop:=∀ m',k<m'→m'<m→0<eD l i k m'

def iT (l:List V):Int :=
 if 8<l.length then 2 else if l.length<3 then 3 else if aT 65536000 l=false then 1
 else if (List.range l.length).all (fun i=>(List.range l.length).all fun k=>(List.range l.length).all fun m=>decide (i<k→k<m→0<eD l i k m)) then 0 else 3
theorem wU {l:List V} (h8:l.length≤8) (h3:3≤l.length) (hw:aT 65536000 l=true) (h:yu l l.length):iT l=0:=by
 unfold iT;rw [if_neg (by omega),if_neg (by omega),if_neg (by simp [hw]),if_pos];simp only [List.all_eq_true,List.mem_range,decide_eq_true_iff];intro i hi k hk m hm h1 h2;exact h i hi k h1 hk m h2 hm
theorem BG {l:List V} {i k m:Nat} (h8:l.length≤8) (h3:3≤l.length) (hw:aT 65536000 l=true) (hi:i<k) (hk:k<m) (hm:m<l.length) (h:eD l i k m≤0):iT l=3:=by
 unfold iT;rw [if_neg (by omega),if_neg (by omega),if_neg (by simp [hw]),if_neg];simp only [List.all_eq_true,List.mem_range,decide_eq_true_iff];intro hh;have:=hh i (by omega) k (by omega) m hm hi hk;omega
theorem zC {l:List V} (h:iT l=0):l.length≤8∧3≤l.length∧aT 65536000 l=true∧yu l l.length:=by
 unfold iT at h
 split at h
 ·omega
 ·split at h
  ·omega
  ·split at h
   ·omega
   ·split at h
    ·rename_i h1 h2 h3 h4;refine ⟨by omega,by omega,by simpa using h3,fun i hi k hik hk m hkm hm=>?_⟩;simp only [List.all_eq_true,List.mem_range,decide_eq_true_iff] at h4;exact h4 i hi k hk m hm hik hkm
    ·omega
theorem Dv (l:List V):yu l 0:=fun _ h=>absurd h (by omega)
theorem CS {l:List V} {i:Nat} (h:yu l i) (h2:Fj l i l.length):yu l (i+1):=fun i' hi k hik hk m hkm hm=>by
 by_cases e:i'=i
 ·subst e;exact h2 k hik hk m hkm hm
 ·exact h i' (by omega) k hik hk m hkm hm
theorem CZ (l:List V) (i:Nat):Fj l i (i+1):=fun _ h1 h2=>absurd h1 (by omega)
theorem BI {l:List V} {i k:Nat} (h:Fj l i k) (h3:FC l i k l.length):Fj l i (k+1):=fun k' hik hk m hkm hm=>by
 by_cases e:k'=k
 ·subst e;exact h3 m hkm hm
 ·exact h k' hik (by omega) m hkm hm
theorem C9 (l:List V) (i k:Nat):FC l i k (k+1):=fun _ h1 h2=>absurd h1 (by omega)
theorem Ce {l:List V} {i k m:Nat} (h:FC l i k m) (hm:0<eD l i k m):FC l i k (m+1):=fun m' hkm hm'=>by
 by_cases e:m'=m
 ·subst e;exact hm
 ·exact h m' hkm (by omega)
theorem eG {l:List V} (hw:aT 65536000 l=true) {j:Nat} (hj:j<l.length):sm (px l j)∧sm (py l j):=by
 obtain ⟨_,_,_,_⟩:=aV.1 (bG hw hj);unfold sm;omega
theorem G8 {l:List V} (hw:aT 65536000 l=true) {i k m:Nat} (hi:i<l.length) (hk:k<l.length) (hm:m<l.length) (w:World) :
  Calls Tryz.prog 264 #[bV (px l i) (py l i),bV (px l k) (py l k),bV (px l m) (py l m)] w (dw (.int .i64 (dZ (eD l i k m) 0)) w) :=
 qL _ _ _ _ _ _ (eG hw hi).1 (eG hw hi).2 (eG hw hk).1 (eG hw hk).2 (eG hw hm).1 (eG hw hm).2 w
def D7 (l:List V) (k:Nat):Prop:=∀ j,j<k→aB 65536000 (px l j) (py l j)=true
theorem BF (l:List V):D7 l 0:=fun _ h=>absurd h (by omega)
theorem Dw {l:List V} {k:Nat} (h:D7 l k) (hk:aB 65536000 (px l k) (py l k)=true):D7 l (k+1):=fun j hj=>by
 by_cases e:j=k
 ·subst e;exact hk
 ·exact h j (by omega)
theorem DV {l:List V} (h:D7 l l.length):aT 65536000 l=true:=by
 unfold aT;rw [List.all_eq_true];intro p hp;obtain ⟨j,hj,rfl⟩:=List.mem_iff_getElem.1 hp;have:=h j hj;rw [uI hj];exact this
theorem Eb {l:List V} {k:Nat} (hk:k<l.length) (h:aB 65536000 (px l k) (py l k)=false):aT 65536000 l=false:=by
 cases e:aT 65536000 l with
 | false=>rfl
 | true=>rw [bG e hk] at h;cases h
theorem xq (A:Option Addr) (n c:Nat) (l:List V) (w:World) (hS:Sl w A n c l) :
  Calls Tryz.prog 247 #[.slice A n c] w (dw (.int .i64 (iT l)) w):=by
 have hn:=hS.len;subst hn;have hcap:=hS.cap;have hbig:=hS.big
 by_cases h8:8<l.length
 ·clear hS
  go_enter Tryz.func247,Tryz.ntmps247
  go_wp2
  go_returns
  exact aj (by rw [iT,if_pos h8]) (Below.refl _ _)
 by_cases h3:l.length<3
 ·clear hS
  go_enter Tryz.func247,Tryz.ntmps247
  go_wp2
  go_returns
  exact aj (by rw [iT,if_neg h8,if_pos h3]) (Below.refl _ _)
 obtain ⟨b,off,rfl,hC⟩:=hS.at_ (by intro h;subst h;simp at h3);have hb2:=hC.lt;have HC:=hid hC;clear hS hC
 go_enter Tryz.func247,Tryz.ntmps247
 go_wp2
 go_loopw [19] (fun i wr=>∃ k:Nat,k≤l.length∧i = .int .i64 k∧D7 l k∧Below w.heap.size w wr) (fun i _=>l.length-(intOf i).toNat)
 case atStart=>exact ⟨0,Nat.zero_le _,rfl,BF _,Below.refl _ _⟩
 case round =>
  obtain ⟨k,hk,rfl,hin,hB⟩:=hrel;obtain ⟨wo,rfl⟩:∃ wo:World,wo=wr:=⟨_,rfl⟩;have HI:=hid hin;clear hin
  by_cases hlt:k<l.length
  ·have hCo := HC.out.below hB;have hx:=hCo.x k hlt;have hy:=hCo.y k hlt;have hbo:=hCo.lt;clear hCo
   cases hP:aB 65536000 (px l k) (py l k) with
   | false =>
    have HP:=hid hP;clear hP
    go_wp2_with (go_at_call 65;refine (aP _ _ 65536000 _ (by omega) (by omega)).mono ?_;rintro e w2 ⟨rfl,hb2⟩;rw [HP.out])
    go_returns
    exact aj (by rw [iT,if_neg h8,if_neg h3,if_pos (Eb hlt HP.out)]) ((hB.alloc hB.size _).trans (hb2.mono (Nat.le_trans hB.size (by simp))))
   | true =>
    have HP:=hid hP;clear hP
    go_wp2_with (go_at_call 65;refine (aP _ _ 65536000 _ (by omega) (by omega)).mono ?_;rintro e w2 ⟨rfl,hb2⟩;rw [HP.out])
    go_roundw
    case rel=>exact ⟨k+1,hlt,by go_num,Dw HI.out HP.out,(hB.alloc hB.size _).trans (hb2.mono (Nat.le_trans hB.size (by simp)))⟩
    case measure=>simp [intOf];omega
  ·have hge : l.length ≤ k := by omega
   have hw:=hid (DV (by have:=HI.out;rwa [show k=l.length by omega] at this));go_wp2
   go_loopw [28] (fun s wr=>∃ i:Nat,i≤l.length∧s = .int .i64 i∧yu l i∧Below w.heap.size w wr) (fun s _=>l.length-(intOf s).toNat)
   case atStart=>exact ⟨0,Nat.zero_le _,rfl,Dv _,hB⟩
   case round =>
    obtain ⟨i,hi,rfl,ht1,hB1⟩:=hrel;have HT1:=hid ht1;clear ht1
    by_cases hlt1:i<l.length
    ·go_wp2
     go_loopw [7] (fun s wr=>∃ k:Nat,i<k∧k≤l.length∧s = .int .i64 k∧Fj l i k∧Below w.heap.size w wr) (fun s _=>l.length-(intOf s).toNat)
     case atStart=>exact ⟨i+1,by omega,hlt1,by go_num,CZ _ _,hB1⟩
     case round =>
      obtain ⟨k,hik,hk,rfl,ht2,hB2⟩:=hrel;have HT2:=hid ht2;clear ht2
      by_cases hlt2:k<l.length
      ·go_wp2
       go_loopw [8] (fun s wr=>∃ m:Nat,k<m∧m≤l.length∧s = .int .i64 m∧FC l i k m∧Below w.heap.size w wr) (fun s _=>l.length-(intOf s).toNat)
       case atStart=>exact ⟨k+1,by omega,hlt2,by go_num,C9 _ _ _,hB2⟩
       case round =>
        obtain ⟨m,hkm,hm,rfl,ht3,hB3⟩:=hrel;have HT3:=hid ht3;clear ht3
        by_cases hlt3:m<l.length
        ·have hCr := HC.out.below hB3;have e1:(i:Int)<(l.length:Int):=by omega
         have e2:(k:Int)<(l.length:Int):=by omega
         have e3:(m:Int)<(l.length:Int):=by omega
         have s1:wr.drew.cell? ⟨b,off+i*2,none⟩=some (.int .i64 (px l i))∧wr.drew.cell? ⟨b,off+i*2+1,none⟩=some (.int .i64 (py l i))∧wr.drew.cell? ⟨b,off+k*2,none⟩=some (.int .i64 (px l k))∧wr.drew.cell? ⟨b,off+k*2+1,none⟩=some (.int .i64 (py l k))∧wr.drew.cell? ⟨b,off+m*2,none⟩=some (.int .i64 (px l m))∧wr.drew.cell? ⟨b,off+m*2+1,none⟩=some (.int .i64 (py l m))∧Below w.heap.size w wr.drew:=⟨hCr.x i hlt1,hCr.y i hlt1,hCr.x k hlt2,hCr.y k hlt2,hCr.x m hlt3,hCr.y m hlt3,hB3.drew⟩;have S1:=hid s1;clear s1;clear hCr;go_wp2
         go_region_held3 (fun w' => w'.cell? ⟨b, off + i * 2, none⟩ = some (.int .i64 (px l i)) ∧ w'.cell? ⟨b, off + i * 2 + 1, none⟩ = some (.int .i64 (py l i)) ∧ w'.cell? ⟨b, off + k * 2, none⟩ = some (.int .i64 (px l k)) ∧ w'.cell? ⟨b, off + k * 2 + 1, none⟩ = some (.int .i64 (py l k)) ∧ w'.cell? ⟨b, off + m * 2, none⟩ = some (.int .i64 (px l m)) ∧ w'.cell? ⟨b, off + m * 2 + 1, none⟩ = some (.int .i64 (py l m)) ∧ Below w.heap.size w w')
          (first | with_reducible exact S1.out | (go_split_ands;with_reducible exact ⟨keepCell hb3 (by assumption),keepCell hb3 (by assumption),keepCell hb3 (by assumption),keepCell hb3 (by assumption),keepCell hb3 (by assumption),keepCell hb3 (by assumption),ah hb3 (by assumption)⟩))
          (first | (go_at_call 264;refine (G8 hw.out hlt1 hlt2 hlt3 _).mono ?_;rintro e w3 ⟨rfl,hb3⟩))
         go_wp2
         all_goals go_split_ands
         ·go_returns
          exact aj (BG (by omega) (by omega) hw.out hik hkm hlt3 (xH.1 (by assumption))).symm (by assumption)
         ·go_roundw
          case rel=>exact ⟨m+1,by omega,by omega,by go_num,Ce HT3.out (Em.1 (by assumption)),by assumption⟩
          case measure=>simp [intOf];omega
        ·have hge3 : l.length ≤ m := by omega
         go_wp2;go_roundw
         case rel=>exact ⟨k+1,by omega,by omega,by go_num,BI HT2.out (by have:=HT3.out;rwa [show m=l.length by omega] at this),hB3⟩
         case measure=>simp [intOf];omega
      ·have hge2 : l.length ≤ k := by omega
       go_wp2;go_roundw
       case rel=>exact ⟨i+1,by omega,by go_num,CS HT1.out (by have:=HT2.out;rwa [show k=l.length by omega] at this),hB2⟩
       case measure=>simp [intOf];omega
    ·have hge1 : l.length ≤ i := by omega
     go_wp2
     go_returns
     exact aj (wU (by omega) (by omega) hw.out (by have:=HT1.out;rwa [show i=l.length by omega] at this)).symm hB1
theorem xJ (L:List Value) (df:List Deferred) (k:Nat) (v:Value):Act.put ⟨L.toArray,df⟩ (some k) v=⟨(L.set k v).toArray,df⟩:=by simp [Act.put]

def zu (md : Region.Mode) (ops : Array Oper) : List (Nat × Nat) → Array Bool → List Value → Bool
 | [],_,_=>true
 | (i,k) :: r,listed,L=>(match ops[i]? with
   | some o=>(match o.dst with | some d=>d == k | none=>false) && Region.free md ops listed i && (Region.ready md ops listed).contains i && !Region.wanted o (yielded ops L.toArray)
   | none=>false) && zu md ops r (listed.setIfInBounds i true) (L.set k undef)
def Eu : List (Nat × Nat) → Array Bool → Array Bool
 | [],listed=>listed
 | (i,_) :: r,listed=>Eu r (listed.setIfInBounds i true)
def lC : List (Nat × Nat) → List Value → List Value
 | [],L=>L
 | (_,k) :: r,L=>lC r (L.set k undef)
theorem mV {P:Program} {ops:Array Oper} {Q:Exit→Act→World→Prop} {md:Region.Mode} {S:World→Prop} {df:List Deferred} {w:World} (hs:Region.noSelect ops=true) (hQ:∀ c a a' w,Q (.panic c) a' w→Q (.panic c) a w) (hS:S w) :
  ∀ (is : List (Nat × Nat)) (fuel fuel' : Nat) (listed : Array Bool) (L : List Value), zu md ops is listed L = true → fuel' = fuel + is.length →
   wpAnyH P md ops Q S fuel (Eu is listed) ⟨(lC is L).toArray,df⟩ w→wpAnyH P md ops Q S fuel' listed ⟨L.toArray,df⟩ w:=by
 intro is
 induction is with
 | nil=>intro fuel fuel' listed L _ hf h;rw [hf];exact h
 | cons x r ih =>
  obtain ⟨i,k⟩:=x;intro fuel fuel' listed L hok hf h;simp only [zu,Bool.and_eq_true] at hok;obtain ⟨h1,h2⟩:=hok
  split at h1
  ·rename_i o ho;simp only [Bool.and_eq_true,Bool.not_eq_true'] at h1;obtain ⟨⟨⟨a,b⟩,c⟩,d⟩:=h1
   have hd:o.dst=some k:=by
    split at a
    ·rename_i e he;rw [he];exact congrArg some (by simpa using a)
    ·cases a
   rw [hf,List.length_cons,← Nat.add_assoc];refine wpAnyH_take (v:=undef) ho hs b c (fun c a w hq=>hQ c a _ w hq) (Or.inr ⟨d,rfl⟩) hS ?_;rw [hd,xJ];exact ih fuel _ _ _ h2 rfl h
  ·cases h1

theorem aI {P : Program} {ops : Array Oper} {Q : Exit → Act → World → Prop} {md : Region.Mode} {S : World → Prop} {fuel' : Nat} {listed : Array Bool} {L : List Value} {df : List Deferred} {w : World} (i k fuel : Nat) {oi : Oper} {v : Value} (hi : ops[i]? = some oi) (hd : oi.dst = some k)
  (hs:Region.noSelect ops=true) (hf:Region.free md ops listed i=true) (hr:(Region.ready md ops listed).contains i=true) (hfu:fuel'=fuel+1) (hQ:∀ c a a' w,Q (.panic c) a' w→Q (.panic c) a w)
  (hw:Region.wanted oi (yielded ops L.toArray)=true) (hy:∀ w,S w→(execOp (Act.eval ⟨L.toArray,df⟩) oi).run P w = .ok (.value v) w) (hS:S w)
  (h:wpAnyH P md ops Q S fuel (listed.setIfInBounds i true) ⟨(L.set k v).toArray,df⟩ w):wpAnyH P md ops Q S fuel' listed ⟨L.toArray,df⟩ w:=by
 subst hfu;exact wpAnyH_take (v:=v) hi hs hf hr (fun c a w hq=>hQ c a _ w hq) (Or.inl ⟨hw,hy⟩) hS (by rw [hd,xJ];exact h)
def cK (l:List V) (i k:Nat) (p q:Int):Int:=bS (px l i) (py l i) (px l k) (py l k) p q
def nS (l:List V) (p q:Int) (m:Nat):Bool:=decide (0≤cK l 0 (m-1) p q∧0≤cK l (m-1) m p q∧0≤cK l m 0 p q)
def xQ (l:List V) (p q:Int) (m:Nat):Prop:=∀ j,2≤j→j<m→nS l p q j=false

def sH (l:List V) (p q:Int):Bool:=aB 65536000 p q && (List.range l.length).any fun m=>decide (2≤m) && nS l p q m
theorem CQ (l:List V) (p q:Int):xQ l p q 2:=fun _ h1 h2=>absurd h1 (by omega)
theorem mO {l:List V} {p q:Int} {m:Nat} (h:xQ l p q m) (hm:nS l p q m=false):xQ l p q (m+1):=fun j h2 hj=>by
 by_cases e:j=m
 ·subst e;exact hm
 ·exact h j h2 (by omega)
theorem Db {l:List V} {p q:Int} {m:Nat} (h1:aB 65536000 p q=true) (h2:2≤m) (hm:m<l.length) (ht:nS l p q m=true):sH l p q=true:=by
 unfold sH;rw [h1,Bool.true_and,List.any_eq_true];exact ⟨m,List.mem_range.2 hm,by simp [h2,ht]⟩
theorem zy {l:List V} {p q:Int} (h:xQ l p q l.length):sH l p q=false:=by
 unfold sH;rw [Bool.and_eq_false_iff];refine .inr ?_;rw [List.any_eq_false];intro m hm
 by_cases h2:2≤m
 ·simp [h m h2 (List.mem_range.1 hm)]
 ·simp [h2]
theorem Fb {l:List V} {p q:Int}:sH l p q=true↔aB 65536000 p q=true∧∃ m,2≤m∧m<l.length∧nS l p q m=true:=by
 unfold sH;simp only [Bool.and_eq_true,List.any_eq_true,List.mem_range,decide_eq_true_iff]
 constructor
 ·rintro ⟨a,m,b,c,d⟩;exact ⟨a,m,c,b,d⟩
 ·rintro ⟨a,m,c,b,d⟩;exact ⟨a,m,b,c,d⟩
theorem fT {l:List V} (hw:aT 65536000 l=true) {p q:Int} (hp:aB 65536000 p q=true) {i k:Nat} (hi:i<l.length) (hk:k<l.length) (w:World) :
  Calls Tryz.prog 264 #[bV (px l i) (py l i),bV (px l k) (py l k),bV p q] w (dw (.int .i64 (dZ (cK l i k p q) 0)) w) :=
 qL _ _ _ _ _ _ (eG hw hi).1 (eG hw hi).2 (eG hw hk).1 (eG hw hk).2 (by obtain ⟨_,_,_,_⟩:=aV.1 hp;unfold sm;omega) (by obtain ⟨_,_,_,_⟩:=aV.1 hp;unfold sm;omega) w
theorem uN (A:Option Addr) (n c:Nat) (l:List V) (p q:Int) (w:World) (hS:Sl w A n c l) (hw:aT 65536000 l=true) (h8:l.length≤8) (h0:3≤l.length) :
  Calls Tryz.prog 252 #[.slice A n c,bV p q] w (dw (.bool (sH l p q)) w):=by
 obtain ⟨b,off,rfl,hC⟩:=hS.at_ (by intro h;subst h;simp at h0);have hn:=hS.len;subst hn;have hb2:=hC.lt;have hcap:=hS.cap;have HC:=hid hC;have HW:=hid hw;clear hS hC hw
 cases hP:aB 65536000 p q with
 | false =>
  have HP:=hid hP;clear hP
  go_enter Tryz.func252,Tryz.ntmps252
  go_wp2_with (go_at_call 65;refine (aP _ _ 65536000 _ (by omega) (by omega)).mono ?_;rintro e w2 ⟨rfl,hb3⟩;rw [HP.out])
  go_returns
  exact aY (by simp [sH,HP.out]) (((Below.refl w.heap.size w).alloc (Nat.le_refl _) _).trans (hb3.mono (by simp)))
 | true =>
  have HP:=hid hP;clear hP
  go_enter Tryz.func252,Tryz.ntmps252
  go_wp2_with (go_at_call 65;refine (aP _ _ 65536000 _ (by omega) (by omega)).mono ?_;rintro e w2 ⟨rfl,hb3⟩;rw [HP.out];have l1:=hid (And.intro (show w2.cell? ⟨w.heap.size,0,none⟩=some (.int .i64 p) from keepCell hb3 (by go_simp)) (show w2.cell? ⟨w.heap.size,1,none⟩=some (.int .i64 q) from keepCell hb3 (by go_simp))))
  have hB0:Below w.heap.size w w2:=((Below.refl w.heap.size w).alloc (Nat.le_refl _) _).trans (hb3.mono (by simp))
  go_loopw [5] (fun s wr=>∃ m:Nat,2≤m∧m≤l.length∧s = .int .i64 m∧xQ l p q m∧Below w.heap.size w wr∧wr.cell? ⟨w.heap.size,0,none⟩=some (.int .i64 p)∧wr.cell? ⟨w.heap.size,1,none⟩=some (.int .i64 q)) (fun s _=>l.length-(intOf s).toNat)
  case atStart=>exact ⟨2,by omega,by omega,rfl,CQ _ _ _,hB0,l1.out.1,l1.out.2⟩
  case round =>
   obtain ⟨m,hm2,hm,rfl,hno,hB,kp,kq⟩:=hrel;have HN:=hid hno;clear hno
   by_cases hlt:m<l.length
   ·have e1 : IntKind.i64.wrap ((m : Int) - 1) = (m : Int) - 1 := IntWalk.i64_in _ (by omega);have e2:0≤(m:Int)-1:=by omega
    have e3:(m:Int)-1<(l.length:Int):=by omega
    have e4:((m:Int)-1).toNat=m-1:=by omega
    have e5:(0:Int)<(l.length:Int):=by omega
    have e6:(m:Int)<(l.length:Int):=by omega
    have e8:0<l.length:=by omega
    have e9:1≤(m:Int):=by omega
    have hCr:=HC.out.below hB;have s1:wr.drew.cell? ⟨b,off,none⟩=some (.int .i64 (px l 0))∧wr.drew.cell? ⟨b,off+1,none⟩=some (.int .i64 (py l 0))∧wr.drew.cell? ⟨b,off+(m-1)*2,none⟩=some (.int .i64 (px l (m-1)))∧wr.drew.cell? ⟨b,off+(m-1)*2+1,none⟩=some (.int .i64 (py l (m-1)))∧wr.drew.cell? ⟨b,off+m*2,none⟩=some (.int .i64 (px l m))∧wr.drew.cell? ⟨b,off+m*2+1,none⟩=some (.int .i64 (py l m))∧wr.drew.cell? ⟨w.heap.size,0,none⟩=some (.int .i64 p)∧wr.drew.cell? ⟨w.heap.size,1,none⟩=some (.int .i64 q)∧Below w.heap.size w wr.drew:=⟨by simpa using hCr.x 0 (by omega),by simpa using hCr.y 0 (by omega),hCr.x (m-1) (by omega),hCr.y (m-1) (by omega),hCr.x m hlt,hCr.y m hlt,kp,kq,hB.drew⟩;have S1:=hid s1;clear s1;clear hCr kp kq
    by_cases c1:0≤cK l 0 (m-1) p q
    ·by_cases c2 : 0 ≤ cK l (m - 1) m p q
     ·by_cases c3 : 0 ≤ cK l m 0 p q
      ·have HF : Hid (nS l p q m = true) := decide_eq_true ⟨c1, c2, c3⟩;have f1:0≤dZ (cK l 0 (m-1) p q) 0:=gI.2 c1;have g1:decide (0≤dZ (cK l 0 (m-1) p q) 0)=true:=decide_eq_true f1;have f2:0≤dZ (cK l (m-1) m p q) 0:=gI.2 c2;have g2:decide (0≤dZ (cK l (m-1) m p q) 0)=true:=decide_eq_true f2;have f3:0≤dZ (cK l m 0 p q) 0:=gI.2 c3;have g3:decide (0≤dZ (cK l m 0 p q) 0)=true:=decide_eq_true f3;clear c1 c2 c3;go_wp2
       go_region_held3 (fun w' => w'.cell? ⟨b, off, none⟩ = some (.int .i64 (px l 0)) ∧ w'.cell? ⟨b, off + 1, none⟩ = some (.int .i64 (py l 0)) ∧ w'.cell? ⟨b, off + (m - 1) * 2, none⟩ = some (.int .i64 (px l (m - 1))) ∧ w'.cell? ⟨b, off + (m - 1) * 2 + 1, none⟩ = some (.int .i64 (py l (m - 1))) ∧ w'.cell? ⟨b, off + m * 2, none⟩ = some (.int .i64 (px l m)) ∧ w'.cell? ⟨b, off + m * 2 + 1, none⟩ = some (.int .i64 (py l m)) ∧ w'.cell? ⟨w.heap.size, 0, none⟩ = some (.int .i64 p) ∧ w'.cell? ⟨w.heap.size, 1, none⟩ = some (.int .i64 q) ∧ Below w.heap.size w w')
        (first | with_reducible exact S1.out | (go_split_ands;with_reducible exact ⟨keepCell hb3 (by assumption),keepCell hb3 (by assumption),keepCell hb3 (by assumption),keepCell hb3 (by assumption),keepCell hb3 (by assumption),keepCell hb3 (by assumption),keepCell hb3 (by assumption),keepCell hb3 (by assumption),ah hb3 (by assumption)⟩))
        (first | (go_at_call 264;(first | (with_reducible refine (fT HW.out HP.out (show 0<l.length by omega) (show m-1<l.length by omega) _).mono ?_) | (with_reducible refine (fT HW.out HP.out (show m-1<l.length by omega) hlt _).mono ?_) | (with_reducible refine (fT HW.out HP.out hlt (show 0<l.length by omega) _).mono ?_));rintro e w3 ⟨rfl,hb3⟩))
       go_wp2
       go_split_ands
       go_returns
       exact aY (Db HP.out hm2 hlt HF.out).symm (by assumption)
      ·have HF : Hid (nS l p q m = false) := decide_eq_false fun h => c3 h.2.2
       have f1:0≤dZ (cK l 0 (m-1) p q) 0:=gI.2 c1;have g1:decide (0≤dZ (cK l 0 (m-1) p q) 0)=true:=decide_eq_true f1;have f2:0≤dZ (cK l (m-1) m p q) 0:=gI.2 c2;have g2:decide (0≤dZ (cK l (m-1) m p q) 0)=true:=decide_eq_true f2;have f3:dZ (cK l m 0 p q) 0<0:=kW.2 (by omega);have g3:decide (0≤dZ (cK l m 0 p q) 0)=false:=by simp;omega
       clear c1 c2 c3;go_wp2
       go_region_held3 (fun w' => w'.cell? ⟨b, off, none⟩ = some (.int .i64 (px l 0)) ∧ w'.cell? ⟨b, off + 1, none⟩ = some (.int .i64 (py l 0)) ∧ w'.cell? ⟨b, off + (m - 1) * 2, none⟩ = some (.int .i64 (px l (m - 1))) ∧ w'.cell? ⟨b, off + (m - 1) * 2 + 1, none⟩ = some (.int .i64 (py l (m - 1))) ∧ w'.cell? ⟨b, off + m * 2, none⟩ = some (.int .i64 (px l m)) ∧ w'.cell? ⟨b, off + m * 2 + 1, none⟩ = some (.int .i64 (py l m)) ∧ w'.cell? ⟨w.heap.size, 0, none⟩ = some (.int .i64 p) ∧ w'.cell? ⟨w.heap.size, 1, none⟩ = some (.int .i64 q) ∧ Below w.heap.size w w')
        (first | with_reducible exact S1.out | (go_split_ands;with_reducible exact ⟨keepCell hb3 (by assumption),keepCell hb3 (by assumption),keepCell hb3 (by assumption),keepCell hb3 (by assumption),keepCell hb3 (by assumption),keepCell hb3 (by assumption),keepCell hb3 (by assumption),keepCell hb3 (by assumption),ah hb3 (by assumption)⟩))
        (first | (go_at_call 264;(first | (with_reducible refine (fT HW.out HP.out (show 0<l.length by omega) (show m-1<l.length by omega) _).mono ?_) | (with_reducible refine (fT HW.out HP.out (show m-1<l.length by omega) hlt _).mono ?_) | (with_reducible refine (fT HW.out HP.out hlt (show 0<l.length by omega) _).mono ?_));rintro e w3 ⟨rfl,hb3⟩))
       go_wp2
       go_split_ands
       go_roundw
       case rel=>exact ⟨m+1,by omega,by omega,by go_num,mO HN.out HF.out,by assumption,by assumption,by assumption⟩
       case measure=>simp [intOf];omega
     ·have HF : Hid (nS l p q m = false) := decide_eq_false fun h => c2 h.2.1
      have f1:0≤dZ (cK l 0 (m-1) p q) 0:=gI.2 c1;have g1:decide (0≤dZ (cK l 0 (m-1) p q) 0)=true:=decide_eq_true f1;have f2:dZ (cK l (m-1) m p q) 0<0:=kW.2 (by omega);have g2:decide (0≤dZ (cK l (m-1) m p q) 0)=false:=by simp;omega
      clear c1 c2;go_wp2;refine wp_region_noPanic ?_;refine wp_region_held_drew (S:=fun w'=>w'.cell? ⟨b,off,none⟩=some (.int .i64 (px l 0))∧w'.cell? ⟨b,off+1,none⟩=some (.int .i64 (py l 0))∧w'.cell? ⟨b,off+(m-1)*2,none⟩=some (.int .i64 (px l (m-1)))∧w'.cell? ⟨b,off+(m-1)*2+1,none⟩=some (.int .i64 (py l (m-1)))∧w'.cell? ⟨b,off+m*2,none⟩=some (.int .i64 (px l m))∧w'.cell? ⟨b,off+m*2+1,none⟩=some (.int .i64 (py l m))∧w'.cell? ⟨w.heap.size,0,none⟩=some (.int .i64 p)∧w'.cell? ⟨w.heap.size,1,none⟩=some (.int .i64 q)∧Below w.heap.size w w') (by kernel_rfl) ?hs1_0 (fun hH=>?hr1_0)
      case hs1_0=>exact S1.out
      refine aI 0 15 36 (v:=?v1_0) rfl (by kernel_rfl) (by kernel_rfl) (by kernel_rfl) (by kernel_rfl) (by kernel_rfl) (fun _ _ _ _ h=>h) (by kernel_rfl) ?hy1_0 hH ?_
      case hy1_0=>(intro w' hSw;go_simp;try (with_reducible rfl))
      simp only [List.set_cons_zero,List.set_cons_succ];refine aI 1 16 35 (v:=?v1_1) rfl (by kernel_rfl) (by kernel_rfl) (by kernel_rfl) (by kernel_rfl) (by kernel_rfl) (fun _ _ _ _ h=>h) (by kernel_rfl) ?hy1_1 hH ?_
      case hy1_1=>(intro w' hSw;go_simp;try (with_reducible rfl))
      simp only [List.set_cons_zero,List.set_cons_succ];refine aI 2 17 34 (v:=?v1_2) rfl (by kernel_rfl) (by kernel_rfl) (by kernel_rfl) (by kernel_rfl) (by kernel_rfl) (fun _ _ _ _ h=>h) (by kernel_rfl) ?hy1_2 hH ?_
      case hy1_2=>(intro w' hSw;go_simp;try (with_reducible rfl))
      simp only [List.set_cons_zero,List.set_cons_succ];refine aI 3 18 33 (v:=?v1_3) rfl (by kernel_rfl) (by kernel_rfl) (by kernel_rfl) (by kernel_rfl) (by kernel_rfl) (fun _ _ _ _ h=>h) (by kernel_rfl) ?hy1_3 hH ?_
      case hy1_3=>(intro w' hSw;go_simp;try (with_reducible rfl))
      simp only [List.set_cons_zero,List.set_cons_succ];refine aI 4 19 32 (v:=?v1_4) rfl (by kernel_rfl) (by kernel_rfl) (by kernel_rfl) (by kernel_rfl) (by kernel_rfl) (fun _ _ _ _ h=>h) (by kernel_rfl) ?hy1_4 hH ?_
      case hy1_4=>(intro w' hSw;go_simp;try (with_reducible rfl))
      simp only [List.set_cons_zero,List.set_cons_succ];refine aI 5 20 31 (v:=?v1_5) rfl (by kernel_rfl) (by kernel_rfl) (by kernel_rfl) (by kernel_rfl) (by kernel_rfl) (fun _ _ _ _ h=>h) (by kernel_rfl) ?hy1_5 hH ?_
      case hy1_5=>(intro w' hSw;go_simp;try (with_reducible rfl))
      simp only [List.set_cons_zero,List.set_cons_succ];refine aI 6 21 30 (v:=?v1_6) rfl (by kernel_rfl) (by kernel_rfl) (by kernel_rfl) (by kernel_rfl) (by kernel_rfl) (fun _ _ _ _ h=>h) (by kernel_rfl) ?hy1_6 hH ?_
      case hy1_6=>(intro w' hSw;go_simp;try (with_reducible rfl))
      simp only [List.set_cons_zero,List.set_cons_succ];refine aI 7 22 29 (v:=?v1_7) rfl (by kernel_rfl) (by kernel_rfl) (by kernel_rfl) (by kernel_rfl) (by kernel_rfl) (fun _ _ _ _ h=>h) (by kernel_rfl) ?hy1_7 hH ?_
      case hy1_7=>(intro w' hSw;go_simp;try (with_reducible rfl))
      simp only [List.set_cons_zero,List.set_cons_succ];refine aI 8 23 28 (v:=?v1_8) rfl (by kernel_rfl) (by kernel_rfl) (by kernel_rfl) (by kernel_rfl) (by kernel_rfl) (fun _ _ _ _ h=>h) (by kernel_rfl) ?hy1_8 hH ?_
      case hy1_8=>(intro w' hSw;go_simp;try (with_reducible rfl))
      simp only [List.set_cons_zero,List.set_cons_succ];refine wpAnyH_ready (rs:=[9]) (by kernel_rfl) (by simp) ?_;refine AllReadyH.cons (o:=_) rfl (fun K hK=>?st1_9) AllReadyH.nil;go_simp
      go_at_call 264;(first | (with_reducible refine (fT HW.out HP.out (show 0<l.length by omega) (show m-1<l.length by omega) _).mono ?_) | (with_reducible refine (fT HW.out HP.out (show m-1<l.length by omega) hlt _).mono ?_) | (with_reducible refine (fT HW.out HP.out hlt (show 0<l.length by omega) _).mono ?_));rintro e w9 ⟨rfl,hb9⟩
      refine hK.out _ _ ?hs1_9 (fun hH2=>?hr1_9)
      case hs1_9=>(obtain ⟨q0,q1,q2,q3,q4,q5,q6,q7,q8⟩:=hH;exact ⟨keepCell hb9 q0,keepCell hb9 q1,keepCell hb9 q2,keepCell hb9 q3,keepCell hb9 q4,keepCell hb9 q5,keepCell hb9 q6,keepCell hb9 q7,ah hb9 q8⟩)
      clear hK K hH;have hH:=hH2;clear hH2
      try simp only [Act.put,List.setIfInBounds_toArray,List.set_cons_zero,List.set_cons_succ]
      refine aI 10 25 26 (v:=?v1_10) rfl (by kernel_rfl) (by kernel_rfl) (by kernel_rfl) (by kernel_rfl) (by kernel_rfl) (fun _ _ _ _ h=>h) (by kernel_rfl) ?hy1_10 hH ?_
      case hy1_10=>(intro w' hSw;go_simp;try (with_reducible rfl))
      simp only [List.set_cons_zero,List.set_cons_succ];refine aI 11 26 25 (v:=?v1_11) rfl (by kernel_rfl) (by kernel_rfl) (by kernel_rfl) (by kernel_rfl) (by kernel_rfl) (fun _ _ _ _ h=>h) (by kernel_rfl) ?hy1_11 hH ?_
      case hy1_11=>(intro w' hSw;go_simp;try (with_reducible rfl))
      simp only [List.set_cons_zero,List.set_cons_succ];refine aI 12 27 24 (v:=?v1_12) rfl (by kernel_rfl) (by kernel_rfl) (by kernel_rfl) (by kernel_rfl) (by kernel_rfl) (fun _ _ _ _ h=>h) (by kernel_rfl) ?hy1_12 hH ?_
      case hy1_12=>(intro w' hSw;go_simp;try (with_reducible rfl))
      simp only [List.set_cons_zero,List.set_cons_succ];refine aI 13 28 23 (v:=?v1_13) rfl (by kernel_rfl) (by kernel_rfl) (by kernel_rfl) (by kernel_rfl) (by kernel_rfl) (fun _ _ _ _ h=>h) (by kernel_rfl) ?hy1_13 hH ?_
      case hy1_13=>(intro w' hSw;go_simp;try (with_reducible rfl))
      simp only [List.set_cons_zero,List.set_cons_succ];refine aI 14 29 22 (v:=?v1_14) rfl (by kernel_rfl) (by kernel_rfl) (by kernel_rfl) (by kernel_rfl) (by kernel_rfl) (fun _ _ _ _ h=>h) (by kernel_rfl) ?hy1_14 hH ?_
      case hy1_14=>(intro w' hSw;go_simp;try (with_reducible rfl))
      simp only [List.set_cons_zero,List.set_cons_succ];refine aI 15 30 21 (v:=?v1_15) rfl (by kernel_rfl) (by kernel_rfl) (by kernel_rfl) (by kernel_rfl) (by kernel_rfl) (fun _ _ _ _ h=>h) (by kernel_rfl) ?hy1_15 hH ?_
      case hy1_15=>(intro w' hSw;go_simp;try (with_reducible rfl))
      simp only [List.set_cons_zero,List.set_cons_succ];refine aI 16 31 20 (v:=?v1_16) rfl (by kernel_rfl) (by kernel_rfl) (by kernel_rfl) (by kernel_rfl) (by kernel_rfl) (fun _ _ _ _ h=>h) (by kernel_rfl) ?hy1_16 hH ?_
      case hy1_16=>(intro w' hSw;go_simp;try (with_reducible rfl))
      simp only [List.set_cons_zero,List.set_cons_succ];refine aI 17 32 19 (v:=?v1_17) rfl (by kernel_rfl) (by kernel_rfl) (by kernel_rfl) (by kernel_rfl) (by kernel_rfl) (fun _ _ _ _ h=>h) (by kernel_rfl) ?hy1_17 hH ?_
      case hy1_17=>(intro w' hSw;go_simp;try (with_reducible rfl))
      simp only [List.set_cons_zero,List.set_cons_succ];refine aI 18 33 18 (v:=?v1_18) rfl (by kernel_rfl) (by kernel_rfl) (by kernel_rfl) (by kernel_rfl) (by kernel_rfl) (fun _ _ _ _ h=>h) (by kernel_rfl) ?hy1_18 hH ?_
      case hy1_18=>(intro w' hSw;go_simp;try (with_reducible rfl))
      simp only [List.set_cons_zero,List.set_cons_succ];refine aI 19 34 17 (v:=?v1_19) rfl (by kernel_rfl) (by kernel_rfl) (by kernel_rfl) (by kernel_rfl) (by kernel_rfl) (fun _ _ _ _ h=>h) (by kernel_rfl) ?hy1_19 hH ?_
      case hy1_19=>(intro w' hSw;go_simp;try (with_reducible rfl))
      simp only [List.set_cons_zero,List.set_cons_succ];refine aI 20 35 16 (v:=?v1_20) rfl (by kernel_rfl) (by kernel_rfl) (by kernel_rfl) (by kernel_rfl) (by kernel_rfl) (fun _ _ _ _ h=>h) (by kernel_rfl) ?hy1_20 hH ?_
      case hy1_20=>(intro w' hSw;go_simp;try (with_reducible rfl))
      simp only [List.set_cons_zero,List.set_cons_succ];refine aI 21 36 15 (v:=?v1_21) rfl (by kernel_rfl) (by kernel_rfl) (by kernel_rfl) (by kernel_rfl) (by kernel_rfl) (fun _ _ _ _ h=>h) (by kernel_rfl) ?hy1_21 hH ?_
      case hy1_21=>(intro w' hSw;go_simp;try (with_reducible rfl))
      simp only [List.set_cons_zero,List.set_cons_succ];refine wpAnyH_ready (rs:=[22]) (by kernel_rfl) (by simp) ?_;refine AllReadyH.cons (o:=_) rfl (fun K hK=>?st1_22) AllReadyH.nil;go_simp
      go_at_call 264;(first | (with_reducible refine (fT HW.out HP.out (show 0<l.length by omega) (show m-1<l.length by omega) _).mono ?_) | (with_reducible refine (fT HW.out HP.out (show m-1<l.length by omega) hlt _).mono ?_) | (with_reducible refine (fT HW.out HP.out hlt (show 0<l.length by omega) _).mono ?_));rintro e w22 ⟨rfl,hb22⟩
      refine hK.out _ _ ?hs1_22 (fun hH2=>?hr1_22)
      case hs1_22=>(obtain ⟨q0,q1,q2,q3,q4,q5,q6,q7,q8⟩:=hH;exact ⟨keepCell hb22 q0,keepCell hb22 q1,keepCell hb22 q2,keepCell hb22 q3,keepCell hb22 q4,keepCell hb22 q5,keepCell hb22 q6,keepCell hb22 q7,ah hb22 q8⟩)
      clear hK K hH;have hH:=hH2;clear hH2
      try simp only [Act.put,List.setIfInBounds_toArray,List.set_cons_zero,List.set_cons_succ]
      refine aI 23 38 13 (v:=?v1_23) rfl (by kernel_rfl) (by kernel_rfl) (by kernel_rfl) (by kernel_rfl) (by kernel_rfl) (fun _ _ _ _ h=>h) (by kernel_rfl) ?hy1_23 hH ?_
      case hy1_23=>(intro w' hSw;go_simp;try (with_reducible rfl))
      simp only [List.set_cons_zero,List.set_cons_succ];refine aI 24 39 12 (v:=?v1_24) rfl (by kernel_rfl) (by kernel_rfl) (by kernel_rfl) (by kernel_rfl) (by kernel_rfl) (fun _ _ _ _ h=>h) (by kernel_rfl) ?hy1_24 hH ?_
      case hy1_24=>(intro w' hSw;go_simp;try (with_reducible rfl))
      simp only [List.set_cons_zero,List.set_cons_succ];refine aI 25 40 11 (v:=?v1_25) rfl (by kernel_rfl) (by kernel_rfl) (by kernel_rfl) (by kernel_rfl) (by kernel_rfl) (fun _ _ _ _ h=>h) (by kernel_rfl) ?hy1_25 hH ?_
      case hy1_25=>(intro w' hSw;go_simp;try (with_reducible rfl))
      simp only [List.set_cons_zero,List.set_cons_succ];refine mV (by kernel_rfl) (fun _ _ _ _ h=>h) hH [(26,41),(27,42),(28,43),(29,44),(30,45),(31,46),(32,47),(33,48),(34,49),(35,50)] 1 _ _ _ (by kernel_rfl) (by kernel_rfl) ?_;simp only [lC,List.set_cons_zero,List.set_cons_succ];refine aI 36 51 0 (v:=?v1_36) rfl (by kernel_rfl) (by kernel_rfl) (by kernel_rfl) (by kernel_rfl) (by kernel_rfl) (fun _ _ _ _ h=>h) (by kernel_rfl) ?hy1_36 hH ?_
      case hy1_36=>(intro w' hSw;go_simp;try (with_reducible rfl))
      simp only [List.set_cons_zero,List.set_cons_succ];refine wpAnyH_done (by kernel_rfl) ?_ _;refine NoPanic.normal ?_;go_wp2
      go_split_ands
      go_roundw
      case rel=>exact ⟨m+1,by omega,by omega,by go_num,mO HN.out HF.out,by assumption,by assumption,by assumption⟩
      case measure=>simp [intOf];omega
    ·have HF : Hid (nS l p q m = false) := decide_eq_false fun h => c1 h.1
     have f1:dZ (cK l 0 (m-1) p q) 0<0:=kW.2 (by omega);have g1:decide (0≤dZ (cK l 0 (m-1) p q) 0)=false:=by simp;omega
     clear c1;go_wp2;refine wp_region_noPanic ?_;refine wp_region_held_drew (S:=fun w'=>w'.cell? ⟨b,off,none⟩=some (.int .i64 (px l 0))∧w'.cell? ⟨b,off+1,none⟩=some (.int .i64 (py l 0))∧w'.cell? ⟨b,off+(m-1)*2,none⟩=some (.int .i64 (px l (m-1)))∧w'.cell? ⟨b,off+(m-1)*2+1,none⟩=some (.int .i64 (py l (m-1)))∧w'.cell? ⟨b,off+m*2,none⟩=some (.int .i64 (px l m))∧w'.cell? ⟨b,off+m*2+1,none⟩=some (.int .i64 (py l m))∧w'.cell? ⟨w.heap.size,0,none⟩=some (.int .i64 p)∧w'.cell? ⟨w.heap.size,1,none⟩=some (.int .i64 q)∧Below w.heap.size w w') (by kernel_rfl) ?hs2_0 (fun hH=>?hr2_0)
     case hs2_0=>exact S1.out
     refine aI 0 15 36 (v:=?v2_0) rfl (by kernel_rfl) (by kernel_rfl) (by kernel_rfl) (by kernel_rfl) (by kernel_rfl) (fun _ _ _ _ h=>h) (by kernel_rfl) ?hy2_0 hH ?_
     case hy2_0=>(intro w' hSw;go_simp;try (with_reducible rfl))
     simp only [List.set_cons_zero,List.set_cons_succ];refine aI 1 16 35 (v:=?v2_1) rfl (by kernel_rfl) (by kernel_rfl) (by kernel_rfl) (by kernel_rfl) (by kernel_rfl) (fun _ _ _ _ h=>h) (by kernel_rfl) ?hy2_1 hH ?_
     case hy2_1=>(intro w' hSw;go_simp;try (with_reducible rfl))
     simp only [List.set_cons_zero,List.set_cons_succ];refine aI 2 17 34 (v:=?v2_2) rfl (by kernel_rfl) (by kernel_rfl) (by kernel_rfl) (by kernel_rfl) (by kernel_rfl) (fun _ _ _ _ h=>h) (by kernel_rfl) ?hy2_2 hH ?_
     case hy2_2=>(intro w' hSw;go_simp;try (with_reducible rfl))
     simp only [List.set_cons_zero,List.set_cons_succ];refine aI 3 18 33 (v:=?v2_3) rfl (by kernel_rfl) (by kernel_rfl) (by kernel_rfl) (by kernel_rfl) (by kernel_rfl) (fun _ _ _ _ h=>h) (by kernel_rfl) ?hy2_3 hH ?_
     case hy2_3=>(intro w' hSw;go_simp;try (with_reducible rfl))
     simp only [List.set_cons_zero,List.set_cons_succ];refine aI 4 19 32 (v:=?v2_4) rfl (by kernel_rfl) (by kernel_rfl) (by kernel_rfl) (by kernel_rfl) (by kernel_rfl) (fun _ _ _ _ h=>h) (by kernel_rfl) ?hy2_4 hH ?_
     case hy2_4=>(intro w' hSw;go_simp;try (with_reducible rfl))
     simp only [List.set_cons_zero,List.set_cons_succ];refine aI 5 20 31 (v:=?v2_5) rfl (by kernel_rfl) (by kernel_rfl) (by kernel_rfl) (by kernel_rfl) (by kernel_rfl) (fun _ _ _ _ h=>h) (by kernel_rfl) ?hy2_5 hH ?_
     case hy2_5=>(intro w' hSw;go_simp;try (with_reducible rfl))
     simp only [List.set_cons_zero,List.set_cons_succ];refine aI 6 21 30 (v:=?v2_6) rfl (by kernel_rfl) (by kernel_rfl) (by kernel_rfl) (by kernel_rfl) (by kernel_rfl) (fun _ _ _ _ h=>h) (by kernel_rfl) ?hy2_6 hH ?_
     case hy2_6=>(intro w' hSw;go_simp;try (with_reducible rfl))
     simp only [List.set_cons_zero,List.set_cons_succ];refine aI 7 22 29 (v:=?v2_7) rfl (by kernel_rfl) (by kernel_rfl) (by kernel_rfl) (by kernel_rfl) (by kernel_rfl) (fun _ _ _ _ h=>h) (by kernel_rfl) ?hy2_7 hH ?_
     case hy2_7=>(intro w' hSw;go_simp;try (with_reducible rfl))
     simp only [List.set_cons_zero,List.set_cons_succ];refine aI 8 23 28 (v:=?v2_8) rfl (by kernel_rfl) (by kernel_rfl) (by kernel_rfl) (by kernel_rfl) (by kernel_rfl) (fun _ _ _ _ h=>h) (by kernel_rfl) ?hy2_8 hH ?_
     case hy2_8=>(intro w' hSw;go_simp;try (with_reducible rfl))
     simp only [List.set_cons_zero,List.set_cons_succ];refine wpAnyH_ready (rs:=[9]) (by kernel_rfl) (by simp) ?_;refine AllReadyH.cons (o:=_) rfl (fun K hK=>?st2_9) AllReadyH.nil;go_simp
     go_at_call 264;(first | (with_reducible refine (fT HW.out HP.out (show 0<l.length by omega) (show m-1<l.length by omega) _).mono ?_) | (with_reducible refine (fT HW.out HP.out (show m-1<l.length by omega) hlt _).mono ?_) | (with_reducible refine (fT HW.out HP.out hlt (show 0<l.length by omega) _).mono ?_));rintro e w9 ⟨rfl,hb9⟩
     refine hK.out _ _ ?hs2_9 (fun hH2=>?hr2_9)
     case hs2_9=>(obtain ⟨q0,q1,q2,q3,q4,q5,q6,q7,q8⟩:=hH;exact ⟨keepCell hb9 q0,keepCell hb9 q1,keepCell hb9 q2,keepCell hb9 q3,keepCell hb9 q4,keepCell hb9 q5,keepCell hb9 q6,keepCell hb9 q7,ah hb9 q8⟩)
     clear hK K hH;have hH:=hH2;clear hH2
     try simp only [Act.put,List.setIfInBounds_toArray,List.set_cons_zero,List.set_cons_succ]
     refine aI 10 25 26 (v:=?v2_10) rfl (by kernel_rfl) (by kernel_rfl) (by kernel_rfl) (by kernel_rfl) (by kernel_rfl) (fun _ _ _ _ h=>h) (by kernel_rfl) ?hy2_10 hH ?_
     case hy2_10=>(intro w' hSw;go_simp;try (with_reducible rfl))
     simp only [List.set_cons_zero,List.set_cons_succ];refine aI 11 26 25 (v:=?v2_11) rfl (by kernel_rfl) (by kernel_rfl) (by kernel_rfl) (by kernel_rfl) (by kernel_rfl) (fun _ _ _ _ h=>h) (by kernel_rfl) ?hy2_11 hH ?_
     case hy2_11=>(intro w' hSw;go_simp;try (with_reducible rfl))
     simp only [List.set_cons_zero,List.set_cons_succ];refine mV (by kernel_rfl) (fun _ _ _ _ h=>h) hH [(12,27),(13,28),(14,29),(15,30),(16,31),(17,32),(18,33),(19,34),(20,35),(21,36),(22,37),(23,38)] 13 _ _ _ (by kernel_rfl) (by kernel_rfl) ?_;simp only [lC,List.set_cons_zero,List.set_cons_succ];refine aI 24 39 12 (v:=?v2_24) rfl (by kernel_rfl) (by kernel_rfl) (by kernel_rfl) (by kernel_rfl) (by kernel_rfl) (fun _ _ _ _ h=>h) (by kernel_rfl) ?hy2_24 hH ?_
     case hy2_24=>(intro w' hSw;go_simp;try (with_reducible rfl))
     simp only [List.set_cons_zero,List.set_cons_succ];refine aI 25 40 11 (v:=?v2_25) rfl (by kernel_rfl) (by kernel_rfl) (by kernel_rfl) (by kernel_rfl) (by kernel_rfl) (fun _ _ _ _ h=>h) (by kernel_rfl) ?hy2_25 hH ?_
     case hy2_25=>(intro w' hSw;go_simp;try (with_reducible rfl))
     simp only [List.set_cons_zero,List.set_cons_succ];refine mV (by kernel_rfl) (fun _ _ _ _ h=>h) hH [(26,41),(27,42),(28,43),(29,44),(30,45),(31,46),(32,47),(33,48),(34,49),(35,50)] 1 _ _ _ (by kernel_rfl) (by kernel_rfl) ?_;simp only [lC,List.set_cons_zero,List.set_cons_succ];refine aI 36 51 0 (v:=?v2_36) rfl (by kernel_rfl) (by kernel_rfl) (by kernel_rfl) (by kernel_rfl) (by kernel_rfl) (fun _ _ _ _ h=>h) (by kernel_rfl) ?hy2_36 hH ?_
     case hy2_36=>(intro w' hSw;go_simp;try (with_reducible rfl))
     simp only [List.set_cons_zero,List.set_cons_succ];refine wpAnyH_done (by kernel_rfl) ?_ _;refine NoPanic.normal ?_;go_wp2
     go_split_ands
     go_roundw
     case rel=>exact ⟨m+1,by omega,by omega,by go_num,mO HN.out HF.out,by assumption,by assumption,by assumption⟩
     case measure=>simp [intOf];omega
   ·have hge : l.length ≤ m := by omega
    clear kp kq;go_wp2
    go_returns
    exact aY (zy (by have:=HN.out;rwa [show m=l.length by omega] at this)).symm hB



theorem Sl.of4 {w : World} {g c : Nat} (a b p q r s u v : Int) (h0 : w.cell? ⟨g, 0, none⟩ = some (.int .i64 a)) (h1 : w.cell? ⟨g, 1, none⟩ = some (.int .i64 b)) (h2 : w.cell? ⟨g, 2, none⟩ = some (.int .i64 p)) (h3 : w.cell? ⟨g, 3, none⟩ = some (.int .i64 q))
  (h4:w.cell? ⟨g,4,none⟩=some (.int .i64 r)) (h5:w.cell? ⟨g,5,none⟩=some (.int .i64 s)) (h6:w.cell? ⟨g,6,none⟩=some (.int .i64 u)) (h7:w.cell? ⟨g,7,none⟩=some (.int .i64 v)) (hc:4≤c) (hc2:c≤9223372036854775807):Sl w (some ⟨g,0,none⟩) 4 c [(a,b),(p,q),(r,s),(u,v)]:=by
 refine ⟨rfl,hc,hc2,fun _=>⟨g,0,rfl,lt_of_cell h0,fun j hj=>?_,fun j hj=>?_⟩⟩
 ·match j,hj with
  | 0,_=>exact h0
  | 1,_=>exact h2
  | 2,_=>exact h4
  | 3,_=>exact h6
 ·match j,hj with
  | 0,_=>exact h1
  | 1,_=>exact h3
  | 2,_=>exact h5
  | 3,_=>exact h7
def IL (x y s:Int):List V:=[(x*65536,y*65536),(x*65536+s*65536,y*65536),(x*65536+s*65536,y*65536+s*65536),(x*65536,y*65536+s*65536)]
end
end Go.Proofs.YtokgmcomgflloaaGreat
