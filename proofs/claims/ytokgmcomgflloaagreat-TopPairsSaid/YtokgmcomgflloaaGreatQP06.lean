/- Parts of a proof: contracts and laws. -/
import Derived.Test.YtokgmcomgflloaaGreatQP05
import Derived.Test.YtokgmcomgflloaaGreatQP02
import Derived.Deep.DeepCutAuto
import Derived.Test.YtokgmcomgflloaaGreatQP03
set_option maxRecDepth 100000
set_option maxHeartbeats 16000000
namespace Go.Proofs.YtokgmcomgflloaaGreat
section
set_option linter.unusedVariables false
set_option linter.unusedSimpArgs false
open Go.RowKit
variable {w0 w w':World}
def fT (l:List V):Int:=if aP l≠0 then aP l else if aF 2097152 l=false then 1 else if oq l=false∨hasB l 0 0=false then 3 else 0
theorem L9 (m:Int) (l:List V):l.any (fun p => !aL m p.1 p.2) = !aF m l:=nU m l
theorem Dw (A:Option Addr) (n c:Nat) (l:List V) (w:World) (hS:Sl w A n c l):Calls Tryz.prog 150 #[.slice A n c] w (dS (.int .i64 (fT l)) w):=by
 have HS:=hid hS;clear hS
 by_cases hE:aP l=0
 ·obtain ⟨h8, h3, hw, _⟩ := aU hE;have HW:=hid hw;have HE:=hid hE;have HSE:Hid (fT l=if aF 2097152 l=false then 1 else if oq l=false∨hasB l 0 0=false then 3 else 0):=by show _=_;unfold fT;rw [if_neg (by simp [hE])]
  clear hw hE
  go_enter Tryz.func150,Tryz.ntmps150
  go_wp2_with fail
  refine (fZ _ _ _ l _ HS.out).mono ?_;rintro e w1 ⟨rfl,hb1⟩;rw [HE.out];have HS1:=hid (HS.out.below hb1)
  go_wp2_with fail
  refine (tu _ (fun p => !aL 2097152 p.1 p.2) Je BA _ _ _ l _ HS1.out).mono ?_;rintro e w2 ⟨rfl,hb2⟩;rw [L9];have HS2:=hid (HS1.out.below hb2);have hB2:=aj hb2 hb1;clear hb1 hb2 HS1 HS
  cases hin:aF 2097152 l with
  | false =>
   have HR:Hid (fT l=1):=by show _=_;rw [HSE.out,if_pos hin]
   clear hin HSE;go_wp2
   go_returns
   exact aH HR.out.symm hB2
  | true =>
   have HSF:Hid (fT l=if oq l=false∨hasB l 0 0=false then 3 else 0):=by show _=_;rw [HSE.out,if_neg (by simp [hin])]
   clear hin HSE
   go_wp2_with fail
   refine (IV _ _ _ l _ HS2.out HW.out h3 h8).mono ?_;rintro e w3 ⟨rfl,hb3⟩;have HS3:=hid (HS2.out.below hb3);have hB3:=aj hb3 hB2;clear hb3 hB2 HS2
   cases hf:oq l with
   | false =>
    have HR:Hid (fT l=3):=by show _=_;rw [HSF.out,if_pos (.inl hf)]
    clear hf HSF;go_wp2
    go_returns
    exact aH HR.out.symm hB3
   | true =>
    have HF:=hid hf;clear hf
    go_wp2_with fail
    refine (Jp _ _ _ l 0 0 _ HS3.out).mono ?_;rintro e w4 ⟨rfl,hb4⟩;have hB4:=aj hb4 hB3;clear hb4 hB3 HS3
    cases hh:hasB l 0 0 with
    | false =>
     have HR:Hid (fT l=3):=by show _=_;rw [HSF.out,if_pos (.inr hh)]
     clear hh HSF;go_wp2
     go_returns
     exact aH HR.out.symm hB4
    | true =>
     have HR:Hid (fT l=0):=by show _=_;rw [HSF.out,if_neg (by rw [HF.out,hh];simp)]
     clear hh HSF HF;go_wp2
     go_returns
     exact aH HR.out.symm hB4
 ·have HR : Hid (fT l = aP l) := by show _ = _; unfold fT; rw [if_pos hE]
  have hne:(aP l != 0)=true:=by simp [hE]
  clear hE
  go_enter Tryz.func150,Tryz.ntmps150
  go_wp2_with fail
  refine (fZ _ _ _ l _ HS.out).mono ?_;rintro e w1 ⟨rfl,hb1⟩;go_wp2
  go_returns
  exact aH HR.out.symm hb1

structure Bd where
 px:Int
 py:Int
 vx:Int
 vy:Int
 ang:Int
 spin:Int
 mass:Int
 iner:Int
 bounce:Int
 rub:Int
 asleep:Bool
 calm:Int
abbrev gH (b:Bd) (A:Option Addr) (n c:Nat):Value:=.agg #[.int .i64 b.px,.int .i64 b.py,.int .i64 b.vx,.int .i64 b.vy,.int .i64 b.ang,.int .i64 b.spin,.int .i64 b.mass,.int .i64 b.iner,.int .i64 b.bounce,.int .i64 b.rub,.slice A n c,.bool b.asleep,.int .i64 b.calm]

structure aW (w : World) (g : Nat) (b : Bd) (A : Option Addr) (n c : Nat) : Prop where
 c0:w.cell? ⟨g,0,none⟩=some (.int .i64 b.px)
 c1:w.cell? ⟨g,1,none⟩=some (.int .i64 b.py)
 c2:w.cell? ⟨g,2,none⟩=some (.int .i64 b.vx)
 c3:w.cell? ⟨g,3,none⟩=some (.int .i64 b.vy)
 c4:w.cell? ⟨g,4,none⟩=some (.int .i64 b.ang)
 c5:w.cell? ⟨g,5,none⟩=some (.int .i64 b.spin)
 c6:w.cell? ⟨g,6,none⟩=some (.int .i64 b.mass)
 c7:w.cell? ⟨g,7,none⟩=some (.int .i64 b.iner)
 c8:w.cell? ⟨g,8,none⟩=some (.int .i64 b.bounce)
 c9:w.cell? ⟨g,9,none⟩=some (.int .i64 b.rub)
 c10:w.cell? ⟨g,10,none⟩=some (.slice A n c)
 c11:w.cell? ⟨g,11,none⟩=some (.bool b.asleep)
 c12:w.cell? ⟨g,12,none⟩=some (.int .i64 b.calm)
 free:∀ j,w.frozen? ⟨g,j,none⟩=false
theorem aW.lt {g:Nat} {b:Bd} {A:Option Addr} {n c:Nat} (h:aW w g b A n c):g<w.heap.size:=lt_of_cell h.c0
theorem eD {g:Nat} {b:Bd} {A:Option Addr} {n c:Nat} (hb:Below w.heap.size w w') (h:aW w g b A n c):aW w' g b A n c :=
 ⟨keepCell hb h.c0,keepCell hb h.c1,keepCell hb h.c2,keepCell hb h.c3,keepCell hb h.c4,keepCell hb h.c5,keepCell hb h.c6,keepCell hb h.c7,keepCell hb h.c8,keepCell hb h.c9,keepCell hb h.c10,keepCell hb h.c11,keepCell hb h.c12,fun j=>((cO hb).2 _ _ h.lt).trans (h.free j)⟩
theorem aW.here (w:World) (b:Bd) (A:Option Addr) (n c:Nat) (t:TypeId):aW (w.alloc (.cells #[.int .i64 b.px,.int .i64 b.py,.int .i64 b.vx,.int .i64 b.vy,.int .i64 b.ang,.int .i64 b.spin,.int .i64 b.mass,.int .i64 b.iner,.int .i64 b.bounce,.int .i64 b.rub,.slice A n c,.bool b.asleep,.int .i64 b.calm] t)) w.heap.size b A n c :=
 ⟨by go_simp,by go_simp,by go_simp,by go_simp,by go_simp,by go_simp,by go_simp,by go_simp,by go_simp,by go_simp,by go_simp,by go_simp,by go_simp,fun j=>by go_simp⟩
theorem aW.drew {g:Nat} {b:Bd} {A:Option Addr} {n c:Nat} (h:aW w g b A n c):aW w.drew g b A n c :=
 ⟨h.c0,h.c1,h.c2,h.c3,h.c4,h.c5,h.c6,h.c7,h.c8,h.c9,h.c10,h.c11,h.c12,h.free⟩
theorem aW.alloc {g:Nat} {b:Bd} {A:Option Addr} {n c:Nat} (h:aW w g b A n c) (o:Obj):aW (w.alloc o) g b A n c:=eD Ba h
def jh (b:Bd):Bool:=decide (b.vx=0∧b.vy=0∧b.spin=0)
def nO (b:Bd):Int :=
 if aL 58982400 b.px b.py && aL 268435456 b.vx b.vy && pF b.spin (-16777216) 16777216 && pF b.ang 0 65535 then
  if pF b.mass 0 1099511627776 && pF b.iner 0 1099511627776 && pF b.bounce 0 65536 && pF b.rub 0 65536 && pF b.calm 0 1000 then
   if ((b.mass == 0) != (b.iner == 0)) || (b.mass == 0) && (!jh b || b.asleep || (b.calm != 0)) || b.asleep && !jh b then 3 else 0
  else 1
 else 1

def bG (b:Bd) (l:List V):Int:=if fT l≠0 then fT l else nO b
theorem nH (b:Bd) (A:Option Addr) (n c:Nat) (l:List V) (w:World) (hS:Sl w A n c l):Calls Tryz.prog 88 #[gH b A n c] w (dS (.int .i64 (bG b l)) w):=by
 obtain ⟨W,hW⟩:∃ W,W=w.alloc (.cells #[.int .i64 b.px,.int .i64 b.py,.int .i64 b.vx,.int .i64 b.vy,.int .i64 b.ang,.int .i64 b.spin,.int .i64 b.mass,.int .i64 b.iner,.int .i64 b.bounce,.int .i64 b.rub,.slice A n c,.bool b.asleep,.int .i64 b.calm] 27):=⟨_,rfl⟩;have HK:=hid (show aW W w.heap.size b A n c by rw [hW];exact aW.here w b A n c _);have hB:Below w.heap.size w W:=by rw [hW];go_grown
 have HS0:=hid (hS.below hB);clear hS
 go_enter Tryz.func88,Tryz.ntmps88
 go_wp2_with fail
 rw [← hW];clear hW;refine (Dw _ _ _ l _ HS0.out).mono ?_;rintro e w1 ⟨rfl,hb1⟩;have HK1:=hid (eD hb1 HK.out);have hB1:=aj hb1 hB;clear hb1 HK hB HS0
 by_cases hE:fT l=0
 ·have HBE : Hid (bG b l = nO b) := by show _ = _; unfold bG; rw [if_neg (by simp [hE])]
  rw [hE];clear hE;obtain ⟨k0,k1,k2,k3,k4,k5,k6,k7,k8,k9,k10,k11,k12,_⟩:=HK1.out
  go_wp2_with fail
  refine (lT _ _ _ _ (by omega) (by omega)).mono ?_;rintro e w2 ⟨rfl,hb2⟩;have HK2:=hid (eD hb2 HK1.out);have hB2:=aj hb2 hB1;clear hb2 HK1 hB1 k0 k1 k2 k3 k4 k5 k6 k7 k8 k9 k10 k11 k12
  cases h0:aL 58982400 b.px b.py with
  | false =>
   have HR:Hid (bG b l=1):=by show _=_;rw [HBE.out];simp [nO,h0]
   clear h0 HBE;go_wp2
   go_returns
   exact aH HR.out.symm hB2
  | true =>
   have H0:=hid h0;clear h0;obtain ⟨k0,k1,k2,k3,k4,k5,k6,k7,k8,k9,k10,k11,k12,_⟩:=HK2.out
   go_wp2_with fail
   refine (lT _ _ _ _ (by omega) (by omega)).mono ?_;rintro e w3 ⟨rfl,hb3⟩;have HK3:=hid (eD hb3 HK2.out);have hB3:=aj hb3 hB2;clear hb3 HK2 hB2 k0 k1 k2 k3 k4 k5 k6 k7 k8 k9 k10 k11 k12
   cases h1:aL 268435456 b.vx b.vy with
   | false =>
    have HR:Hid (bG b l=1):=by show _=_;rw [HBE.out];simp [nO,h1,H0.out]
    clear h1 HBE;go_wp2
    go_returns
    exact aH HR.out.symm hB3
   | true =>
    have H1:=hid h1;clear h1;obtain ⟨k0,k1,k2,k3,k4,k5,k6,k7,k8,k9,k10,k11,k12,_⟩:=HK3.out
    go_wp2_with fail
    refine (kQ _ _ _ _).mono ?_;rintro e w4 ⟨rfl,hb4⟩;have HK4:=hid (eD hb4 HK3.out);have hB4:=aj hb4 hB3;clear hb4 HK3 hB3 k0 k1 k2 k3 k4 k5 k6 k7 k8 k9 k10 k11 k12
    cases h2:pF b.spin (-16777216) 16777216 with
    | false =>
     have HR:Hid (bG b l=1):=by show _=_;rw [HBE.out];simp [nO,h2,H0.out,H1.out]
     clear h2 HBE;go_wp2
     go_returns
     exact aH HR.out.symm hB4
    | true =>
     have H2:=hid h2;clear h2;obtain ⟨k0,k1,k2,k3,k4,k5,k6,k7,k8,k9,k10,k11,k12,_⟩:=HK4.out
     go_wp2_with fail
     refine (kQ _ _ _ _).mono ?_;rintro e w5 ⟨rfl,hb5⟩;have HK5:=hid (eD hb5 HK4.out);have hB5:=aj hb5 hB4;clear hb5 HK4 hB4 k0 k1 k2 k3 k4 k5 k6 k7 k8 k9 k10 k11 k12
     cases h3:pF b.ang 0 65535 with
     | false =>
      have HR:Hid (bG b l=1):=by show _=_;rw [HBE.out];simp [nO,h3,H0.out,H1.out,H2.out]
      clear h3 HBE;go_wp2
      go_returns
      exact aH HR.out.symm hB5
     | true =>
      have H3:=hid h3;clear h3;obtain ⟨k0,k1,k2,k3,k4,k5,k6,k7,k8,k9,k10,k11,k12,_⟩:=HK5.out
      go_wp2_with fail
      refine (kQ _ _ _ _).mono ?_;rintro e w6 ⟨rfl,hb6⟩;have HK6:=hid (eD hb6 HK5.out);have hB6:=aj hb6 hB5;clear hb6 HK5 hB5 k0 k1 k2 k3 k4 k5 k6 k7 k8 k9 k10 k11 k12
      cases h4:pF b.mass 0 1099511627776 with
      | false =>
       have HR:Hid (bG b l=1):=by show _=_;rw [HBE.out];simp [nO,h4,H0.out,H1.out,H2.out,H3.out]
       clear h4 HBE;go_wp2
       go_returns
       exact aH HR.out.symm hB6
      | true =>
       have H4:=hid h4;clear h4;obtain ⟨k0,k1,k2,k3,k4,k5,k6,k7,k8,k9,k10,k11,k12,_⟩:=HK6.out
       go_wp2_with fail
       refine (kQ _ _ _ _).mono ?_;rintro e w7 ⟨rfl,hb7⟩;have HK7:=hid (eD hb7 HK6.out);have hB7:=aj hb7 hB6;clear hb7 HK6 hB6 k0 k1 k2 k3 k4 k5 k6 k7 k8 k9 k10 k11 k12
       cases h5:pF b.iner 0 1099511627776 with
       | false =>
        have HR:Hid (bG b l=1):=by show _=_;rw [HBE.out];simp [nO,h5,H0.out,H1.out,H2.out,H3.out,H4.out]
        clear h5 HBE;go_wp2
        go_returns
        exact aH HR.out.symm hB7
       | true =>
        have H5:=hid h5;clear h5;obtain ⟨k0,k1,k2,k3,k4,k5,k6,k7,k8,k9,k10,k11,k12,_⟩:=HK7.out
        go_wp2_with fail
        refine (kQ _ _ _ _).mono ?_;rintro e w8 ⟨rfl,hb8⟩;have HK8:=hid (eD hb8 HK7.out);have hB8:=aj hb8 hB7;clear hb8 HK7 hB7 k0 k1 k2 k3 k4 k5 k6 k7 k8 k9 k10 k11 k12
        cases h6:pF b.bounce 0 65536 with
        | false =>
         have HR:Hid (bG b l=1):=by show _=_;rw [HBE.out];simp [nO,h6,H0.out,H1.out,H2.out,H3.out,H4.out,H5.out]
         clear h6 HBE;go_wp2
         go_returns
         exact aH HR.out.symm hB8
        | true =>
         have H6:=hid h6;clear h6;obtain ⟨k0,k1,k2,k3,k4,k5,k6,k7,k8,k9,k10,k11,k12,_⟩:=HK8.out
         go_wp2_with fail
         refine (kQ _ _ _ _).mono ?_;rintro e w9 ⟨rfl,hb9⟩;have HK9:=hid (eD hb9 HK8.out);have hB9:=aj hb9 hB8;clear hb9 HK8 hB8 k0 k1 k2 k3 k4 k5 k6 k7 k8 k9 k10 k11 k12
         cases h7:pF b.rub 0 65536 with
         | false =>
          have HR:Hid (bG b l=1):=by show _=_;rw [HBE.out];simp [nO,h7,H0.out,H1.out,H2.out,H3.out,H4.out,H5.out,H6.out]
          clear h7 HBE;go_wp2
          go_returns
          exact aH HR.out.symm hB9
         | true =>
          have H7:=hid h7;clear h7;obtain ⟨k0,k1,k2,k3,k4,k5,k6,k7,k8,k9,k10,k11,k12,_⟩:=HK9.out
          go_wp2_with fail
          refine (kQ _ _ _ _).mono ?_;rintro e w10 ⟨rfl,hb10⟩;have HK10:=hid (eD hb10 HK9.out);have hB10:=aj hb10 hB9;clear hb10 HK9 hB9 k0 k1 k2 k3 k4 k5 k6 k7 k8 k9 k10 k11 k12
          cases h8:pF b.calm 0 1000 with
          | false =>
           have HR:Hid (bG b l=1):=by show _=_;rw [HBE.out];simp [nO,h8,H0.out,H1.out,H2.out,H3.out,H4.out,H5.out,H6.out,H7.out]
           clear h8 HBE;go_wp2
           go_returns
           exact aH HR.out.symm hB10
          | true =>
           have H8:=hid h8;clear h8
           have HNE:Hid (bG b l=if ((b.mass == 0) != (b.iner == 0)) || (b.mass == 0) && (!jh b || b.asleep || (b.calm != 0)) || b.asleep && !jh b then 3 else 0):=by
            show _=_;rw [HBE.out];simp only [nO,H0.out,H1.out,H2.out,H3.out,H4.out,H5.out,H6.out,H7.out,H8.out,Bool.and_self,if_true]
           clear HBE H0 H1 H2 H3 H4 H5 H6 H7 H8;obtain ⟨k0,k1,k2,k3,k4,k5,k6,k7,k8,k9,k10,k11,k12,_⟩:=HK10.out
           go_upto_region 9 with fail
           go_cut [5] from 69 to 77 (fun t wx=>t = .bool (jh b)∧wx=w10)
           case first =>
            by_cases v1:b.vx=0
            ·by_cases v2 : b.vy = 0
             ·by_cases v3 : b.spin = 0
              ·have hs : jh b = true := by simp [jh, v1, v2, v3]
               rw [v1] at k2;rw [v2] at k3;rw [v3] at k5;have HSB:=hid hs;clear v1 v2 v3 hs HNE;go_wp2
               go_meet
               exact ⟨by rw [HSB.out],rfl⟩
              ·have hs : jh b = false := by simp [jh, v3]
               have v4:(b.spin == 0)=false:=by simp [v3]
               rw [v1] at k2;rw [v2] at k3;have HSB:=hid hs;clear v1 v2 v3 hs HNE;go_wp2
               go_meet
               exact ⟨by rw [HSB.out],rfl⟩
             ·have hs : jh b = false := by simp [jh, v2]
              have v4:(b.vy == 0)=false:=by simp [v2]
              rw [v1] at k2;have HSB:=hid hs;clear v1 v2 hs HNE;go_wp2
              go_meet
              exact ⟨by rw [HSB.out],rfl⟩
            ·have hs : jh b = false := by simp [jh, v1]
             have v4:(b.vx == 0)=false:=by simp [v1]
             have HSB:=hid hs;clear v1 hs HNE;go_wp2
             go_meet
             exact ⟨by rw [HSB.out],rfl⟩
           case rest =>
            obtain ⟨rfl,hw⟩:=hcut;rw [hw];clear hw wc;generalize jh b=st at HNE ⊢
            cases hm:(b.mass == 0) with
            | true =>
             cases hi:(b.iner == 0) with
             | true =>
              cases st with
              | true =>
               cases ha:b.asleep with
               | true =>
                rw [ha] at k11 HNE;have HR:Hid (bG b l=3):=by show _=_;rw [HNE.out];simp [*]
                clear HNE;go_wp2
                go_returns
                exact aH HR.out.symm hB10
               | false =>
                rw [ha] at k11 HNE;have hc:(b.calm != 0)=true∨(b.calm != 0)=false:=by cases (b.calm != 0) <;> simp
                rcases hc with hc | hc
                ·have HR : Hid (bG b l = 3) := by show _ = _; rw [HNE.out]; simp [*]
                 clear HNE;go_wp2
                 go_returns
                 exact aH HR.out.symm hB10
                ·have HR : Hid (bG b l = 0) := by show _ = _; rw [HNE.out]; simp [*]
                 clear HNE;go_wp2
                 go_returns
                 exact aH HR.out.symm hB10
              | false =>
               have HR:Hid (bG b l=3):=by show _=_;rw [HNE.out];simp [*]
               clear HNE;go_wp2
               go_returns
               exact aH HR.out.symm hB10
             | false =>
              have HR:Hid (bG b l=3):=by show _=_;rw [HNE.out];simp [*]
              clear HNE;go_wp2
              go_returns
              exact aH HR.out.symm hB10
            | false =>
             cases hi:(b.iner == 0) with
             | true =>
              have HR:Hid (bG b l=3):=by show _=_;rw [HNE.out];simp [*]
              clear HNE;go_wp2
              go_returns
              exact aH HR.out.symm hB10
             | false =>
              cases ha:b.asleep with
              | true =>
               rw [ha] at k11 HNE
               cases st with
               | true =>
                have HR:Hid (bG b l=0):=by show _=_;rw [HNE.out];simp [*]
                clear HNE;go_wp2
                go_returns
                exact aH HR.out.symm hB10
               | false =>
                have HR:Hid (bG b l=3):=by show _=_;rw [HNE.out];simp [*]
                clear HNE;go_wp2
                go_returns
                exact aH HR.out.symm hB10
              | false =>
               rw [ha] at k11 HNE;have HR:Hid (bG b l=0):=by show _=_;rw [HNE.out];simp [*]
               clear HNE;go_wp2
               go_returns
               exact aH HR.out.symm hB10
 ·have HR : Hid (bG b l = fT l) := by show _ = _; unfold bG; rw [if_pos hE]
  have hne:(fT l != 0)=true:=by simp [hE]
  clear hE;go_wp2
  go_returns
  exact aH HR.out.symm hB1
end
end Go.Proofs.YtokgmcomgflloaaGreat
