/- Parts of a proof: contracts and laws. -/
import Derived.Test.YtiaoandbdgdecaaGreatPK05
import Derived.Test.YtiaoandbdgdecaaGreatPK03
import Derived.Test.YtiaoandbdgdecaaGreatPK06
import Derived.Deep.DeepCutAuto
import Derived.Test.YtiaoandbdgdecaaGreatPK04
import Derived.Laws.AppendOwn
import Derived.Laws.AppendOwnNone
import Derived.OwnWalk
set_option maxRecDepth 100000
set_option maxHeartbeats 16000000
namespace Go.Proofs.YtiaoandbdgdecaaGreat
section
set_option linter.unusedVariables false
set_option linter.unusedSimpArgs false
open Go.RowKit
def shapeE (l:List V):Int:=if checkE l≠0 then checkE l else if allWithin 2097152 l=false then 1 else if fatB l=false∨hasB l 0 0=false then 3 else 0
theorem any_not' (m:Int) (l:List V):l.any (fun p => !withinB m p.1 p.2) = !allWithin m l:=any_not_within m l
theorem shape_calls (A:Option Addr) (n c:Nat) (l:List V) (w:World) (hS:Sl w A n c l):Calls Tryz.prog 87 #[.slice A n c] w (Ret (.int .i64 (shapeE l)) w):=by
 have HS:=hid hS
 clear hS
 by_cases hE:checkE l=0
 ·obtain ⟨h8, h3, hw, _⟩ := checkE_zero hE
  have HW:=hid hw
  have HE:=hid hE
  have HSE:Hid (shapeE l=if allWithin 2097152 l=false then 1 else if fatB l=false∨hasB l 0 0=false then 3 else 0):=by show _=_;unfold shapeE;rw [if_neg (by simp [hE])]
  clear hw hE
  go_enter Tryz.func87,Tryz.ntmps87
  go_wp2_with fail
  refine (check_calls _ _ _ l _ HS.out).mono ?_
  rintro e w1 ⟨rfl,hb1⟩
  rw [HE.out]
  have HS1:=hid (HS.out.below hb1)
  go_wp2_with fail
  refine (containsFunc_any _ (fun p => !withinB 2097152 p.1 p.2) cf_shape1 shape1_calls _ _ _ l _ HS1.out).mono ?_
  rintro e w2 ⟨rfl,hb2⟩
  rw [any_not']
  have HS2:=hid (HS1.out.below hb2)
  have hB2:=keepBelow hb2 hb1
  clear hb1 hb2 HS1 HS
  cases hin:allWithin 2097152 l with
  | false =>
   have HR:Hid (shapeE l=1):=by show _=_;rw [HSE.out,if_pos hin]
   clear hin HSE
   go_wp2
   go_returns
   exact ret_int HR.out.symm hB2
  | true =>
   have HSF:Hid (shapeE l=if fatB l=false∨hasB l 0 0=false then 3 else 0):=by show _=_;rw [HSE.out,if_neg (by simp [hin])]
   clear hin HSE
   go_wp2_with fail
   refine (fat_calls _ _ _ l _ HS2.out HW.out h3 h8).mono ?_
   rintro e w3 ⟨rfl,hb3⟩
   have HS3:=hid (HS2.out.below hb3)
   have hB3:=keepBelow hb3 hB2
   clear hb3 hB2 HS2
   cases hf:fatB l with
   | false =>
    have HR:Hid (shapeE l=3):=by show _=_;rw [HSF.out,if_pos (.inl hf)]
    clear hf HSF
    go_wp2
    go_returns
    exact ret_int HR.out.symm hB3
   | true =>
    have HF:=hid hf
    clear hf
    go_wp2_with fail
    refine (has_calls _ _ _ l 0 0 _ HS3.out).mono ?_
    rintro e w4 ⟨rfl,hb4⟩
    have hB4:=keepBelow hb4 hB3
    clear hb4 hB3 HS3
    cases hh:hasB l 0 0 with
    | false =>
     have HR:Hid (shapeE l=3):=by show _=_;rw [HSF.out,if_pos (.inr hh)]
     clear hh HSF
     go_wp2
     go_returns
     exact ret_int HR.out.symm hB4
    | true =>
     have HR:Hid (shapeE l=0):=by show _=_;rw [HSF.out,if_neg (by rw [HF.out,hh];simp)]
     clear hh HSF HF
     go_wp2
     go_returns
     exact ret_int HR.out.symm hB4
 ·have HR : Hid (shapeE l = checkE l) := by show _ = _; unfold shapeE; rw [if_pos hE]
  have hne:(checkE l != 0)=true:=by simp [hE]
  clear hE
  go_enter Tryz.func87,Tryz.ntmps87
  go_wp2_with fail
  refine (check_calls _ _ _ l _ HS.out).mono ?_
  rintro e w1 ⟨rfl,hb1⟩
  go_wp2
  go_returns
  exact ret_int HR.out.symm hb1

structure Bd where
 px:Int
 py:Int
 vx:Int
 vy:Int
 ang:Int
 spin:Int
 mass:Int
 iner:Int
 bounce:Int
 rub:Int
 asleep:Bool
 calm:Int
abbrev bodyV (b:Bd) (A:Option Addr) (n c:Nat):Value:=.agg #[.int .i64 b.px,.int .i64 b.py,.int .i64 b.vx,.int .i64 b.vy,.int .i64 b.ang,.int .i64 b.spin,.int .i64 b.mass,.int .i64 b.iner,.int .i64 b.bounce,.int .i64 b.rub,.slice A n c,.bool b.asleep,.int .i64 b.calm]

structure BdAt (w : World) (g : Nat) (b : Bd) (A : Option Addr) (n c : Nat) : Prop where
 c0:w.cell? ⟨g,0,none⟩=some (.int .i64 b.px)
 c1:w.cell? ⟨g,1,none⟩=some (.int .i64 b.py)
 c2:w.cell? ⟨g,2,none⟩=some (.int .i64 b.vx)
 c3:w.cell? ⟨g,3,none⟩=some (.int .i64 b.vy)
 c4:w.cell? ⟨g,4,none⟩=some (.int .i64 b.ang)
 c5:w.cell? ⟨g,5,none⟩=some (.int .i64 b.spin)
 c6:w.cell? ⟨g,6,none⟩=some (.int .i64 b.mass)
 c7:w.cell? ⟨g,7,none⟩=some (.int .i64 b.iner)
 c8:w.cell? ⟨g,8,none⟩=some (.int .i64 b.bounce)
 c9:w.cell? ⟨g,9,none⟩=some (.int .i64 b.rub)
 c10:w.cell? ⟨g,10,none⟩=some (.slice A n c)
 c11:w.cell? ⟨g,11,none⟩=some (.bool b.asleep)
 c12:w.cell? ⟨g,12,none⟩=some (.int .i64 b.calm)
 free:∀ j,w.frozen? ⟨g,j,none⟩=false
theorem BdAt.lt {w:World} {g:Nat} {b:Bd} {A:Option Addr} {n c:Nat} (h:BdAt w g b A n c):g<w.heap.size:=lt_of_cell h.c0
theorem keepBd {w w':World} {g:Nat} {b:Bd} {A:Option Addr} {n c:Nat} (hb:Below w.heap.size w w') (h:BdAt w g b A n c):BdAt w' g b A n c :=
 ⟨keepCell hb h.c0,keepCell hb h.c1,keepCell hb h.c2,keepCell hb h.c3,keepCell hb h.c4,keepCell hb h.c5,keepCell hb h.c6,keepCell hb h.c7,keepCell hb h.c8,keepCell hb h.c9,keepCell hb h.c10,keepCell hb h.c11,keepCell hb h.c12,fun j=>((bcell hb).2 _ _ h.lt).trans (h.free j)⟩
theorem BdAt.here (w:World) (b:Bd) (A:Option Addr) (n c:Nat) (t:TypeId):BdAt (w.alloc (.cells #[.int .i64 b.px,.int .i64 b.py,.int .i64 b.vx,.int .i64 b.vy,.int .i64 b.ang,.int .i64 b.spin,.int .i64 b.mass,.int .i64 b.iner,.int .i64 b.bounce,.int .i64 b.rub,.slice A n c,.bool b.asleep,.int .i64 b.calm] t)) w.heap.size b A n c :=
 ⟨by go_simp,by go_simp,by go_simp,by go_simp,by go_simp,by go_simp,by go_simp,by go_simp,by go_simp,by go_simp,by go_simp,by go_simp,by go_simp,fun j=>by go_simp⟩
theorem BdAt.drew {w:World} {g:Nat} {b:Bd} {A:Option Addr} {n c:Nat} (h:BdAt w g b A n c):BdAt w.drew g b A n c :=
 ⟨h.c0,h.c1,h.c2,h.c3,h.c4,h.c5,h.c6,h.c7,h.c8,h.c9,h.c10,h.c11,h.c12,h.free⟩
theorem BdAt.alloc {w:World} {g:Nat} {b:Bd} {A:Option Addr} {n c:Nat} (h:BdAt w g b A n c) (o:Obj):BdAt (w.alloc o) g b A n c:=keepBd Ba h
def stillB (b:Bd):Bool:=decide (b.vx=0∧b.vy=0∧b.spin=0)
def numE (b:Bd):Int :=
 if withinB 58982400 b.px b.py && withinB 268435456 b.vx b.vy && inB b.spin (-16777216) 16777216 && inB b.ang 0 65535 then
  if inB b.mass 0 1099511627776 && inB b.iner 0 1099511627776 && inB b.bounce 0 65536 && inB b.rub 0 65536 && inB b.calm 0 1000 then
   if ((b.mass == 0) != (b.iner == 0)) || (b.mass == 0) && (!stillB b || b.asleep || (b.calm != 0)) || b.asleep && !stillB b then 3 else 0
  else 1
 else 1

def bodyE (b:Bd) (l:List V):Int:=if shapeE l≠0 then shapeE l else numE b
theorem bcheck_calls (b:Bd) (A:Option Addr) (n c:Nat) (l:List V) (w:World) (hS:Sl w A n c l):Calls Tryz.prog 45 #[bodyV b A n c] w (Ret (.int .i64 (bodyE b l)) w):=by
 obtain ⟨W,hW⟩:∃ W,W=w.alloc (.cells #[.int .i64 b.px,.int .i64 b.py,.int .i64 b.vx,.int .i64 b.vy,.int .i64 b.ang,.int .i64 b.spin,.int .i64 b.mass,.int .i64 b.iner,.int .i64 b.bounce,.int .i64 b.rub,.slice A n c,.bool b.asleep,.int .i64 b.calm] 58):=⟨_,rfl⟩
 have HK:=hid (show BdAt W w.heap.size b A n c by rw [hW];exact BdAt.here w b A n c _)
 have hB:Below w.heap.size w W:=by rw [hW];go_grown
 have HS0:=hid (hS.below hB)
 clear hS
 go_enter Tryz.func45,Tryz.ntmps45
 go_wp2_with fail
 rw [← hW]
 clear hW
 refine (shape_calls _ _ _ l _ HS0.out).mono ?_
 rintro e w1 ⟨rfl,hb1⟩
 have HK1:=hid (keepBd hb1 HK.out)
 have hB1:=keepBelow hb1 hB
 clear hb1 HK hB HS0
 by_cases hE:shapeE l=0
 ·have HBE : Hid (bodyE b l = numE b) := by show _ = _; unfold bodyE; rw [if_neg (by simp [hE])]
  rw [hE]
  clear hE
  obtain ⟨k0,k1,k2,k3,k4,k5,k6,k7,k8,k9,k10,k11,k12,_⟩:=HK1.out
  go_wp2_with fail
  refine (bwithin_calls _ _ _ _ (by omega) (by omega)).mono ?_
  rintro e w2 ⟨rfl,hb2⟩
  have HK2:=hid (keepBd hb2 HK1.out)
  have hB2:=keepBelow hb2 hB1
  clear hb2 HK1 hB1 k0 k1 k2 k3 k4 k5 k6 k7 k8 k9 k10 k11 k12
  cases h0:withinB 58982400 b.px b.py with
  | false =>
   have HR:Hid (bodyE b l=1):=by show _=_;rw [HBE.out];simp [numE,h0]
   clear h0 HBE
   go_wp2
   go_returns
   exact ret_int HR.out.symm hB2
  | true =>
   have H0:=hid h0
   clear h0
   obtain ⟨k0,k1,k2,k3,k4,k5,k6,k7,k8,k9,k10,k11,k12,_⟩:=HK2.out
   go_wp2_with fail
   refine (bwithin_calls _ _ _ _ (by omega) (by omega)).mono ?_
   rintro e w3 ⟨rfl,hb3⟩
   have HK3:=hid (keepBd hb3 HK2.out)
   have hB3:=keepBelow hb3 hB2
   clear hb3 HK2 hB2 k0 k1 k2 k3 k4 k5 k6 k7 k8 k9 k10 k11 k12
   cases h1:withinB 268435456 b.vx b.vy with
   | false =>
    have HR:Hid (bodyE b l=1):=by show _=_;rw [HBE.out];simp [numE,h1,H0.out]
    clear h1 HBE
    go_wp2
    go_returns
    exact ret_int HR.out.symm hB3
   | true =>
    have H1:=hid h1
    clear h1
    obtain ⟨k0,k1,k2,k3,k4,k5,k6,k7,k8,k9,k10,k11,k12,_⟩:=HK3.out
    go_wp2_with fail
    refine (in_calls _ _ _ _).mono ?_
    rintro e w4 ⟨rfl,hb4⟩
    have HK4:=hid (keepBd hb4 HK3.out)
    have hB4:=keepBelow hb4 hB3
    clear hb4 HK3 hB3 k0 k1 k2 k3 k4 k5 k6 k7 k8 k9 k10 k11 k12
    cases h2:inB b.spin (-16777216) 16777216 with
    | false =>
     have HR:Hid (bodyE b l=1):=by show _=_;rw [HBE.out];simp [numE,h2,H0.out,H1.out]
     clear h2 HBE
     go_wp2
     go_returns
     exact ret_int HR.out.symm hB4
    | true =>
     have H2:=hid h2
     clear h2
     obtain ⟨k0,k1,k2,k3,k4,k5,k6,k7,k8,k9,k10,k11,k12,_⟩:=HK4.out
     go_wp2_with fail
     refine (in_calls _ _ _ _).mono ?_
     rintro e w5 ⟨rfl,hb5⟩
     have HK5:=hid (keepBd hb5 HK4.out)
     have hB5:=keepBelow hb5 hB4
     clear hb5 HK4 hB4 k0 k1 k2 k3 k4 k5 k6 k7 k8 k9 k10 k11 k12
     cases h3:inB b.ang 0 65535 with
     | false =>
      have HR:Hid (bodyE b l=1):=by show _=_;rw [HBE.out];simp [numE,h3,H0.out,H1.out,H2.out]
      clear h3 HBE
      go_wp2
      go_returns
      exact ret_int HR.out.symm hB5
     | true =>
      have H3:=hid h3
      clear h3
      obtain ⟨k0,k1,k2,k3,k4,k5,k6,k7,k8,k9,k10,k11,k12,_⟩:=HK5.out
      go_wp2_with fail
      refine (in_calls _ _ _ _).mono ?_
      rintro e w6 ⟨rfl,hb6⟩
      have HK6:=hid (keepBd hb6 HK5.out)
      have hB6:=keepBelow hb6 hB5
      clear hb6 HK5 hB5 k0 k1 k2 k3 k4 k5 k6 k7 k8 k9 k10 k11 k12
      cases h4:inB b.mass 0 1099511627776 with
      | false =>
       have HR:Hid (bodyE b l=1):=by show _=_;rw [HBE.out];simp [numE,h4,H0.out,H1.out,H2.out,H3.out]
       clear h4 HBE
       go_wp2
       go_returns
       exact ret_int HR.out.symm hB6
      | true =>
       have H4:=hid h4
       clear h4
       obtain ⟨k0,k1,k2,k3,k4,k5,k6,k7,k8,k9,k10,k11,k12,_⟩:=HK6.out
       go_wp2_with fail
       refine (in_calls _ _ _ _).mono ?_
       rintro e w7 ⟨rfl,hb7⟩
       have HK7:=hid (keepBd hb7 HK6.out)
       have hB7:=keepBelow hb7 hB6
       clear hb7 HK6 hB6 k0 k1 k2 k3 k4 k5 k6 k7 k8 k9 k10 k11 k12
       cases h5:inB b.iner 0 1099511627776 with
       | false =>
        have HR:Hid (bodyE b l=1):=by show _=_;rw [HBE.out];simp [numE,h5,H0.out,H1.out,H2.out,H3.out,H4.out]
        clear h5 HBE
        go_wp2
        go_returns
        exact ret_int HR.out.symm hB7
       | true =>
        have H5:=hid h5
        clear h5
        obtain ⟨k0,k1,k2,k3,k4,k5,k6,k7,k8,k9,k10,k11,k12,_⟩:=HK7.out
        go_wp2_with fail
        refine (in_calls _ _ _ _).mono ?_
        rintro e w8 ⟨rfl,hb8⟩
        have HK8:=hid (keepBd hb8 HK7.out)
        have hB8:=keepBelow hb8 hB7
        clear hb8 HK7 hB7 k0 k1 k2 k3 k4 k5 k6 k7 k8 k9 k10 k11 k12
        cases h6:inB b.bounce 0 65536 with
        | false =>
         have HR:Hid (bodyE b l=1):=by show _=_;rw [HBE.out];simp [numE,h6,H0.out,H1.out,H2.out,H3.out,H4.out,H5.out]
         clear h6 HBE
         go_wp2
         go_returns
         exact ret_int HR.out.symm hB8
        | true =>
         have H6:=hid h6
         clear h6
         obtain ⟨k0,k1,k2,k3,k4,k5,k6,k7,k8,k9,k10,k11,k12,_⟩:=HK8.out
         go_wp2_with fail
         refine (in_calls _ _ _ _).mono ?_
         rintro e w9 ⟨rfl,hb9⟩
         have HK9:=hid (keepBd hb9 HK8.out)
         have hB9:=keepBelow hb9 hB8
         clear hb9 HK8 hB8 k0 k1 k2 k3 k4 k5 k6 k7 k8 k9 k10 k11 k12
         cases h7:inB b.rub 0 65536 with
         | false =>
          have HR:Hid (bodyE b l=1):=by show _=_;rw [HBE.out];simp [numE,h7,H0.out,H1.out,H2.out,H3.out,H4.out,H5.out,H6.out]
          clear h7 HBE
          go_wp2
          go_returns
          exact ret_int HR.out.symm hB9
         | true =>
          have H7:=hid h7
          clear h7
          obtain ⟨k0,k1,k2,k3,k4,k5,k6,k7,k8,k9,k10,k11,k12,_⟩:=HK9.out
          go_wp2_with fail
          refine (in_calls _ _ _ _).mono ?_
          rintro e w10 ⟨rfl,hb10⟩
          have HK10:=hid (keepBd hb10 HK9.out)
          have hB10:=keepBelow hb10 hB9
          clear hb10 HK9 hB9 k0 k1 k2 k3 k4 k5 k6 k7 k8 k9 k10 k11 k12
          cases h8:inB b.calm 0 1000 with
          | false =>
           have HR:Hid (bodyE b l=1):=by show _=_;rw [HBE.out];simp [numE,h8,H0.out,H1.out,H2.out,H3.out,H4.out,H5.out,H6.out,H7.out]
           clear h8 HBE
           go_wp2
           go_returns
           exact ret_int HR.out.symm hB10
          | true =>
           have H8:=hid h8
           clear h8
           have HNE:Hid (bodyE b l=if ((b.mass == 0) != (b.iner == 0)) || (b.mass == 0) && (!stillB b || b.asleep || (b.calm != 0)) || b.asleep && !stillB b then 3 else 0):=by
            show _=_
            rw [HBE.out]
            simp only [numE,H0.out,H1.out,H2.out,H3.out,H4.out,H5.out,H6.out,H7.out,H8.out,Bool.and_self,if_true]
           clear HBE H0 H1 H2 H3 H4 H5 H6 H7 H8
           obtain ⟨k0,k1,k2,k3,k4,k5,k6,k7,k8,k9,k10,k11,k12,_⟩:=HK10.out
           go_upto_region 9 with fail
           go_cut [5] from 69 to 77 (fun t wx=>t = .bool (stillB b)∧wx=w10)
           case first =>
            by_cases v1:b.vx=0
            ·by_cases v2 : b.vy = 0
             ·by_cases v3 : b.spin = 0
              ·have hs : stillB b = true := by simp [stillB, v1, v2, v3]
               rw [v1] at k2
               rw [v2] at k3
               rw [v3] at k5
               have HSB:=hid hs
               clear v1 v2 v3 hs HNE
               go_wp2
               go_meet
               exact ⟨by rw [HSB.out],rfl⟩
              ·have hs : stillB b = false := by simp [stillB, v3]
               have v4:(b.spin == 0)=false:=by simp [v3]
               rw [v1] at k2
               rw [v2] at k3
               have HSB:=hid hs
               clear v1 v2 v3 hs HNE
               go_wp2
               go_meet
               exact ⟨by rw [HSB.out],rfl⟩
             ·have hs : stillB b = false := by simp [stillB, v2]
              have v4:(b.vy == 0)=false:=by simp [v2]
              rw [v1] at k2
              have HSB:=hid hs
              clear v1 v2 hs HNE
              go_wp2
              go_meet
              exact ⟨by rw [HSB.out],rfl⟩
            ·have hs : stillB b = false := by simp [stillB, v1]
             have v4:(b.vx == 0)=false:=by simp [v1]
             have HSB:=hid hs
             clear v1 hs HNE
             go_wp2
             go_meet
             exact ⟨by rw [HSB.out],rfl⟩
           case rest =>
            obtain ⟨rfl,hw⟩:=hcut
            rw [hw]
            clear hw wc
            generalize stillB b=st at HNE ⊢
            cases hm:(b.mass == 0) with
            | true =>
             cases hi:(b.iner == 0) with
             | true =>
              cases st with
              | true =>
               cases ha:b.asleep with
               | true =>
                rw [ha] at k11 HNE
                have HR:Hid (bodyE b l=3):=by show _=_;rw [HNE.out];simp [*]
                clear HNE
                go_wp2
                go_returns
                exact ret_int HR.out.symm hB10
               | false =>
                rw [ha] at k11 HNE
                have hc:(b.calm != 0)=true∨(b.calm != 0)=false:=by cases (b.calm != 0) <;> simp
                rcases hc with hc | hc
                ·have HR : Hid (bodyE b l = 3) := by show _ = _; rw [HNE.out]; simp [*]
                 clear HNE
                 go_wp2
                 go_returns
                 exact ret_int HR.out.symm hB10
                ·have HR : Hid (bodyE b l = 0) := by show _ = _; rw [HNE.out]; simp [*]
                 clear HNE
                 go_wp2
                 go_returns
                 exact ret_int HR.out.symm hB10
              | false =>
               have HR:Hid (bodyE b l=3):=by show _=_;rw [HNE.out];simp [*]
               clear HNE
               go_wp2
               go_returns
               exact ret_int HR.out.symm hB10
             | false =>
              have HR:Hid (bodyE b l=3):=by show _=_;rw [HNE.out];simp [*]
              clear HNE
              go_wp2
              go_returns
              exact ret_int HR.out.symm hB10
            | false =>
             cases hi:(b.iner == 0) with
             | true =>
              have HR:Hid (bodyE b l=3):=by show _=_;rw [HNE.out];simp [*]
              clear HNE
              go_wp2
              go_returns
              exact ret_int HR.out.symm hB10
             | false =>
              cases ha:b.asleep with
              | true =>
               rw [ha] at k11 HNE
               cases st with
               | true =>
                have HR:Hid (bodyE b l=0):=by show _=_;rw [HNE.out];simp [*]
                clear HNE
                go_wp2
                go_returns
                exact ret_int HR.out.symm hB10
               | false =>
                have HR:Hid (bodyE b l=3):=by show _=_;rw [HNE.out];simp [*]
                clear HNE
                go_wp2
                go_returns
                exact ret_int HR.out.symm hB10
              | false =>
               rw [ha] at k11 HNE
               have HR:Hid (bodyE b l=0):=by show _=_;rw [HNE.out];simp [*]
               clear HNE
               go_wp2
               go_returns
               exact ret_int HR.out.symm hB10
 ·have HR : Hid (bodyE b l = shapeE l) := by show _ = _; unfold bodyE; rw [if_pos hE]
  have hne:(shapeE l != 0)=true:=by simp [hE]
  clear hE
  go_wp2
  go_returns
  exact ret_int HR.out.symm hB1
end
end Go.Proofs.YtiaoandbdgdecaaGreat
namespace Go.Proofs.YtiaoandbdgdecaaGreat
section
set_option linter.unusedVariables false
set_option linter.unusedSimpArgs false
open Go.RowKit
open Go.ChangeShapes Go.WideShapes Go.ChangeAt Go.RowKit Go.Deep Go.Joins




theorem grown_trans {a b c:World} {row:Option Nat} (h:a.grownBy b row) (k:b.grownBy c row):a.grownBy c row :=
 ⟨k.os.trans h.os,k.tape.trans h.tape,k.output.trans h.output,Nat.le_trans h.size k.size,fun i hi hn=>(k.block i (Nat.lt_of_lt_of_le hi h.size) hn).trans (h.block i hi hn)⟩
theorem grown_of_below {a b:World} {row:Option Nat} (h:Below a.heap.size a b):a.grownBy b row:=⟨h.os,h.tape,h.output,h.size,fun i hi _=>h.block i hi⟩
theorem grown_setCell (w:World) (g o:Nat) (v:Value):w.grownBy (w.setCell ⟨g,o,none⟩ v) (some g) :=
 ⟨rfl,rfl,rfl,by simp [World.setCell],fun k _ hn=>Below.heap_setCell _ _ _ _ (by intro e;exact hn (by rw [e]))⟩
theorem below_of_grown {B:Nat} {a b:World} {g:Nat} (h:a.grownBy b (some g)) (hB:B≤a.heap.size) (hg:B≤g):Below B a b :=
 (Below.refl B a).grown h hB (fun k hk=>by cases hk;exact hg)
theorem grown_cell {a b:World} {g k o:Nat} (h:a.grownBy b (some g)) (hk:k≠g) (hl:k<a.heap.size):b.cell? ⟨k,o,none⟩=a.cell? ⟨k,o,none⟩ :=
 World.cell?_of_block (h.block k hl (by intro e;cases e;exact hk rfl))
theorem Cells.grown {w w':World} {b off g:Nat} {l:List V} (h:Cells w b off l) (hg:w.grownBy w' (some g)) (hne:b≠g):Cells w' b off l :=
 ⟨Nat.lt_of_lt_of_le h.lt hg.size,fun j hj=>(grown_cell hg hne h.lt).trans (h.x j hj),fun j hj=>(grown_cell hg hne h.lt).trans (h.y j hj)⟩
theorem Sl.grown {w w':World} {A:Option Addr} {n c g:Nat} {l:List V} (h:Sl w A n c l) (hg:w.grownBy w' (some g)) (hne:∀ b off,A=some ⟨b,off,none⟩→b≠g):Sl w' A n c l :=
 ⟨h.len,h.cap,h.big,fun hl=>by obtain ⟨b,off,rfl,hc⟩:=h.at_ hl;exact ⟨b,off,rfl,hc.grown hg (hne b off rfl)⟩⟩

def flat (l:List V):List Value:=l.flatMap fun p=>[.int .i64 p.1,.int .i64 p.2]
theorem flat_len (l:List V):(flat l).length=l.length*2:=by
 unfold flat
 induction l with
 | nil=>rfl
 | cons a l ih=>simp [List.flatMap_cons,ih];omega
theorem flat_append (l m:List V):flat (l ++ m)=flat l ++ flat m:=by simp [flat,List.flatMap_append]
theorem flat_at (l:List V) (j:Nat) (h:j<l.length):(flat l)[j*2]? = some (.int .i64 (px l j))∧(flat l)[j*2+1]? = some (.int .i64 (py l j)):=by
 induction l generalizing j with
 | nil=>simp at h
 | cons a l ih =>
  match j with
  | 0=>exact ⟨by simp [flat,px,List.flatMap_cons],by simp [flat,py,List.flatMap_cons]⟩
  | j+1 =>
   have:=ih j (by simpa using h)
   have e:flat (a :: l) = .int .i64 a.1 :: .int .i64 a.2 :: flat l:=by simp [flat,List.flatMap_cons]
   rw [e,show (j+1)*2=j*2+1+1 by omega,List.getElem?_cons_succ,List.getElem?_cons_succ,List.getElem?_cons_succ,List.getElem?_cons_succ]
   simpa [px,py] using this
theorem flat_one (l:List V):∀ u ∈ flat l,u.oneCell'=true:=by
 intro u hu
 simp only [flat,List.mem_flatMap] at hu
 obtain ⟨p,_,hp⟩:=hu
 simp at hp
 rcases hp with rfl | rfl <;> rfl
theorem flat_cells {w:World} {b off:Nat} {l:List V} (h:Cells w b off l):∀ j u,(flat l)[j]? = some u→w.cell? ((⟨b,off,none⟩:Addr).add j)=some u:=by
 intro j u hj
 have hlt:j<l.length*2:=by
  have:=(List.getElem?_eq_some_iff.1 hj).1
  rwa [flat_len] at this
 have hk:j / 2<l.length:=by omega
 have ha:=flat_at l (j / 2) hk
 have hadd:(⟨b,off,none⟩:Addr).add j=⟨b,off+j,none⟩:=by unfold Addr.add;split <;> simp_all
 rw [hadd]
 rcases Nat.mod_two_eq_zero_or_one j with e | e
 ·have ej : j = j / 2 * 2 := by omega
  rw [ej] at hj
  rw [ha.1] at hj
  cases hj
  have:=h.x (j / 2) hk
  rwa [← ej] at this
 ·have ej : j = j / 2 * 2 + 1 := by omega
  rw [ej] at hj
  rw [ha.2] at hj
  cases hj
  have:=h.y (j / 2) hk
  rw [Nat.add_assoc,← ej] at this
  exact this

def Own (w:World) (B:Nat) (v:Value) (l:List V):Prop:=w.ownsRow B 27 2 v l.length (flat l)
theorem Own.nil (w:World) (B:Nat):Own w B (.slice none 0 0) []:=World.ownsRow_nil _ _ _ _
theorem Own.kept {w w':World} {B:Nat} {v:Value} {l:List V} {row:Option Nat} (h:Own w B v l) (hg:w.grownBy w' row) (hr:∀ k,row=some k→k<B):Own w' B v l:=by
 refine World.ownsRow.kept h hg ?_
 cases hv:v.ownBlock with
 | none=>exact .inl rfl
 | some k =>
  refine .inr fun e=>?_
  have:=(World.ownsRow.lt h k hv).1
  have:=hr k e.symm
  omega
theorem Own.below {w w':World} {B:Nat} {v:Value} {l:List V} (h:Own w B v l) (hb:Below w.heap.size w w'):Own w' B v l :=
 h.kept (grown_of_below (row:=none) hb) (by simp)
theorem Own.alloc {w:World} {B:Nat} {v:Value} {l:List V} (h:Own w B v l) (o:Obj):Own (w.alloc o) B v l:=World.ownsRow.alloc h o
theorem Own.drew {w:World} {B:Nat} {v:Value} {l:List V} (h:Own w B v l):Own w.drew B v l:=h
theorem Own.sl {w:World} {B:Nat} {v:Value} {l:List V} (h:Own w B v l):∃ A n c,v = .slice A n c∧Sl w A n c l∧∀ b off,A=some ⟨b,off,none⟩→B≤b:=by
 have hc:=fun g hg=>World.ownsRow.cells h (g:=g) hg
 obtain ⟨h1,h2 | ⟨g,cap,cur,rfl,hb,hg,hn,hm,hs,ht⟩⟩:=h
 ·obtain ⟨rfl, h0⟩ := h2
  refine ⟨none,0,0,rfl,⟨h0.symm,by omega,by omega,fun hl=>?_⟩,by simp⟩
  exact absurd (List.length_eq_zero_iff.1 h0) hl
 ·refine ⟨_, _, _, rfl, ⟨rfl, hn, by unfold maxLen at hm; omega, fun _ => ⟨g, 0, rfl, ?_, fun j hj => ?_, fun j hj => ?_⟩⟩, fun b off e => by cases e; exact hb⟩
  ·exact (Array.getElem?_eq_some_iff.1 hg).1
  ·have := hc g rfl (j * 2) _ (flat_at l j hj).1
   have hadd:(⟨g,0,none⟩:Addr).add (j*2)=⟨g,0+j*2,none⟩:=by unfold Addr.add;split <;> simp_all
   rwa [hadd] at this
  ·have := hc g rfl (j * 2 + 1) _ (flat_at l j hj).2
   have hadd:(⟨g,0,none⟩:Addr).add (j*2+1)=⟨g,0+j*2+1,none⟩:=by unfold Addr.add;split <;> simp_all <;> omega
   rwa [hadd] at this
theorem Own.grown {w w':World} {B:Nat} {v:Value} {l:List V} (h:Own w B v l) (hg:w.grownBy w' v.ownBlock) (hB:B≤w.heap.size):Below B w w' :=
 (Below.refl B w).grown hg hB (fun k hk=>(World.ownsRow.lt h k hk).1)
theorem info_vec:(Tryz.prog.info? 27).map (fun i=>(i.zero,i.size,i.bytes))=some (some (.agg #[.int .i64 0,.int .i64 0]),2,16):=by kernel_rfl


theorem step_append_vecs {w : World} {ops : Array Oper} {o : Oper} {a : Act} {K : Act → World → Prop} {Q : Exit → Act → World → Prop} {E : Prop} (hgd : o.guard = none) (s x : Operand)
  (ho:o.op = .call { callee:=.builtin .append,args:=#[s,x],argTypes:=#[56,56] })
  (B:Nat) (v:Value) (l:List V) (hs:a.eval s=v) (hown:Own w B v l) (b off n c:Nat) (m:List V) (hx:a.eval x = .slice (some ⟨b,off,none⟩) n c) (hn:n=m.length) (hc:Cells w b off m)
  (hl:l.length+m.length≤8796093022208) (hB:B≤w.heap.size)
  (h:∀ v' w',Own w' B v' (l ++ m)→w.grownBy w' v.ownBlock→K (a.put o.dst v') w'):if Region.wanted o (yielded ops a.tmps)=true then Oper.wp Tryz.prog o a w K Q else E:=by
 have hw:Region.wanted o (yielded ops a.tmps)=true:=by simp [Region.wanted,hgd]
 rw [if_pos hw]
 obtain ⟨i0,hi,hz0,hz1,hz2⟩:=info_parts info_vec
 refine wp_append_own w s x 56 ho B 27 i0 (.agg #[.int .i64 0,.int .i64 0]) 2 16 Tryz.underlying56 hi hz0 hz1 hz2 rfl (by decide) v l.length (flat l) hs hown ⟨b,off,none⟩ n c (flat m) hx (by rw [flat_len,hn]) (flat_cells hc) (flat_one m) (by unfold maxLen;omega) (by omega) hB ?_
 intro v' w' h1 h2 _
 refine h v' w' ?_ h2
 unfold Own
 rw [flat_append,List.length_append,← hn]
 exact h1

theorem Own.lit (w:World) (B:Nat) (l:List V) (hB:B≤w.heap.size) (hl:l.length≤8796093022208):Own (w.alloc (.cells (flat l).toArray 27)) B (.slice (some ⟨w.heap.size,0,none⟩) l.length l.length) l :=
 ⟨flat_len l,.inr ⟨w.heap.size,l.length,(flat l).toArray,rfl,hB,heap_alloc_new w _,Nat.le_refl _,by unfold maxLen;omega,by simp [flat_len],by simp [flat_len,List.take_of_length_le]⟩⟩
theorem Cells.drop {w:World} {b off:Nat} {l:List V} (h:Cells w b off l) (k:Nat):Cells w b (off+k*2) (l.drop k):=by
 refine ⟨h.lt,fun j hj=>?_,fun j hj=>?_⟩
 ·rw [List.length_drop] at hj
  have:=h.x (k+j) (by omega)
  rw [show off+k*2+j*2=off+(k+j)*2 by omega,this]
  simp [px]
 ·rw [List.length_drop] at hj
  have:=h.y (k+j) (by omega)
  rw [show off+k*2+j*2+1=off+(k+j)*2+1 by omega,this]
  simp [py]
theorem Sl.take {w:World} {A:Option Addr} {n c:Nat} {l:List V} (h:Sl w A n c l) {k:Nat} (hk:k≤n):Sl w A k c (l.take k):=by
 have hn:=h.len
 refine ⟨by rw [List.length_take];omega,by have:=h.cap;omega,h.big,fun hl=>?_⟩
 obtain ⟨b,off,rfl,hc⟩:=h.at_ (by intro e;subst e;simp at hl)
 refine ⟨b,off,rfl,hc.lt,fun j hj=>?_,fun j hj=>?_⟩
 ·rw [List.length_take] at hj
  rw [hc.x j (by omega)]
  simp [px,List.getElem?_take,show j<k by omega]
 ·rw [List.length_take] at hj
  rw [hc.y j (by omega)]
  simp [py,List.getElem?_take,show j<k by omega]
theorem cells_one {w:World} {b off:Nat} {p q:Int} (h0:w.cell? ⟨b,off,none⟩=some (.int .i64 p)) (h1:w.cell? ⟨b,off+1,none⟩=some (.int .i64 q)):Cells w b off [(p,q)] :=
 ⟨lt_of_cell h0,fun j hj=>match j,hj with | 0,_=>by simpa [px] using h0,fun j hj=>match j,hj with | 0,_=>by simpa [py] using h1⟩

structure SlI (w : World) (A : Option Addr) (n c : Nat) (r : List Int) : Prop where
 len:n=r.length
 cap:n≤c
 big:c≤9223372036854775807
 at_:r≠[]→∃ b off,A=some ⟨b,off,none⟩∧b<w.heap.size∧∀ j,j<r.length→w.cell? ⟨b,off+j,none⟩=some (.int .i64 (r.getD j 0))
theorem SlI.below {w w':World} {A:Option Addr} {n c:Nat} {r:List Int} (h:SlI w A n c r) (hb:Below w.heap.size w w'):SlI w' A n c r :=
 ⟨h.len,h.cap,h.big,fun hl=>by
  obtain ⟨b,off,rfl,hlt,hc⟩:=h.at_ hl
  exact ⟨b,off,rfl,Nat.lt_of_lt_of_le hlt hb.size,fun j hj=>((bcell hb).1 _ _ hlt).trans (hc j hj)⟩⟩

structure Stm (w : World) (g : Nat) (r : List Int) : Prop where
 lt:g<w.heap.size
 free:w.frozen? ⟨g,0,none⟩=false
 at_:∃ A n c,w.cell? ⟨g,0,none⟩=some (.slice A n c)∧SlI w A n c r∧(r≠[]→∀ b off,A=some ⟨b,off,none⟩→b<g)
theorem Stm.below {w w':World} {g:Nat} {r:List Int} (h:Stm w g r) (hb:Below w.heap.size w w'):Stm w' g r:=by
 obtain ⟨h1,h2,A,n,c,h3,h4,h5⟩:=h
 exact ⟨Nat.lt_of_lt_of_le h1 hb.size,((bcell hb).2 _ _ h1).trans h2,A,n,c,((bcell hb).1 _ _ h1).trans h3,h4.below hb,h5⟩
theorem SlI.setCell {w:World} {A:Option Addr} {n c g:Nat} {r:List Int} (h:SlI w A n c r) (hA:∀ b off,A=some ⟨b,off,none⟩→b<g) (v:Value):SlI (w.setCell ⟨g,0,none⟩ v) A n c r :=
 ⟨h.len,h.cap,h.big,fun hl=>by
  obtain ⟨b,off,rfl,hlt,hc⟩:=h.at_ hl
  have hb:=hA b off rfl
  exact ⟨b,off,rfl,by simpa [World.setCell] using hlt,fun j hj=>(grown_cell (grown_setCell w g 0 v) (by omega) hlt).trans (hc j hj)⟩⟩


theorem Sl.made (w:World) (l:List V) (T:TypeId) (hl:l.length≤9223372036854775807):Sl (w.alloc (.cells (flat l).toArray T)) (some ⟨w.heap.size,0,none⟩) l.length l.length l:=by
 refine ⟨rfl,Nat.le_refl _,hl,fun _=>⟨w.heap.size,0,rfl,by simp,fun j hj=>?_,fun j hj=>?_⟩⟩
 ·rw [cell_of_row _ w.heap.size _ (flat l).toArray T (0, 0) (heap_alloc_new w _)]
  simpa using (flat_at l j hj).1
 ·rw [cell_of_row _ w.heap.size _ (flat l).toArray T (0, 0) (heap_alloc_new w _)]
  simpa using (flat_at l j hj).2

def RetVecs (l:List V) (w:World) (e:Ending) (w':World):Prop :=
 ∃ A n c,e = .returned (.slice A n c)∧Sl w' A n c l∧(∀ b off,A=some ⟨b,off,none⟩→w.heap.size≤b)∧Below w.heap.size w w'

section
variable {H:Type} {enc:TypeId × Value→H} {W:World} {held:Bool} {base:Nat} {sp:Nat→Bool}

end
end
end Go.Proofs.YtiaoandbdgdecaaGreat
