/- Parts of a proof: contracts and laws. -/
import Derived.Test.YtokgmcomgflloaaGreatQX10
import Derived.Test.YtokgmcomgflloaaGreatQX11
import Derived.Test.YtokgmcomgflloaaGreatQX08
import Derived.Maps.AppendAt
import Derived.Test.YtokgmcomgflloaaGreatQX04
set_option maxRecDepth 100000
set_option maxHeartbeats 16000000
namespace Go.Proofs.YtokgmcomgflloaaGreat
section
set_option linter.unusedVariables false
set_option linter.unusedSimpArgs false
open Go.RowKit
variable {w0 w w':World}
theorem yF (b:Bd) (A:Option Addr) (n c:Nat) (l:List V) (w:World) (hS:Sl w A n c l):Calls Tryz.prog 187 #[fP b A n c] w (dw (.int .i64 (aJ b l)) w):=by
 obtain ⟨W,hW⟩:∃ W,W=w.alloc (.cells #[.int .i64 b.px,.int .i64 b.py,.int .i64 b.vx,.int .i64 b.vy,.int .i64 b.ang,.int .i64 b.spin,.int .i64 b.mass,.int .i64 b.iner,.int .i64 b.bounce,.int .i64 b.rub,.slice A n c,.bool b.asleep,.int .i64 b.calm] 27):=⟨_,rfl⟩;have HK:=hid (show bC W w.heap.size b A n c by rw [hW];exact bC.here w b A n c _);have hB:Below w.heap.size w W:=by rw [hW];go_grown
 have HS0:=hid (hS.below hB);clear hS;obtain ⟨k0,k1,k2,k3,k4,k5,k6,k7,k8,k9,k10,k11,k12,_⟩:=HK.out
 go_enter Tryz.func187,Tryz.ntmps187
 go_wp2_with fail
 rw [← hW];clear hW k0 k1 k2 k3 k4 k5 k6 k7 k8 k9 k10 k11 k12;refine (sK _ _ _ l _ HS0.out).mono ?_;rintro e w1 ⟨rfl,hb1⟩;have HK1:=hid (bJ hb1 HK.out);have hB1:=ah hb1 hB;clear hb1 HK hB HS0
 by_cases hE:cO l=0
 ·have HBE : Hid (aJ b l = iB b) := by show _ = _; unfold aJ; rw [if_neg (by simp [hE])]
  rw [hE];clear hE;obtain ⟨k0,k1,k2,k3,k4,k5,k6,k7,k8,k9,k10,k11,k12,_⟩:=HK1.out
  go_wp2_with fail
  refine (aP _ _ _ _ (by omega) (by omega)).mono ?_;rintro e w2 ⟨rfl,hb2⟩;have HK2:=hid (bJ hb2 HK1.out);have hB2:=ah hb2 hB1;clear hb2 HK1 hB1 k0 k1 k2 k3 k4 k5 k6 k7 k8 k9 k10 k11 k12
  cases h0:aB 58982400 b.px b.py with
  | false =>
   have HR:Hid (aJ b l=1):=by show _=_;rw [HBE.out];simp [iB,h0]
   clear h0 HBE;go_wp2
   go_returns
   exact aj HR.out.symm hB2
  | true =>
   have H0:=hid h0;clear h0;obtain ⟨k0,k1,k2,k3,k4,k5,k6,k7,k8,k9,k10,k11,k12,_⟩:=HK2.out
   go_wp2_with fail
   refine (aP _ _ _ _ (by omega) (by omega)).mono ?_;rintro e w3 ⟨rfl,hb3⟩;have HK3:=hid (bJ hb3 HK2.out);have hB3:=ah hb3 hB2;clear hb3 HK2 hB2 k0 k1 k2 k3 k4 k5 k6 k7 k8 k9 k10 k11 k12
   cases h1:aB 268435456 b.vx b.vy with
   | false =>
    have HR:Hid (aJ b l=1):=by show _=_;rw [HBE.out];simp [iB,h1,H0.out]
    clear h1 HBE;go_wp2
    go_returns
    exact aj HR.out.symm hB3
   | true =>
    have H1:=hid h1;clear h1;obtain ⟨k0,k1,k2,k3,k4,k5,k6,k7,k8,k9,k10,k11,k12,_⟩:=HK3.out
    go_wp2_with fail
    refine (aF _ _ _ _).mono ?_;rintro e w4 ⟨rfl,hb4⟩;have HK4:=hid (bJ hb4 HK3.out);have hB4:=ah hb4 hB3;clear hb4 HK3 hB3 k0 k1 k2 k3 k4 k5 k6 k7 k8 k9 k10 k11 k12
    cases h2:dU b.spin (-16777216) 16777216 with
    | false =>
     have HR:Hid (aJ b l=1):=by show _=_;rw [HBE.out];simp [iB,h2,H0.out,H1.out]
     clear h2 HBE;go_wp2
     go_returns
     exact aj HR.out.symm hB4
    | true =>
     have H2:=hid h2;clear h2;obtain ⟨k0,k1,k2,k3,k4,k5,k6,k7,k8,k9,k10,k11,k12,_⟩:=HK4.out
     go_wp2_with fail
     refine (aF _ _ _ _).mono ?_;rintro e w5 ⟨rfl,hb5⟩;have HK5:=hid (bJ hb5 HK4.out);have hB5:=ah hb5 hB4;clear hb5 HK4 hB4 k0 k1 k2 k3 k4 k5 k6 k7 k8 k9 k10 k11 k12
     cases h3:dU b.ang 0 65535 with
     | false =>
      have HR:Hid (aJ b l=1):=by show _=_;rw [HBE.out];simp [iB,h3,H0.out,H1.out,H2.out]
      clear h3 HBE;go_wp2
      go_returns
      exact aj HR.out.symm hB5
     | true =>
      have H3:=hid h3;clear h3;obtain ⟨k0,k1,k2,k3,k4,k5,k6,k7,k8,k9,k10,k11,k12,_⟩:=HK5.out
      go_wp2_with fail
      refine (aF _ _ _ _).mono ?_;rintro e w6 ⟨rfl,hb6⟩;have HK6:=hid (bJ hb6 HK5.out);have hB6:=ah hb6 hB5;clear hb6 HK5 hB5 k0 k1 k2 k3 k4 k5 k6 k7 k8 k9 k10 k11 k12
      cases h4:dU b.mass 0 1099511627776 with
      | false =>
       have HR:Hid (aJ b l=1):=by show _=_;rw [HBE.out];simp [iB,h4,H0.out,H1.out,H2.out,H3.out]
       clear h4 HBE;go_wp2
       go_returns
       exact aj HR.out.symm hB6
      | true =>
       have H4:=hid h4;clear h4;obtain ⟨k0,k1,k2,k3,k4,k5,k6,k7,k8,k9,k10,k11,k12,_⟩:=HK6.out
       go_wp2_with fail
       refine (aF _ _ _ _).mono ?_;rintro e w7 ⟨rfl,hb7⟩;have HK7:=hid (bJ hb7 HK6.out);have hB7:=ah hb7 hB6;clear hb7 HK6 hB6 k0 k1 k2 k3 k4 k5 k6 k7 k8 k9 k10 k11 k12
       cases h5:dU b.iner 0 1099511627776 with
       | false =>
        have HR:Hid (aJ b l=1):=by show _=_;rw [HBE.out];simp [iB,h5,H0.out,H1.out,H2.out,H3.out,H4.out]
        clear h5 HBE;go_wp2
        go_returns
        exact aj HR.out.symm hB7
       | true =>
        have H5:=hid h5;clear h5;obtain ⟨k0,k1,k2,k3,k4,k5,k6,k7,k8,k9,k10,k11,k12,_⟩:=HK7.out
        go_wp2_with fail
        refine (aF _ _ _ _).mono ?_;rintro e w8 ⟨rfl,hb8⟩;have HK8:=hid (bJ hb8 HK7.out);have hB8:=ah hb8 hB7;clear hb8 HK7 hB7 k0 k1 k2 k3 k4 k5 k6 k7 k8 k9 k10 k11 k12
        cases h6:dU b.bounce 0 65536 with
        | false =>
         have HR:Hid (aJ b l=1):=by show _=_;rw [HBE.out];simp [iB,h6,H0.out,H1.out,H2.out,H3.out,H4.out,H5.out]
         clear h6 HBE;go_wp2
         go_returns
         exact aj HR.out.symm hB8
        | true =>
         have H6:=hid h6;clear h6;obtain ⟨k0,k1,k2,k3,k4,k5,k6,k7,k8,k9,k10,k11,k12,_⟩:=HK8.out
         go_wp2_with fail
         refine (aF _ _ _ _).mono ?_;rintro e w9 ⟨rfl,hb9⟩;have HK9:=hid (bJ hb9 HK8.out);have hB9:=ah hb9 hB8;clear hb9 HK8 hB8 k0 k1 k2 k3 k4 k5 k6 k7 k8 k9 k10 k11 k12
         cases h7:dU b.rub 0 65536 with
         | false =>
          have HR:Hid (aJ b l=1):=by show _=_;rw [HBE.out];simp [iB,h7,H0.out,H1.out,H2.out,H3.out,H4.out,H5.out,H6.out]
          clear h7 HBE;go_wp2
          go_returns
          exact aj HR.out.symm hB9
         | true =>
          have H7:=hid h7;clear h7;obtain ⟨k0,k1,k2,k3,k4,k5,k6,k7,k8,k9,k10,k11,k12,_⟩:=HK9.out
          go_wp2_with fail
          refine (aF _ _ _ _).mono ?_;rintro e w10 ⟨rfl,hb10⟩;have HK10:=hid (bJ hb10 HK9.out);have hB10:=ah hb10 hB9;clear hb10 HK9 hB9 k0 k1 k2 k3 k4 k5 k6 k7 k8 k9 k10 k11 k12
          cases h8:dU b.calm 0 1000 with
          | false =>
           have HR:Hid (aJ b l=1):=by show _=_;rw [HBE.out];simp [iB,h8,H0.out,H1.out,H2.out,H3.out,H4.out,H5.out,H6.out,H7.out]
           clear h8 HBE;go_wp2
           go_returns
           exact aj HR.out.symm hB10
          | true =>
           have H8:=hid h8;clear h8
           have HNE:Hid (aJ b l=if ((b.mass == 0) != (b.iner == 0)) || (b.mass == 0) && (!dA b || b.asleep || (b.calm != 0)) || b.asleep && !dA b then 3 else 0):=by
            show _=_;rw [HBE.out];simp only [iB,H0.out,H1.out,H2.out,H3.out,H4.out,H5.out,H6.out,H7.out,H8.out,Bool.and_self,if_true]
           have hm0:b.mass=0∨0<b.mass:=by have:=bf.1 H4.out;omega
           have hi0:b.iner=0∨0<b.iner:=by have:=bf.1 H5.out;omega
           have hc0:b.calm=0∨0<b.calm:=by have:=bf.1 H8.out;omega
           clear HBE H0 H1 H2 H3 H4 H5 H6 H7 H8;obtain ⟨k0,k1,k2,k3,k4,k5,k6,k7,k8,k9,k10,k11,k12,_⟩:=HK10.out
           go_upto_region 8 with fail
           go_cut [4] from 61 to 75 (fun t wx=>t = .bool (!dA b)∧wx=w10)
           case first =>
            clear hm0 hi0 hc0
            by_cases v1:b.vx=0
            ·by_cases v2 : b.vy = 0
             ·by_cases v3 : b.spin = 0
              ·have hs : dA b = true := by simp [dA, v1, v2, v3]
               rw [v1] at k2;rw [v2] at k3;rw [v3] at k5;have HSB:=hid hs;clear v1 v2 v3 hs HNE;go_wp2
               go_meet
               exact ⟨by rw [HSB.out];rfl,rfl⟩
              ·have hs : dA b = false := by simp [dA, v3]
               have v4:(b.spin != 0)=true:=by simp [v3]
               rw [v1] at k2;rw [v2] at k3;have HSB:=hid hs;clear v1 v2 v3 hs HNE;go_wp2
               go_meet
               exact ⟨by rw [HSB.out];rfl,rfl⟩
             ·have hs : dA b = false := by simp [dA, v2]
              have v4:(b.vy != 0)=true:=by simp [v2]
              rw [v1] at k2;have HSB:=hid hs;clear v1 v2 hs HNE;go_wp2
              go_meet
              exact ⟨by rw [HSB.out];rfl,rfl⟩
            ·have hs : dA b = false := by simp [dA, v1]
             have v4:(b.vx != 0)=true:=by simp [v1]
             have HSB:=hid hs;clear v1 hs HNE;go_wp2
             go_meet
             exact ⟨by rw [HSB.out];rfl,rfl⟩
           case rest =>
            obtain ⟨rfl,hw⟩:=hcut;rw [hw];clear hw wc;generalize dA b=st at HNE ⊢
            rcases hm0 with hm | hm
            ·have hme : (b.mass == 0) = true := by simp [hm]
             rw [hm] at k6
             rcases hi0 with hi | hi
             ·have hie : (b.iner == 0) = true := by simp [hi]
              rw [hi] at k7
              cases st with
              | false =>
               have HR:Hid (aJ b l=3):=by show _=_;rw [HNE.out];simp [*]
               clear HNE;go_wp2
               go_returns
               exact aj HR.out.symm hB10
              | true =>
               cases ha:b.asleep with
               | true =>
                rw [ha] at k11 HNE;have HR:Hid (aJ b l=3):=by show _=_;rw [HNE.out];simp [*]
                clear HNE;go_wp2
                go_returns
                exact aj HR.out.symm hB10
               | false =>
                rw [ha] at k11 HNE
                rcases hc0 with hc | hc
                ·have hce : (b.calm != 0) = false := by simp [hc]
                 rw [hc] at k12;have HR:Hid (aJ b l=0):=by show _=_;rw [HNE.out];simp [*]
                 clear HNE;go_wp2
                 go_returns
                 exact aj HR.out.symm hB10
                ·have hce : (b.calm != 0) = true := by simp; omega
                 have HR:Hid (aJ b l=3):=by show _=_;rw [HNE.out];simp [*]
                 clear HNE;go_wp2
                 go_returns
                 exact aj HR.out.symm hB10
             ·have hie : (b.iner == 0) = false := by simp; omega
              have HR:Hid (aJ b l=3):=by show _=_;rw [HNE.out];simp [*]
              clear HNE;go_wp2
              go_returns
              exact aj HR.out.symm hB10
            ·have hme : (b.mass == 0) = false := by simp; omega
             rcases hi0 with hi | hi
             ·have hie : (b.iner == 0) = true := by simp [hi]
              rw [hi] at k7;have HR:Hid (aJ b l=3):=by show _=_;rw [HNE.out];simp [*]
              clear HNE;go_wp2
              go_returns
              exact aj HR.out.symm hB10
             ·have hie : (b.iner == 0) = false := by simp; omega
              cases ha:b.asleep with
              | true =>
               rw [ha] at k11 HNE
               cases st with
               | true =>
                have HR:Hid (aJ b l=0):=by show _=_;rw [HNE.out];simp [*]
                clear HNE;go_wp2
                go_returns
                exact aj HR.out.symm hB10
               | false =>
                have HR:Hid (aJ b l=3):=by show _=_;rw [HNE.out];simp [*]
                clear HNE;go_wp2
                go_returns
                exact aj HR.out.symm hB10
              | false =>
               rw [ha] at k11 HNE;have HR:Hid (aJ b l=0):=by show _=_;rw [HNE.out];simp [*]
               clear HNE;go_wp2
               go_returns
               exact aj HR.out.symm hB10
 ·have HR : Hid (aJ b l = cO l) := by show _ = _; unfold aJ; rw [if_pos hE]
  have hne:(cO l != 0)=true:=by simp [hE]
  clear hE;go_wp2
  go_returns
  exact aj HR.out.symm hB1
structure Lay (α : Type) where
 enc:α→List Value
 k:Nat
 hk:∀ x,(enc x).length=k
 one:∀ x,∀ v ∈ enc x,v.oneCell'=true
 pos:0<k
section
variable {w0 w w':World}
variable {α:Type} {L:Lay α}
structure aH (L : Lay α) (w : World) (b off : Nat) (l : List α) : Prop where
 lt:b<w.heap.size
 at_:∀ j (hj:j<l.length) i v,(L.enc l[j])[i]? = some v→w.cell? ⟨b,off+j*L.k+i,none⟩=some v
structure dD (L : Lay α) (w : World) (A : Option Addr) (n c : Nat) (l : List α) : Prop where
 len:n=l.length
 cap:n≤c
 big:c≤9223372036854775807
 at_:l≠[]→∃ b off,A=some ⟨b,off,none⟩∧aH L w b off l
theorem aH.below {b off:Nat} {l:List α} (hb:Below w.heap.size w w') (h:aH L w b off l):aH L w' b off l :=
 ⟨Nat.lt_of_lt_of_le h.lt hb.size,fun j hj i v hv=>keepCell hb (h.at_ j hj i v hv)⟩
theorem dD.below {A:Option Addr} {n c:Nat} {l:List α} (h:dD L w A n c l) (hb:Below w.heap.size w w'):dD L w' A n c l :=
 ⟨h.len,h.cap,h.big,fun hl=>by obtain ⟨b,off,e,hc⟩:=h.at_ hl;exact ⟨b,off,e,hc.below hb⟩⟩
theorem dD.alloc {A:Option Addr} {n c:Nat} {l:List α} (h:dD L w A n c l) (o:Obj):dD L (w.alloc o) A n c l:=h.below Ba
theorem dD.drew {A:Option Addr} {n c:Nat} {l:List α} (h:dD L w A n c l):dD L w.drew A n c l:=h.below (Below.refl _ _).drew
theorem dD.nil (L:Lay α) (w:World):dD L w none 0 0 []:=⟨rfl,Nat.le_refl _,by omega,fun h=>absurd rfl h⟩
def dF (L:Lay α) (l:List α):List Value:=l.flatMap L.enc
theorem jd (l:List α):(dF L l).length=l.length*L.k:=by
 induction l with
 | nil=>simp [dF]
 | cons x l ih=>unfold dF at *;rw [List.flatMap_cons,List.length_append,L.hk,ih,List.length_cons,Nat.add_mul];omega
theorem nH (l m:List α):dF L (l ++ m)=dF L l ++ dF L m:=List.flatMap_append
theorem yD (l:List α) (j:Nat) (hj:j<l.length) (i:Nat) (v:Value) (h:(L.enc l[j])[i]? = some v):(dF L l)[j*L.k+i]? = some v:=by
 induction l generalizing j with
 | nil=>simp at hj
 | cons x l ih =>
  unfold dF at *
  rw [List.flatMap_cons]
  cases j with
  | zero =>
   have hi:i<(L.enc x).length:=by
    rcases Nat.lt_or_ge i (L.enc x).length with g | g
    ·exact g
    ·rw [List.getElem_cons_zero,List.getElem?_eq_none g] at h;cases h
   rw [Nat.zero_mul,Nat.zero_add,List.getElem?_append_left hi];exact h
  | succ j =>
   rw [List.getElem?_append_right (by rw [L.hk,Nat.add_mul];omega),L.hk,show (j+1)*L.k+i-L.k=j*L.k+i by rw [Nat.add_mul];omega];exact ih j (by simpa using hj) (by simpa using h)
theorem Da (l:List α):∀ u ∈ dF L l,u.oneCell'=true:=fun u hu=>by
 obtain ⟨x,hx,h⟩:=List.mem_flatMap.1 hu;exact L.one x u h
theorem oG (l:List α) (t:Nat) (ht:t<l.length*L.k):∃ (j i:Nat) (hj:j<l.length),i<L.k∧t=j*L.k+i∧(dF L l)[t]? = (L.enc l[j])[i]? := by
 have hp:=L.pos;have hj:t / L.k<l.length:=(Nat.div_lt_iff_lt_mul hp).2 ht;have hi:t % L.k<L.k:=Nat.mod_lt _ hp;have e:t=t / L.k*L.k+t % L.k:=(Nat.div_add_mod' t L.k).symm;refine ⟨t / L.k,t % L.k,hj,hi,e,?_⟩;have hv:(L.enc l[t / L.k])[t % L.k]? = some ((L.enc l[t / L.k])[t % L.k]'(by rw [L.hk];exact hi)):=List.getElem?_eq_getElem _;have:=yD l (t / L.k) hj (t % L.k) _ hv;rw [← e] at this;rw [this,hv]

def aN (L:Lay α) (e:TypeId) (w:World) (B:Nat) (v:Value) (l:List α):Prop:=w.ownsRow B e L.k v l.length (dF L l)
variable {e:TypeId}
theorem aN.nil (L:Lay α) (e:TypeId) (w:World) (B:Nat):aN L e w B (.slice none 0 0) []:=World.ownsRow_nil _ _ _ _
theorem aN.kept {B:Nat} {v:Value} {l:List α} {row:Option Nat} (h:aN L e w B v l) (hg:w.grownBy w' row) (hr:v.ownBlock=none∨v.ownBlock≠row):aN L e w' B v l:=World.ownsRow.kept h hg hr
theorem aN.below {B:Nat} {v:Value} {l:List α} (h:aN L e w B v l) (hb:Below w.heap.size w w'):aN L e w' B v l :=
 h.kept (dz (row:=none) hb) (by cases hv:v.ownBlock with | none=>exact .inl rfl | some k=>exact .inr (by simp))
theorem aN.alloc {B:Nat} {v:Value} {l:List α} (h:aN L e w B v l) (o:Obj):aN L e (w.alloc o) B v l:=World.ownsRow.alloc h o
theorem aN.drew {B:Nat} {v:Value} {l:List α} (h:aN L e w B v l):aN L e w.drew B v l:=h
theorem aN.lt {B:Nat} {v:Value} {l:List α} (h:aN L e w B v l) {k:Nat} (hk:v.ownBlock=some k):B≤k∧k<w.heap.size:=World.ownsRow.lt h k hk
theorem aN.off {B g:Nat} {s:Value} {l:List α} (h:aN L e w B s l) (hne:∀ k,s.ownBlock=some k→k≠g) (o:Nat) (u:Value):aN L e (w.setCell ⟨g,o,none⟩ u) B s l:=by
 refine h.kept (aX _ g o _) ?_
 cases hv:s.ownBlock with
 | none=>exact .inl rfl
 | some k=>exact .inr fun e=>by cases e;exact hne _ hv rfl
theorem aN.grown {B:Nat} {v:Value} {l:List α} (h:aN L e w B v l) (hg:w.grownBy w' v.ownBlock) (hB:B≤w.heap.size):Below B w w' :=
 (Below.refl B w).grown hg hB (fun k hk=>(World.ownsRow.lt h k hk).1)
theorem aN.mono {B B':Nat} {v:Value} {l:List α} (h:aN L e w B v l) (hB:B'≤B):aN L e w B' v l:=by
 obtain ⟨h1,h2 | ⟨g,cap,cur,hv,hb,rest⟩⟩:=h
 ·exact ⟨h1,.inl h2⟩
 ·exact ⟨h1,.inr ⟨g,cap,cur,hv,Nat.le_trans hB hb,rest⟩⟩

theorem aN.form {B:Nat} {v:Value} {l:List α} (h:aN L e w B v l):(v = .slice none 0 0∧l=[])∨∃ g cap,v = .slice (some ⟨g,0,none⟩) l.length cap∧B≤g∧g<w.heap.size∧l.length≤cap∧cap≤maxLen∧(∀ j,w.frozen? ⟨g,j,none⟩=false)∧aH L w g 0 l:=by
 have hc:=fun g hg=>World.ownsRow.cells h (g:=g) hg
 obtain ⟨h1,h2 | ⟨g,cap,cur,rfl,hb,hg,hn,hm,hs,ht⟩⟩:=h
 ·exact .inl ⟨h2.1,List.length_eq_zero_iff.1 h2.2⟩
 ·have hlt := (Array.getElem?_eq_some_iff.1 hg).1;refine .inr ⟨g,cap,rfl,hb,hlt,hn,hm,fun j=>by simp [World.frozen?,hg],hlt,fun j hj i v hv=>?_⟩;have:=hc g rfl (j*L.k+i) v (yD l j hj i v hv);have hadd:(⟨g,0,none⟩:Addr).add (j*L.k+i)=⟨g,0+j*L.k+i,none⟩:=by unfold Addr.add;split <;> simp_all <;> omega
  rwa [hadd] at this
theorem aN.sl {B:Nat} {v:Value} {l:List α} (h:aN L e w B v l):∃ A n c,v = .slice A n c∧dD L w A n c l∧∀ b off,A=some ⟨b,off,none⟩→B≤b:=by
 rcases h.form with ⟨rfl,rfl⟩ | ⟨g,cap,rfl,hB,hg,hn,hm,-,hc⟩
 ·exact ⟨none,0,0,rfl,dD.nil L w,by simp⟩
 ·exact ⟨_,_,_,rfl,⟨rfl,hn,by unfold maxLen at hm;omega,fun _=>⟨g,0,rfl,hc⟩⟩,fun b off e=>by cases e;exact hB⟩

structure EU (L : Lay α) (t e : TypeId) (bytes : Nat) : Prop where
 ht:Tryz.prog.underlying t=some (.slice e)
 hi:∃ (i0:TypeInfo) (z:Value),Tryz.prog.info? e=some i0∧i0.zero=some z∧i0.size=L.k∧i0.bytes=bytes∧z.cells.size=L.k

theorem kJ {t : TypeId} {bytes : Nat} (hT : EU L t e bytes) (ty : TypeId) (w : World) (B : Nat) (v : Value) (l : List α) (hown : aN L e w B v l) (b off n c : Nat) (m : List α) (hn : n = m.length) (hc : aH L w b off m)
  (hl:l.length+m.length≤8796093022208) (hby:(l.length+m.length)*bytes≤140737488355328) (hB:B≤w.heap.size) :
  ∃ v' w',(Builtin.append_ #[t,t] ty #[v,.slice (some ⟨b,off,none⟩) n c]).run Tryz.prog w = .ok v' w'∧aN L e w' B v' (l ++ m)∧w.grownBy w' v.ownBlock∧(v'.ownBlock=v.ownBlock∨v'.ownBlock=some w.heap.size):=by
 obtain ⟨i0,z,hi,hz0,hz1,hz2,hz3⟩:=hT.hi;subst hn
 obtain ⟨v',w',hr,h2,h3,h4,h5⟩:=run_append_own_at (P:=Tryz.prog) w B t ty e i0 z L.k bytes hT.ht hi hz0 hz1 hz2 hz3 L.pos v l.length (dF L l) hown ⟨b,off,none⟩ m.length c (dF L m) (jd m) (fun j u hj=>by
  rcases Nat.lt_or_ge j (m.length*L.k) with g | g
  ·obtain ⟨j', i, hj', hi', e', h⟩ := oG m j g;rw [h] at hj;have:=hc.at_ j' hj' i u hj;have hadd:(⟨b,off,none⟩:Addr).add j=⟨b,off+j'*L.k+i,none⟩:=by unfold Addr.add;split <;> simp_all <;> omega
   rw [hadd];exact this
  ·rw [List.getElem?_eq_none (by rw [jd];exact g)] at hj;cases hj) (Da m) (by unfold maxLen;omega) hby hB
 refine ⟨v',w',hr,?_,h3,h5⟩;unfold aN;rw [nH,List.length_append];exact h2
theorem dG {t : TypeId} {bytes : Nat} (hT : EU L t e bytes) {w : World} {ops : Array Oper} {rest : List Oper} {o : Oper} {a : Act} {Q : Exit → Act → World → Prop} (hgd : o.guard = none) (s x : Operand)
  (ho:o.op = .call { callee:=.builtin .append,args:=#[s,x],argTypes:=#[t,t] })
  (B:Nat) (v:Value) (l:List α) (hs:a.eval s=v) (hown:aN L e w B v l) (b off n c:Nat) (m:List α) (hx:a.eval x = .slice (some ⟨b,off,none⟩) n c) (hn:n=m.length) (hc:aH L w b off m)
  (hl:l.length+m.length≤8796093022208) (hby:(l.length+m.length)*bytes≤140737488355328) (hB:B≤w.heap.size)
  (h:∀ v' w',aN L e w' B v' (l ++ m)→w.grownBy w' v.ownBlock→(v'.ownBlock=v.ownBlock∨v'.ownBlock=some w.heap.size)→wpList Tryz.prog ops Q rest (a.put o.dst v') w'):wpList Tryz.prog ops Q (o :: rest) a w:=by
 obtain ⟨v',w',hr,h2,h3,h5⟩:=kJ hT o.type w B v l hown b off n c m hn hc hl hby hB;refine wpList_plain hgd fun K hK=>?_
 unfold Oper.wp execOp;simp only [ho,resolve,invoke,builtin,Sem.run_bind,Sem.run_pure,Result.andThen_ok,List.map_toArray,List.map_cons,List.map_nil,hs,hx,hr];exact hK _ _ (h v' w' h2 h3 h5)
theorem jE {t : TypeId} {bytes : Nat} (hT : EU L t e bytes) {w : World} {ops : Array Oper} {o : Oper} {a : Act} {K : Act → World → Prop} {Q : Exit → Act → World → Prop} {E : Prop} (hgd : o.guard = none) (s x : Operand)
  (ho:o.op = .call { callee:=.builtin .append,args:=#[s,x],argTypes:=#[t,t] })
  (B:Nat) (v:Value) (l:List α) (hs:a.eval s=v) (hown:aN L e w B v l) (b off n c:Nat) (m:List α) (hx:a.eval x = .slice (some ⟨b,off,none⟩) n c) (hn:n=m.length) (hc:aH L w b off m)
  (hl:l.length+m.length≤8796093022208) (hby:(l.length+m.length)*bytes≤140737488355328) (hB:B≤w.heap.size)
  (h:∀ v' w',aN L e w' B v' (l ++ m)→w.grownBy w' v.ownBlock→(v'.ownBlock=v.ownBlock∨v'.ownBlock=some w.heap.size)→K (a.put o.dst v') w'):if Region.wanted o (yielded ops a.tmps)=true then Oper.wp Tryz.prog o a w K Q else E:=by
 have hw:Region.wanted o (yielded ops a.tmps)=true:=by simp [Region.wanted,hgd]
 rw [if_pos hw];obtain ⟨v',w',hr,h2,h3,h5⟩:=kJ hT o.type w B v l hown b off n c m hn hc hl hby hB;unfold Oper.wp execOp;simp only [ho,resolve,invoke,builtin,Sem.run_bind,Sem.run_pure,Result.andThen_ok,List.map_toArray,List.map_cons,List.map_nil,hs,hx,hr];exact h v' w' h2 h3 h5
end
end
end Go.Proofs.YtokgmcomgflloaaGreat
