/- The walk of PhysChecks. -/
import Derived.Test.YtokgmcomgflloaaGreatQX45
import Derived.Test.YtokgmcomgflloaaGreatQX46
import Derived.Test.YtokgmcomgflloaaGreatQX48
import Derived.Test.YtokgmcomgflloaaGreatQX34
set_option maxRecDepth 100000
set_option maxHeartbeats 16000000
namespace Go.Proofs.YtokgmcomgflloaaGreat
section
set_option linter.unusedVariables false
set_option linter.unusedSimpArgs false
open Go.RowKit
variable {w0 w w':World}
theorem EF {x:BE} (h:aJ x.b x.l=0):0≤x.b.mass:=by
 unfold aJ at h
 by_cases h0:cO x.l=0
 ·rw [if_neg (by simp [h0])] at h;unfold iB at h
  split at h
  ·split at h
   ·rename_i h2;simp only [Bool.and_eq_true] at h2;exact (bf.1 h2.1.1.1.1).1
   ·cases h
  ·cases h
 ·rw [if_pos h0] at h;exact absurd h h0
theorem dD.toIC {A:Option Addr} {n c:Nat} {l:List Nat} (h:dD bI w A n c l):Ee w A n c (l.map (fun i:Nat=>(i:Int))) :=
 ⟨by rw [List.length_map];exact h.len,h.cap,h.big,fun hne=>by
  obtain ⟨b,off,e,hC⟩:=h.at_ (by intro q;rw [q] at hne;exact hne rfl)
  refine ⟨b,off,e,hC.lt,fun k hk=>?_⟩
  rw [List.length_map] at hk
  have:=hC.nat hk
  rw [this,List.getD_eq_getElem?_getD,List.getElem?_map,List.getElem?_eq_getElem hk]
  rfl⟩
theorem pW {A Aj Ac:Option Addr} {n c nj cj nc cc:Nat} {L:List BE} {Jl:List Jt} {Cl:List Ct} (hS:iE w A n c L) (hJ:dD gV w Aj nj cj Jl) (hC:dD dH w Ac nc cc Cl) (gx gy st:Int) :
  Calls Tryz.prog 6 #[.agg #[.slice A n c,.slice Aj nj cj,.slice Ac nc cc,.int .i64 gx,.int .i64 gy,.int .i64 st]] w (dw (.bool true) w):=by
 obtain ⟨w1,hw1⟩:∃ x,x=w.alloc (.cells #[.slice A n c,.slice Aj nj cj,.slice Ac nc cc,.int .i64 gx,.int .i64 gy,.int .i64 st] 33):=⟨_,rfl⟩;obtain ⟨gz,hgz⟩:∃ x,x=w.heap.size:=⟨_,rfl⟩;have hb1:Below w.heap.size w w1:=by rw [hw1];exact (Below.refl _ _).alloc (Nat.le_refl _) _
 have HZ:Hid (ZS gz (.slice A n c) (.slice Aj nj cj) (.slice Ac nc cc) gx gy st w1):=hid (by rw [hw1,hgz];exact ⟨by go_simp,by go_simp,by go_simp,by go_simp,by go_simp,by go_simp⟩);have HB:=hid hb1;have HS:=hid hS;have HJ:=hid hJ;have HC:=hid hC;obtain ⟨E,hE⟩:∃ E,E=bH L Jl Cl gx gy st:=⟨_,rfl⟩;have HE:=hid hE;clear hS hJ hC hb1 hE
 go_enter Tryz.func6,Tryz.ntmps6
 go_upto_region 1 with fail
 rw [← hw1,← hgz];clear hw1 hgz
 go_wp2_with fail
 refine (qg _).mono ?_;rintro e w2 ⟨rfl,hb2⟩;replace HZ:=hid (HZ.out.keep hb2);replace HB:=hid (ah hb2 HB.out);clear hb2;have HPI:=hid (qI (HS.out.below HB.out) (HJ.out.below HB.out) (HC.out.below HB.out) gx gy st);rw [← HE.out] at HPI;obtain ⟨z0,z1,z2,z3,z4,z5⟩:=HZ.out;have lz:=lt_of_cell z0
 go_wp2_with fail
 refine HPI.out.mono ?_;rintro e w3 ⟨hb3,hcase⟩;replace HZ:=hid (HZ.out.keep hb3);replace HB:=hid (ah hb3 HB.out);have HRS:=hid (uM (HS.out.below HB.out) (HJ.out.below HB.out) (HC.out.below HB.out) gx gy st);rw [← HE.out] at HRS;clear hb3 HPI z0 z1 z2 z3 z4 z5 lz
 rcases hcase with ⟨hne,rfl⟩ | ⟨rfl,gi,rfl,hgi,hci,-⟩
 ·have hq : (E == 0) = false := by simpa using hne
  have hq2:(E != 0)=true:=by simpa using hne
  obtain ⟨z0,z1,z2,z3,z4,z5⟩:=HZ.out;have lz:=lt_of_cell z0
  go_wp2_with fail
  refine HRS.out.mono ?_;rintro e w4 ⟨rfl,hb4⟩;replace HZ:=hid (HZ.out.keep hb4);replace HB:=hid (ah hb4 HB.out);have HCK:=hid (kH (HS.out.below HB.out) (HJ.out.below HB.out) (HC.out.below HB.out) gx gy st);rw [← HE.out] at HCK;clear hb4 HRS z0 z1 z2 z3 z4 z5 lz hne;obtain ⟨z0,z1,z2,z3,z4,z5⟩:=HZ.out;have lz:=lt_of_cell z0
  go_wp2_with fail
  refine HCK.out.mono ?_;rintro e w5 ⟨rfl,hb5⟩;replace HB:=hid (ah hb5 HB.out);clear hb5 HCK HZ z0 z1 z2 z3 z4 z5 lz;go_wp2
  go_returns
  exact aY (by simp) HB.out
 ·have HCI := hid hci;have HGI:=hid hgi;clear hci hgi;obtain ⟨z0,z1,z2,z3,z4,z5⟩:=HZ.out;have lz:=lt_of_cell z0
  go_wp2_with fail
  refine HRS.out.mono ?_;rintro e w4 ⟨rfl,hb4⟩;replace HZ:=hid (HZ.out.keep hb4);replace HB:=hid (ah hb4 HB.out);replace HCI:=hid (aH.keepS hb4 HCI.out);have HCK:=hid (kH (HS.out.below HB.out) (HJ.out.below HB.out) (HC.out.below HB.out) gx gy st);rw [← HE.out] at HCK;clear hb4 HRS z0 z1 z2 z3 z4 z5 lz;obtain ⟨z0,z1,z2,z3,z4,z5⟩:=HZ.out;have lz:=lt_of_cell z0
  go_wp2_with fail
  refine HCK.out.mono ?_;rintro e w5 ⟨rfl,hb5⟩;replace HZ:=hid (HZ.out.keep hb5);replace HB:=hid (ah hb5 HB.out);replace HCI:=hid (aH.keepS hb5 HCI.out);clear hb5 HCK z0 z1 z2 z3 z4 z5 lz;have hEE:=HE.out.symm;obtain ⟨hce,hje,-,-⟩:=kG hEE;obtain ⟨hbe,hc4,hcc⟩:=fC hce;obtain ⟨-,hj4,hjj⟩:=iU hje;obtain ⟨h64,hval⟩:=bZ hbe;have hn:n=L.length:=HS.out.sl.len;have hn64:n≤64:=by omega
  have HGR:=hid (sP (HS.out.below HB.out) (HJ.out.below HB.out) (HC.out.below HB.out) (fun x hx=>by have:=(qX (hjj x hx)).1;omega) (fun x hx=>by have:=hcc x hx;unfold fJ at this;omega) (by omega) (fun x hx=>EF (hval x hx)) (by omega) (by omega));have HN64:=hid hn64;clear hEE hce hje hbe hc4 hcc hj4 hjj h64 hval hn hn64;obtain ⟨z0,z1,z2,z3,z4,z5⟩:=HZ.out;have lz:=lt_of_cell z0
  go_wp2_with fail
  refine HGR.out.mono ?_;rintro e w6 ⟨gs,rfl,hgr⟩;have HS1:Hid (dD bI w6 (some ⟨gi,0,none⟩) n n ((List.range n).map (iC (jv L) (dM Jl ++ fV Cl)))):=hid ⟨by simp,Nat.le_refl _,by have:=HN64.out;omega,fun _=>⟨gi,0,rfl,aH.keepS hgr.bel HCI.out⟩⟩
  have HS2:Hid (dD bI w6 (some ⟨gs,0,none⟩) n n ((List.range n).map (iC (jv L) (dM Jl ++ fV Cl)))):=hid ⟨by simp,Nat.le_refl _,by have:=HN64.out;omega,fun _=>⟨gs,0,rfl,hgr.lt,fun j hj i v hv=>by
   have hj':j<n:=by simpa using hj
   have hi0:i=0:=by rcases i with _ | i;rfl;simp [bI] at hv
   subst hi0;have h:=hgr.c j hj';simp [bI] at hv ⊢;rw [← hv]
   simpa using h⟩⟩
  have HEQ:=hid (vJ (some ⟨gi,0,none⟩) (some ⟨gs,0,none⟩) n n n n _ _ w6 HS1.out.toIC HS2.out.toIC);rw [decide_eq_true rfl] at HEQ;replace HB:=hid (ah hgr.bel HB.out);clear hgr HS1 HS2 HCI HGR z0 z1 z2 z3 z4 z5 lz HZ
  go_wp2_with fail
  refine HEQ.out.mono ?_;rintro e w7 ⟨rfl,hb7⟩;replace HB:=hid (ah hb7 HB.out);clear hb7 HEQ;go_wp2
  go_returns
  exact aY rfl HB.out
end
end Go.Proofs.YtokgmcomgflloaaGreat
