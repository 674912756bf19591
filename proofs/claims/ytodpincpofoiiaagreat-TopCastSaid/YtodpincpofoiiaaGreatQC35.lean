/- Parts of a proof: contracts and laws. -/
import Derived.Test.YtodpincpofoiiaaGreatQC21
import Derived.Test.YtodpincpofoiiaaGreatQC30
import Derived.Test.YtodpincpofoiiaaGreatQC04
set_option maxRecDepth 100000
set_option maxHeartbeats 16000000
namespace Go.Proofs.YtodpincpofoiiaaGreat
section
set_option linter.unusedVariables false
set_option linter.unusedSimpArgs false
open Go.RowKit

structure FWn (w1 : World) (s : Value) (w : World) : Prop where
 own:OwnE layC 53 w w1.heap.size s []
 bel:Below w1.heap.size w1 w
theorem kfindn_calls (A B:Option Addr) (n c m c':Nat) (L:List BE) (old:List Ct) (w:World) (hS:SlB w A n c L) (hO:SlE layC w B m c' old) (hE:bodiesE L=0) (hN:nearL L=[]) :
  Calls Tryz.prog 19 #[.slice A n c,.slice B m c'] w (fun e w'=>∃ A n c,e = .returned (.tuple #[.slice A n c,.int .i64 0])∧SlE layC w' A n c []∧Below w.heap.size w w'):=by
 have hn:=hS.sl.len
 subst hn
 have HS:=hid hS
 have HO:=hid hO
 have hcap:=hS.sl.cap
 have hbig:=hS.sl.big
 have HKP:=hid (kpairs_calls A L.length c L w hS)
 have HNL:=hid hN
 clear hS hO hN
 go_enter Tryz.func19,Tryz.ntmps19
 go_wp2_with fail
 refine HKP.out.mono ?_
 rintro e w1 ⟨A0,n0,c0,rfl,hs0,hb0⟩
 clear HKP
 have HEZ:=hid hE
 have HB0:=hid hb0
 have e0:nearE L=nearL L:=by unfold nearE;rw [if_pos hE]
 rw [e0] at hs0
 rw [hE]
 obtain ⟨P,hP⟩:∃ P,P=nearL L:=⟨_,rfl⟩
 rw [← hP] at hs0
 have HP:Hid (P.length=0):=hid (by rw [hP,HNL.out];rfl)
 have hlen:P.length≤4096:=by have:=HP.out;omega
 have hn0:=hs0.len
 subst hn0
 have HS0:=hid hs0
 have HF0:Hid (FWn w1 (.slice none 0 0) w1):=⟨OwnE.nil _ _ _ _,Below.refl _ _⟩
 have hcap0:=hs0.cap
 have hbig0:=hs0.big
 clear hE hb0 e0 hP hs0
 go_wp2
 go_loopw [8,23] (fun s j wr=>∃ t:Nat,t≤P.length∧j = .int .i64 t∧FWn w1 s wr) (fun _ j _=>P.length-(intOf j).toNat)
 case atStart=>exact ⟨0,Nat.zero_le _,rfl,HF0.out⟩
 case round =>
  clear HF0
  obtain ⟨t,ht,rfl,hfw⟩:=hrel
  obtain ⟨wo,rfl⟩:∃ wo:World,wo=wr:=⟨_,rfl⟩
  obtain ⟨s,hs⟩:∃ s,s=u8:=⟨_,rfl⟩
  rw [← hs] at hfw ⊢
  clear hs
  by_cases hlt:t<P.length
  ·exact absurd hlt (by have:=HP.out;omega)
  ·have hte : t = P.length := by omega
   subst hte
   obtain ⟨sA,sn,sc,hse,hsl,-⟩:=hfw.own.sl
   have hB1:Below w.heap.size w wo:=HB0.out.trans (hfw.bel.mono HB0.out.size)
   have HCA:=hid (carry_calls B sA m c' sn sc old [] wo (HO.out.below hB1) hsl (by simp))
   have HB1:=hid hB1
   subst hse
   clear hfw hsl hB1
   go_wp2_with fail
   refine HCA.out.mono ?_
   rintro e w2 ⟨A2,n2,c2,rfl,hs2,hb2⟩
   rw [show carL old []=[] by unfold carL;simp] at hs2
   have HR:Hid (SlE layC w2 A2 n2 c2 []∧Below w.heap.size w w2):=⟨hs2,keepBelow hb2 HB1.out⟩
   clear HCA hs2 hb2
   go_wp2
   refine bodyPost_ret (v:=.tuple #[.slice A2 n2 c2,.int .i64 0]) (by simp [results,Tryz.results19,go_sem]) rfl ⟨A2,n2,c2,rfl,HR.out.1,HR.out.2⟩
end
end Go.Proofs.YtodpincpofoiiaaGreat
