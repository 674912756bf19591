/- Parts of a proof: contracts and laws. -/
import Derived.Test.YtodpincpofoiiaaGreatQM44
import Derived.Test.YtodpincpofoiiaaGreatQM43
import Derived.Test.YtodpincpofoiiaaGreatQM46
import Derived.Test.YtodpincpofoiiaaGreatQM41
import Derived.Test.YtodpincpofoiiaaGreatQM03
set_option maxRecDepth 100000
set_option maxHeartbeats 16000000
namespace Go.Proofs.YtodpincpofoiiaaGreat
section
set_option linter.unusedVariables false
set_option linter.unusedSimpArgs false
open Go.RowKit

structure Cs (w : World) (g : Nat) (B : Option Addr) (n c : Nat) (p : List V) : Prop where
 a:w.cell? ⟨g,0,none⟩=some (.slice B n c)
 s:Sl w B n c p
theorem rayShape1_calls (A B:Option Addr) (n c n' c':Nat) (q p:List V) (g1 g2:Nat) (ux uy:Int) (w:World) (hp:Cs w g1 B n' c' p) (hu:Cf w g2 ux uy) (hS:Sl w A n c q) (h0u:withinB 65536000 ux uy=true) :
  Calls Tryz.prog 85 #[.slice A n c,.pointer (some ⟨g1,0,none⟩),.pointer (some ⟨g2,0,none⟩)] w (Ret (.tuple #[.int .i64 ((lineR (minusL q p) (0,0) (ux,uy)).getD 0),.bool (lineR (minusL q p) (0,0) (ux,uy)).isSome]) w):=by
 obtain ⟨mw,ml⟩:=minus_bd q p
 have HM:=hid (nminus_calls A B n c n' c' q p w hS hp.s)
 have HL:Hid (∀ (A1:Option Addr) (n1 c1:Nat) (w':World),Sl w' A1 n1 c1 (minusL q p)→Calls Tryz.prog 83 #[.slice A1 n1 c1,vecV 0 0,vecV ux uy] w' (Ret (.tuple #[.int .i64 ((lineR (minusL q p) (0,0) (ux,uy)).getD 0),.bool (lineR (minusL q p) (0,0) (ux,uy)).isSome]) w')):=fun A1 n1 c1 w' h=>rline_calls A1 n1 c1 (minusL q p) 0 0 ux uy w' h mw (by omega) rfl h0u
 have hl1:=lt_of_cell hp.a
 have hl2:=lt_of_cell hu.a
 have p0:=hp.a
 obtain ⟨u0,u1⟩:=hu
 clear hS hp h0u mw ml
 generalize (lineR (minusL q p) (0,0) (ux,uy)).getD 0=T at *
 generalize (lineR (minusL q p) (0,0) (ux,uy)).isSome=Bo at *
 generalize minusL q p=D at *
 generalize bothE q p=er at *
 go_enter Tryz.func85,Tryz.ntmps85
 go_wp2_with fail
 refine HM.out.mono ?_
 rintro e w1 ⟨A1,n1,c1,rfl,hD,-,hb⟩
 have k0:=keepCell hb u0
 have k1:=keepCell hb u1
 clear u0 u1 p0
 go_wp2_with fail
 refine (HL.out A1 n1 c1 _ hD).mono ?_
 rintro e w2 ⟨rfl,hb2⟩
 go_wp2
 refine bodyPost_ret (v:=.tuple #[.int .i64 T,.bool Bo]) (by simp [results,Tryz.results85,go_sem]) rfl ⟨rfl,keepBelow hb2 hb⟩
theorem cf_rayShape1_calls (args:Array Value) (w:World):(callFunc 85 args).run Tryz.prog w = .ok (.enter 85 args) w:=by kernel_rfl
end
end Go.Proofs.YtodpincpofoiiaaGreat
namespace Go.Proofs.YtodpincpofoiiaaGreat
section
set_option linter.unusedVariables false
set_option linter.unusedSimpArgs false
open Go.RowKit
def shapeO (L:List BE) (p:List V) (u:V):Option (Nat × Int):=frTo (fun q=>lineR (minusL q p) (0,0) u) L L.length

def shapeV (L:List BE) (p:List V) (u:V):Value:=if bodiesE L≠0 then .tuple #[.int .i64 0,.int .i64 0,.int .i64 (bodiesE L)] else if checkE p≠0 then .tuple #[.int .i64 0,.int .i64 0,.int .i64 (checkE p)] else if withinB 65536000 u.1 u.2=false then .tuple #[.int .i64 0,.int .i64 0,.int .i64 1] else frV (shapeO L p u)
theorem rayShape_calls (A B:Option Addr) (n c n' c':Nat) (L:List BE) (p:List V) (ux uy:Int) (w:World) (hS:SlB w A n c L) (hP:Sl w B n' c' p) :
  Calls Tryz.prog 33 #[.slice A n c,.slice B n' c',vecV ux uy] w (Ret (shapeV L p (ux,uy)) w):=by
 obtain ⟨W,hW⟩:∃ W,W=(w.alloc (.cells #[.slice B n' c'] 25)).alloc (.cells #[.int .i64 ux,.int .i64 uy] 24):=⟨_,rfl⟩
 have p0:W.cell? ⟨w.heap.size,0,none⟩=some (.slice B n' c'):=by rw [hW];go_simp
 have u0:W.cell? ⟨w.heap.size+1,0,none⟩=some (.int .i64 ux):=by rw [hW];go_simp
 have u1:W.cell? ⟨w.heap.size+1,1,none⟩=some (.int .i64 uy):=by rw [hW];go_simp
 have hB:Below w.heap.size w W:=by rw [hW];go_grown
 have HSW:=hid hS
 have HPW:=hid hP
 clear hS hP
 have HE:Hid (shapeV L p (ux,uy)=if bodiesE L≠0 then .tuple #[.int .i64 0,.int .i64 0,.int .i64 (bodiesE L)] else if checkE p≠0 then .tuple #[.int .i64 0,.int .i64 0,.int .i64 (checkE p)] else if withinB 65536000 ux uy=false then .tuple #[.int .i64 0,.int .i64 0,.int .i64 1] else frV (shapeO L p (ux,uy))):=rfl
 have HWU:=hid (rwithin_calls ux uy)
 go_enter Tryz.func33,Tryz.ntmps33
 go_wp2_with fail
 rw [← hW]
 clear hW
 refine (kcheck_calls A n c L _ (HSW.out.below hB)).mono ?_
 rintro e w1 ⟨rfl,hb1⟩
 replace p0:=keepCell hb1 p0
 replace u0:=keepCell hb1 u0
 replace u1:=keepCell hb1 u1
 replace hB:=keepBelow hb1 hB
 clear hb1
 by_cases hE:bodiesE L=0
 case neg =>
  have HR:Hid (shapeV L p (ux,uy) = .tuple #[.int .i64 0,.int .i64 0,.int .i64 (bodiesE L)]):=by show _=_;rw [HE.out,if_pos hE]
  have hne:(bodiesE L != 0)=true:=by simp [hE]
  clear HE
  generalize bodiesE L=z at *
  go_wp2
  refine bodyPost_ret (v:=.tuple #[.int .i64 0,.int .i64 0,.int .i64 z]) (by simp [results,Tryz.results33,go_sem]) rfl ⟨by rw [HR.out],hB⟩
 obtain ⟨h64,hval⟩:=bodiesE_zero hE
 have HV:=hid hval
 rw [if_neg (by simp [hE])] at HE
 rw [hE]
 clear hE hval
 go_wp2_with fail
 refine (check_calls B n' c' p _ (HPW.out.below hB)).mono ?_
 rintro e w2 ⟨rfl,hb2⟩
 replace p0:=keepCell hb2 p0
 replace u0:=keepCell hb2 u0
 replace u1:=keepCell hb2 u1
 replace hB:=keepBelow hb2 hB
 clear hb2
 by_cases hE:checkE p=0
 case neg =>
  have HR:Hid (shapeV L p (ux,uy) = .tuple #[.int .i64 0,.int .i64 0,.int .i64 (checkE p)]):=by show _=_;rw [HE.out,if_pos hE]
  have hne:(checkE p != 0)=true:=by simp [hE]
  clear HE
  generalize checkE p=z at *
  go_wp2
  refine bodyPost_ret (v:=.tuple #[.int .i64 0,.int .i64 0,.int .i64 z]) (by simp [results,Tryz.results33,go_sem]) rfl ⟨by rw [HR.out],hB⟩
 rw [if_neg (by simp [hE])] at HE
 rw [hE]
 clear hE
 go_wp2_with fail
 refine (HWU.out _).mono ?_
 rintro e w3 ⟨rfl,hb3⟩
 replace p0:=keepCell hb3 p0
 replace u0:=keepCell hb3 u0
 replace u1:=keepCell hb3 u1
 replace hB:=keepBelow hb3 hB
 clear hb3 HWU
 cases h2:withinB 65536000 ux uy with
 | false =>
  have HR:Hid (shapeV L p (ux,uy) = .tuple #[.int .i64 0,.int .i64 0,.int .i64 1]):=by show _=_;rw [HE.out,if_pos h2]
  clear HE
  go_wp2
  refine bodyPost_ret (v:=.tuple #[.int .i64 0,.int .i64 0,.int .i64 1]) (by simp [results,Tryz.results33,go_sem]) rfl ⟨by rw [HR.out],hB⟩
 | true =>
  rw [if_neg (by rw [h2];simp)] at HE
  have HP0:Hid (Cs w3 w.heap.size B n' c' p):=⟨p0,HPW.out.below hB⟩
  have HU0:Hid (Cf w3 (w.heap.size+1) ux uy):=⟨u0,u1⟩
  have HC:=hid (rayfirst_calls 85 (.pointer (some ⟨w.heap.size,0,none⟩)) (.pointer (some ⟨w.heap.size+1,0,none⟩)) cf_rayShape1_calls (fun q=>lineR (minusL q p) (0,0) (ux,uy)) A n c L w3 (HSW.out.below hB) HV.out h64 (fun x hx A1 n1 c1 w' hb hs=>rayShape1_calls A1 B n1 c1 n' c' (placeL x.b x.l) p w.heap.size (w.heap.size+1) ux uy w' ⟨keepCell hb HP0.out.a,HP0.out.s.below hb⟩ ⟨keepCell hb HU0.out.a,keepCell hb HU0.out.b⟩ hs h2))
  have HCO:Hid (shapeO L p (ux,uy)=frTo (fun q=>lineR (minusL q p) (0,0) (ux,uy)) L L.length):=rfl
  rw [← HCO.out] at HC
  generalize shapeO L p (ux,uy)=o at *
  clear HCO h2 HP0 HU0 HSW HPW HV
  go_wp2_with fail
  refine HC.out.mono ?_
  rintro e w4 ⟨rfl,hb4⟩
  replace hB:=keepBelow hb4 hB
  clear hb4 HC p0 u0 u1
  have HFV:Hid (frV o = .tuple #[.int .i64 (frI o),.int .i64 (beZ o),.int .i64 (frE o)]):=rfl
  rw [HFV.out] at HE ⊢
  generalize frI o=r1 at *
  generalize beZ o=r2 at *
  generalize frE o=r3 at *
  go_wp2
  refine bodyPost_ret (v:=.tuple #[.int .i64 r1,.int .i64 r2,.int .i64 r3]) (by simp [results,Tryz.results33,go_sem]) rfl ⟨by rw [HE.out],hB⟩
end
end Go.Proofs.YtodpincpofoiiaaGreat
namespace Go.Proofs.YtodpincpofoiiaaGreat
section
set_option linter.unusedVariables false
set_option linter.unusedSimpArgs false
open Go.RowKit
theorem ninside_calls (A:Option Addr) (n c:Nat) (m:List V) (w:World) (hS:Sl w A n c m) (hw:allWithin 131072000 m=true) (h16:m.length≤1000) :
  Calls Tryz.prog 93 #[.slice A n c] w (Ret (.bool (ninB m)) w):=by
 have hn:=hS.len
 subst hn
 have HS:=hid hS
 have HW:=hid hw
 clear hS hw
 go_enter Tryz.func93,Tryz.ntmps93
 go_wp2
 go_loopw [7] (fun j wr=>∃ k:Nat,k≤m.length∧j = .int .i64 k∧(∀ i,i<k→0≤ninC m i)∧Below w.heap.size w wr) (fun j _=>m.length-(intOf j).toNat)
 case atStart=>exact ⟨0,Nat.zero_le _,rfl,fun i h=>absurd h (by omega),Below.refl _ _⟩
 case round =>
  obtain ⟨k,hk,rfl,hnn,hB⟩:=hrel
  obtain ⟨wo,rfl⟩:∃ wo:World,wo=wr:=⟨_,rfl⟩
  by_cases hlt:k<m.length
  ·have hlt' : (k : Int) < (m.length : Int) := by omega
   obtain ⟨b,off,hA,hC⟩:=(HS.out.below hB).at_ (by intro h;rw [h] at hlt;simp at hlt)
   subst hA
   obtain ⟨j,hje⟩:∃ j,j=(k+1) % m.length:=⟨_,rfl⟩
   have hj:j<m.length:=by rw [hje];exact Nat.mod_lt _ (by omega)
   have hji:((k:Int)+1) % (m.length:Int)=(j:Int):=by rw [hje];simp
   have hji2:(((k:Int)+1) % (m.length:Int)).toNat=j:=by omega
   have hji3:((k:Int)+1) % (m.length:Int)<(m.length:Int):=by omega
   have hji4:0≤((k:Int)+1) % (m.length:Int):=by omega
   have hwk:IntKind.i64.wrap ((k:Int)+1)=(k:Int)+1:=IntWalk.i64_in _ (by omega)
   have htm:((k:Int)+1).tmod (m.length:Int)=(j:Int):=by rw [Int.tmod_eq_emod_of_nonneg (by omega)];exact hji
   have hl0:¬ m=[]:=by intro h;rw [h] at hlt;simp at hlt
   have hjl:(j:Int)<(m.length:Int):=by omega
   obtain ⟨a1,a2,a3,a4⟩:=withinB_iff.1 (allWithin_at HW.out hlt)
   obtain ⟨b1,b2,b3,b4⟩:=withinB_iff.1 (allWithin_at HW.out hj)
   have xk:=hC.x k hlt
   have yk:=hC.y k hlt
   have xj:=hC.x j hj
   have yj:=hC.y j hj
   have hbl:=hC.lt
   have HIC:Hid (ninC m k=crsZ (px m k) (py m k) (px m j) (py m j)):=by show _=_;unfold ninC;rw [← hje]
   have HNN:=hid hnn
   generalize px m k=x1 at *
   generalize py m k=y1 at *
   generalize px m j=x2 at *
   generalize py m j=y2 at *
   have HCR:=hid (ncross_calls x1 y1 x2 y2 (by omega) (by omega) (by omega) (by omega))
   obtain ⟨cz,hcz⟩:∃ z,z=crsZ x1 y1 x2 y2:=⟨_,rfl⟩
   rw [← hcz] at HCR HIC
   clear hnn hC hje hcz
   go_upto_region 4 with fail
   obtain ⟨g4,hg4⟩:∃ g,g=wo.heap.size:=⟨_,rfl⟩
   obtain ⟨wz,hwz⟩:∃ wz,wz=wo.alloc (.cells #[.int .i64 x1,.int .i64 y1] 24):=⟨_,rfl⟩
   have z0:wz.cell? ⟨g4,0,none⟩=some (.int .i64 x1):=by rw [hwz,hg4];go_simp
   have z1:wz.cell? ⟨g4,1,none⟩=some (.int .i64 y1):=by rw [hwz,hg4];go_simp
   replace xj:wz.cell? ⟨b,off+j*2,none⟩=some (.int .i64 x2):=by rw [hwz];exact keepCell Ba xj
   replace yj:wz.cell? ⟨b,off+j*2+1,none⟩=some (.int .i64 y2):=by rw [hwz];exact keepCell Ba yj
   have hBz:Below w.heap.size w wz:=by rw [hwz];exact hB.alloc hB.size _
   rw [← hwz,← hg4]
   clear hwz hg4 xk yk hB hbl
   refine wp_region_noPanic ?_
   refine wp_region_U (S:=(S2 (fun w'=>w'.cell? ⟨g4,0,none⟩=some (.int .i64 x1)∧w'.cell? ⟨g4,1,none⟩=some (.int .i64 y1)∧w'.cell? ⟨b,off+j*2,none⟩=some (.int .i64 (x2))∧w'.cell? ⟨b,off+j*2+1,none⟩=some (.int .i64 (y2))∧Below w.heap.size w w'))) (T:=(fun _=>0)) (by kernel_rfl) (S2i0 ⟨z0,z1,xj,yj,hBz.drew⟩) (fun hH=>?_)
   have hWr1:Weaker (S2 (fun w'=>w'.cell? ⟨g4,0,none⟩=some (.int .i64 x1)∧w'.cell? ⟨g4,1,none⟩=some (.int .i64 y1)∧w'.cell? ⟨b,off+j*2,none⟩=some (.int .i64 (x2))∧w'.cell? ⟨b,off+j*2+1,none⟩=some (.int .i64 (y2))∧Below w.heap.size w w')):=weaker2 _
   refine Utn [(0,12),(1,13),(2,14),(3,15),(4,16),(5,17),(6,18),(7,19),(8,20)] 2 0 0 (L':=?Lr1_1) hWr1 hH ?hyr1_1 ?_
   case hyr1_1=>((iterate 9 apply tkC;rfl;kernel_rfl;intro w' hSw;replace hSw:=S2o0 hSw;(try dsimp only at hSw);have q0:=hSw.1;have q1:=hSw.2.1;have q2:=hSw.2.2.1;have q3:=hSw.2.2.2.1;have q4:=hSw.2.2.2.2;(try simp only [sB,sC]);go_simp;(try with_reducible rfl));exact tkN)
   simp only [sB,sC]
   refine U1 9 0 rfl (fun K hK=>?_)
   try clear hb
   go_simp
   (go_at_call 166;refine (HCR.out _).mono ?_;rintro e wn ⟨rfl,hb⟩)
   refine hK.out _ _ ?hsr1_10 (fun hH2=>?hrr1_10)
   case hsr1_10=>exact S2i0 (by have hG:=hH;replace hG:=S2o0 hG;(try dsimp only at hG);have q0:=hG.1;have q1:=hG.2.1;have q2:=hG.2.2.1;have q3:=hG.2.2.2.1;have q4:=hG.2.2.2.2;exact ⟨keepCell hb q0,keepCell hb q1,keepCell hb q2,keepCell hb q3,keepBelow hb q4⟩)
   clear hK K hH
   have hH:=hH2
   clear hH2
   try simp only [Act.put,sA,sB,sC]
   refine Ut 10 22 0 0 0 (v:=?vr1_11) rfl hWr1 hH ?hyr1_11 ?_
   case hyr1_11=>(intro w' hSw;clear hSw;go_simp;try (with_reducible rfl))
   simp only [sB,sC]
   refine wpAnyU_done (by kernel_rfl) ?_ _ _
   refine NoPanic.normal ?_
   clear hWr1
   replace hH:=S2o0 hH
   (try dsimp only at hH)
   have q0:=hH.1
   have q1:=hH.2.1
   have q2:=hH.2.2.1
   have q3:=hH.2.2.2.1
   have q4:=hH.2.2.2.2
   clear hH hb q0 q1 q2 q3 HCR z0 z1 xj yj hBz
   by_cases hneg:cz<0
   ·have HR:Hid (ninB m=false):=by
     show _=_
     unfold ninB
     rw [decide_eq_false_iff_not]
     intro h
     have:=h k hlt
     rw [HIC.out] at this
     omega
    go_wp2
    go_returns
    exact ret_bool HR.out.symm q4
   ·have HN2:Hid (∀ i,i<k+1→0≤ninC m i):=fun i h=>by
     rcases Nat.lt_or_ge i k with g | g
     ·exact HNN.out i g
     ·have : i = k := by omega
      rw [this,HIC.out];omega
    clear HNN HIC
    go_wp2
    go_roundw
    case rel=>exact ⟨k+1,hlt,by go_num,HN2.out,q4⟩
    case measure=>simp [intOf];omega
  ·have hke : k = m.length := by omega
   have HR:Hid (ninB m=true):=by show _=_;unfold ninB;rw [decide_eq_true_iff,← hke];exact hnn
   clear hnn
   go_wp2
   go_returns
   exact ret_bool HR.out.symm hB
theorem greatest_any (g : Nat) (caps : Array Value) (p : Int → Bool) (r : Int) (w : World) (h0 : 0 ≤ r) (h1 : r < 536870912) (hp : ∀ n, 0 ≤ n → n < 536870912 → (p n = true ↔ n ≤ r)) (hcf : ∀ (args : Array Value) (w : World), (callFunc g args).run Tryz.prog w = .ok (.enter g args) w)
  (hg:∀ n w',0≤n→n<536870912→Below w.heap.size w w'→Calls Tryz.prog g (#[.int .i64 n] ++ caps) w' (Ret (.bool (p n)) w')) :
  Calls Tryz.prog 175 #[.func (.func g) #[] caps] w (Ret (.int .i64 r) w):=by
 have HP:=hid hp
 have HG:=hid hg
 clear hp hg
 go_enter Tryz.func175,Tryz.ntmps175
 go_wp2
 go_loopw [3,4] (fun a b wr=>∃ lo hi:Int,a = .int .i64 lo∧b = .int .i64 hi∧0≤lo∧lo<hi∧hi≤536870912∧lo≤r∧r<hi∧Below w.heap.size w wr) (fun a b _=>(intOf b-intOf a).toNat)
 case atStart=>exact ⟨0,536870912,rfl,rfl,by omega,by omega,by omega,h0,h1,Below.refl _ _⟩
 case round =>
  obtain ⟨lo,hi,rfl,rfl,b0,b1,b2,s1,s2,hB⟩:=hrel
  obtain ⟨wo,rfl⟩:∃ wo:World,wo=wr:=⟨_,rfl⟩
  have w1:IntKind.i64.wrap (hi-lo)=hi-lo:=IntWalk.i64_in _ (by omega)
  by_cases hgt:1<hi-lo
  ·obtain ⟨m, hm⟩ : ∃ m, m = (lo + hi) / 2 := ⟨_, rfl⟩
   have w2:IntKind.i64.wrap (lo+hi)=lo+hi:=IntWalk.i64_in _ (by omega)
   have w3:(lo+hi).tdiv 2=m:=by rw [Int.tdiv_eq_ediv_of_nonneg (by omega),hm]
   have w4:IntKind.i64.wrap m=m:=IntWalk.i64_in _ (by omega)
   have hm1:lo<m:=by omega
   have hm2:m<hi:=by omega
   clear hm
   have hpm:=HP.out m (by omega) (by omega)
   have HGM:=hid (HG.out m wo (by omega) (by omega) hB)
   cases hv:p m with
   | true =>
    have hmr:=hpm.1 hv
    rw [hv] at HGM
    clear hv hpm
    go_wp2_with fail
    refine HGM.out.mono ?_
    rintro e w5 ⟨rfl,hb5⟩
    have hB5:=keepBelow hb5 hB
    clear hb5 hB HGM
    go_wp2
    go_roundw
    case rel=>exact ⟨m,hi,rfl,rfl,by omega,by omega,b2,hmr,s2,hB5⟩
    case measure=>simp [intOf];omega
   | false =>
    have hmr:r<m:=by
     rcases Int.lt_or_le r m with g | g
     ·exact g
     ·have:=hpm.2 g;rw [hv] at this;cases this
    rw [hv] at HGM
    clear hv hpm
    go_wp2_with fail
    refine HGM.out.mono ?_
    rintro e w5 ⟨rfl,hb5⟩
    have hB5:=keepBelow hb5 hB
    clear hb5 hB HGM
    go_wp2
    go_roundw
    case rel=>exact ⟨lo,m,rfl,rfl,by omega,by omega,by omega,s1,hmr,hB5⟩
    case measure=>simp [intOf];omega
  ·have he : r = lo := by omega
   have HR:=hid he
   clear he s1 s2
   go_wp2
   go_returns
   exact ret_int HR.out.symm hB
end
end Go.Proofs.YtodpincpofoiiaaGreat
