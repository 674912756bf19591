/- The walk of KeepSays. -/
import Derived.Test.YtiaoandbdgdecaaGreatPK39
import Derived.Test.YtiaoandbdgdecaaGreatPK49
import Derived.Test.YtiaoandbdgdecaaGreatPK40
import Derived.Test.YtiaoandbdgdecaaGreatPK04
set_option maxRecDepth 100000
set_option maxHeartbeats 16000000
namespace Go.Proofs.YtiaoandbdgdecaaGreat
section
set_option linter.unusedVariables false
set_option linter.unusedSimpArgs false
open Go.RowKit

structure T3 (w : World) (g : Nat) (a b c : Int) : Prop where
 a:w.cell? ⟨g,0,none⟩=some (.int .i64 a)
 b:w.cell? ⟨g,1,none⟩=some (.int .i64 b)
 c:w.cell? ⟨g,2,none⟩=some (.int .i64 c)
theorem keepT3 {w w':World} {g:Nat} {a b c:Int} (hb:Below w.heap.size w w') (h:T3 w g a b c):T3 w' g a b c:=⟨keepCell hb h.a,keepCell hb h.b,keepCell hb h.c⟩
theorem T3.drew {w:World} {g:Nat} {a b c:Int} (h:T3 w g a b c):T3 w.drew g a b c:=⟨h.a,h.b,h.c⟩
theorem T3.here (w:World) (a b c:Int) (t:TypeId):T3 (w.alloc (.cells #[.int .i64 a,.int .i64 b,.int .i64 c] t)) w.heap.size a b c:=⟨by go_simp,by go_simp,by go_simp⟩
theorem keepSays_walk (A B D:Option Addr) (n c m c' p c2:Nat) (L:List BE) (old F:List Ct) (w:World) (hS:SlB w A n c L) (hO:SlE layC w B m c' old) (hF:SlE layC w D p c2 F):Calls Tryz.prog 4 #[.slice A n c,.slice B m c',.slice D p c2] w (Ret (.bool true) w):=by
 have hn:=hS.sl.len
 have hm:=hO.len
 have hp:=hF.len
 subst hn hm hp
 have HS:=hid hS
 have HO:=hid hO
 have HF:=hid hF
 have hcap:=hS.sl.cap
 have hbig:=hS.sl.big
 have hcapO:=hO.cap
 have hbigO:=hO.big
 have hcapF:=hF.cap
 have hbigF:=hF.big
 clear hS hO hF
 go_enter Tryz.func4,Tryz.ntmps4
 go_wp2_with fail
 refine (keepBegun_calls _).mono ?_
 rintro e w1 ⟨rfl,hB1⟩
 obtain ⟨mm,hmm⟩:∃ mm:Nat,mm=min old.length 5:=⟨_,rfl⟩
 have hmO:mm≤old.length:=by omega
 have hrmin:∀ (ts:Array TypeId) (t:TypeId) (w:World),(Builtin.min_ ts t #[.int .i64 (old.length:Int),.int .i64 5]).run Tryz.prog w = .ok (.int .i64 (mm:Int)) w:=fun ts t w=>by
  rw [run_min_int2]
  congr 2
  omega
 have hmc:(mm:Int)≤(c':Int):=by omega
 have hm0:0≤(mm:Int):=by omega
 clear hmm
 go_wp2
 go_loopw [20] (fun i wr=>∃ t:Nat,t≤F.length∧t≤61∧i = .int .i64 t∧Below w.heap.size w wr) (fun i _=>F.length-(intOf i).toNat)
 case atStart=>exact ⟨0,Nat.zero_le _,by omega,rfl,hB1⟩
 case round =>
  clear hB1
  obtain ⟨t,ht,ht61,rfl,hB⟩:=hrel
  obtain ⟨wo,rfl⟩:∃ wo:World,wo=wr:=⟨_,rfl⟩
  by_cases hlt:t<F.length
  ·obtain ⟨x, hx⟩ : ∃ x, x = F[t] := ⟨_, rfl⟩
   obtain ⟨bF,oF,hA,hCF⟩:=(HF.out.below hB).at_ (by intro h;rw [h] at hlt;simp at hlt)
   subst hA
   obtain ⟨d0,d1,d2,d3,d4,d5,d6,d7,d8,d9⟩:=cells_ct hCF hlt hx
   have hbl:=hCF.lt
   have hlt':(t:Int)<(F.length:Int):=by omega
   have hwt:IntKind.i64.wrap ((t:Int)+1)=(t:Int)+1:=IntWalk.i64_in _ (by omega)
   obtain ⟨gx,hgx⟩:∃ g,g=wo.heap.size:=⟨_,rfl⟩
   obtain ⟨wp,hwp⟩:∃ w',w'=wo.alloc (.cells #[.int .i64 x.a,.int .i64 x.b,.int .i64 x.id,.int .i64 x.px,.int .i64 x.py,.int .i64 x.nx,.int .i64 x.ny,.int .i64 x.dep,.int .i64 x.push,.int .i64 x.sli] 40):=⟨_,rfl⟩
   have hbw:Below wo.heap.size wo wp:=by rw [hwp];go_grown
   have HK1:Hid (Kg wp gx x):=by rw [hwp,hgx];exact ⟨by go_simp,by go_simp,by go_simp,by go_simp,by go_simp,by go_simp,by go_simp,by go_simp,by go_simp,by go_simp⟩
   have hBp:=keepBelow hbw hB
   have hgw:w.heap.size≤gx:=by rw [hgx];exact hB.size
   clear hCF hx hbw hB
   go_wp2
   rw [← hwp,← hgx]
   clear hwp hgx d0 d1 d2 d3 d4 d5 d6 d7 d8 d9 hbl
   go_loopw [31] (fun i wr=>∃ v:Nat,v≤mm∧i = .int .i64 v∧Below w.heap.size w wr∧Kg wr gx x) (fun i _=>mm-(intOf i).toNat)
   case atStart=>exact ⟨0,Nat.zero_le _,rfl,hBp,HK1.out⟩
   case round =>
    clear hBp HK1
    obtain ⟨v,hv,rfl,hB,hkx⟩:=hrel
    obtain ⟨wz,rfl⟩:∃ wz:World,wz=wr:=⟨_,rfl⟩
    by_cases hlt2:v<mm
    ·have hvO : v < old.length := by omega
     obtain ⟨y,hy⟩:∃ y,y=old[v]:=⟨_,rfl⟩
     obtain ⟨bO,oO,hA,hCO⟩:=(HO.out.below hB).at_ (by intro h;rw [h] at hvO;simp at hvO)
     subst hA
     obtain ⟨d0,d1,d2,d3,d4,d5,d6,d7,d8,d9⟩:=cells_ct hCO hvO hy
     have hbl:=hCO.lt
     have hlt2':(v:Int)<(mm:Int):=by omega
     have hwv:IntKind.i64.wrap ((v:Int)+1)=(v:Int)+1:=IntWalk.i64_in _ (by omega)
     obtain ⟨gy,hgy⟩:∃ g,g=wz.heap.size:=⟨_,rfl⟩
     obtain ⟨wj,hwj⟩:∃ w',w'=wz.alloc (.cells #[.int .i64 y.a,.int .i64 y.b,.int .i64 y.id,.int .i64 y.px,.int .i64 y.py,.int .i64 y.nx,.int .i64 y.ny,.int .i64 y.dep,.int .i64 y.push,.int .i64 y.sli] 40):=⟨_,rfl⟩
     have hbw:Below wz.heap.size wz wj:=by rw [hwj];go_grown
     have HKX:=hid (keepKg hbw hkx)
     have HKY:Hid (Kg wj gy y):=by rw [hwj,hgy];exact ⟨by go_simp,by go_simp,by go_simp,by go_simp,by go_simp,by go_simp,by go_simp,by go_simp,by go_simp,by go_simp⟩
     have HBJ:=hid (keepBelow hbw hB)
     have HOR:=hid (order_calls x y)
     have HZZ:Hid (ordC x y=or3Z (sgK x.a y.a) (sgK x.b y.b) (sgK x.id y.id)):=rfl
     generalize ordC x y=z at *
     clear hCO hy hbw hB hkx
     go_upto_region 9 with fail
     rw [← hwj,← hgy]
     clear hwj hgy d0 d1 d2 d3 d4 d5 d6 d7 d8 d9 hbl
     refine wp_region_noPanic ?_
     refine wp_region_U (S:=(S2 (fun w'=>Kg w' gx x∧Kg w' gy y∧Below w.heap.size w w'))) (T:=(fun _=>0)) (by kernel_rfl) (S2i0 ⟨HKX.out.drew,HKY.out.drew,HBJ.out.drew⟩) (fun hH=>?_)
     have hWr5:Weaker (S2 (fun w'=>Kg w' gx x∧Kg w' gy y∧Below w.heap.size w w')):=weaker2 _
     refine Utn [(0,35),(1,36),(3,38),(4,39),(5,40),(6,41),(7,42),(8,43),(10,45),(11,46),(12,47),(13,48),(14,49),(15,50)] 5 0 0 (L':=?Lr5_1) hWr5 hH ?hyr5_1 ?_
     case hyr5_1=>((iterate 14 apply tkC;rfl;kernel_rfl;intro w' hSw;replace hSw:=S2o0 hSw;(try dsimp only at hSw);have q0:=hSw.1;have q1:=hSw.2.1;have q2:=hSw.2.2;obtain ⟨qa0_0,qa0_1,qa0_2,qa0_3,qa0_4,qa0_5,qa0_6,qa0_7,qa0_8,qa0_9⟩:=id q0;obtain ⟨qa1_0,qa1_1,qa1_2,qa1_3,qa1_4,qa1_5,qa1_6,qa1_7,qa1_8,qa1_9⟩:=id q1;(try simp only [sB,sC]);go_simp;(try with_reducible rfl));exact tkN)
     simp only [sB,sC]
     refine Ur [2,9,16] ?_
     refine Uc 0 rfl (fun K hK=>?_) ?_
     ·try clear hb
      go_simp
      (go_at_call 13;refine (HOR.out _).mono ?_;rintro e wn ⟨rfl,hb⟩)
      refine hK.out _ _ ?hsr5_15 (fun hH2=>?hrr5_15)
      case hsr5_15=>exact S2i0 (by have hG:=hH;replace hG:=S2o0 hG;(try dsimp only at hG);have q0:=hG.1;have q1:=hG.2.1;have q2:=hG.2.2;exact ⟨keepKg hb q0,keepKg hb q1,keepBelow hb q2⟩)
      clear hK K hH
      have hH:=hH2
      clear hH2
      try simp only [Act.put,sA,sB,sC]
      refine Ur [9,16] ?_
      refine Uc 0 rfl (fun K hK=>?_) ?_
      ·try clear hb
       have hG:=hH
       replace hG:=S2o0 hG;(try dsimp only at hG);have q0:=hG.1;have q1:=hG.2.1;have q2:=hG.2.2
       go_simp
       refine hK.out _ _ ?hsr5_16 (fun hH2=>?hrr5_16)
       case hsr5_16=>exact S2i0 (by have hG:=hH;replace hG:=S2o0 hG;(try dsimp only at hG);have q0:=hG.1;have q1:=hG.2.1;have q2:=hG.2.2;exact ⟨keepKg Ba q0,keepKg Ba q1,keepBelow Ba q2⟩)
       clear hK K hH
       have hH:=hH2
       clear hH2
       try simp only [Act.put,sA,sB,sC]
       have hP:T3 (wn.alloc (.cells #[.int .i64 x.a,.int .i64 x.b,.int .i64 x.id] 3)) wn.heap.size x.a x.b x.id:=T3.here wn _ _ _ _
       obtain ⟨gP,hgP⟩:∃ g,g=wn.heap.size:=⟨_,rfl⟩
       have hlP:gx<gP:=by rw [hgP];exact lt_of_cell q0.c0
       rw [← hgP] at hP
       try rw [← hgP]
       clear hgP q0 q1 q2
       generalize wn.alloc (.cells #[.int .i64 x.a,.int .i64 x.b,.int .i64 x.id] 3)=wx9 at *
       refine U1 16 0 rfl (fun K hK=>?_)
       try clear hb
       have hG:=hH
       replace hG:=S2o0 hG;(try dsimp only at hG);have q0:=hG.1;have q1:=hG.2.1;have q2:=hG.2.2
       go_simp
       refine hK.out _ _ ?hsr5_17 (fun hH2=>?hrr5_17)
       case hsr5_17=>exact S2i0 (by have hG:=hH;replace hG:=S2o0 hG;(try dsimp only at hG);have q0:=hG.1;have q1:=hG.2.1;have q2:=hG.2.2;exact ⟨keepKg Ba q0,keepKg Ba q1,keepBelow Ba q2⟩)
       clear hK K hH
       have hH:=hH2
       clear hH2
       try simp only [Act.put,sA,sB,sC]
       have hQ:T3 (wx9.alloc (.cells #[.int .i64 y.a,.int .i64 y.b,.int .i64 y.id] 3)) wx9.heap.size y.a y.b y.id:=T3.here wx9 _ _ _ _
       replace hP:=keepT3 ((Below.refl _ _).alloc (Nat.le_refl _) (.cells #[.int .i64 y.a,.int .i64 y.b,.int .i64 y.id] 3)) hP
       obtain ⟨gQ,hgQ⟩:∃ g,g=wx9.heap.size:=⟨_,rfl⟩
       have hlQ:gx<gQ:=by rw [hgQ];exact lt_of_cell q0.c0
       rw [← hgQ] at hQ
       try rw [← hgQ]
       clear hgQ q0 q1 q2
       generalize wx9.alloc (.cells #[.int .i64 y.a,.int .i64 y.b,.int .i64 y.id] 3)=wx16 at *
       refine U1 17 0 rfl (fun K hK=>?_)
       try clear hb
       go_simp
       (go_at_call 18;refine (cmp3_calls gP gQ 3 3 x.a x.b x.id y.a y.b y.id _ hP.a hP.b hP.c hQ.a hQ.b hQ.c).mono ?_;rw [← HZZ.out];rintro e wn ⟨rfl,hb⟩)
       refine hK.out _ _ ?hsr5_18 (fun hH2=>?hrr5_18)
       case hsr5_18=>exact S2i0 (by have hG:=hH;replace hG:=S2o0 hG;(try dsimp only at hG);have q0:=hG.1;have q1:=hG.2.1;have q2:=hG.2.2;exact ⟨keepKg hb q0,keepKg hb q1,keepBelow hb q2⟩)
       clear hK K hH
       have hH:=hH2
       clear hH2
       try simp only [Act.put,sA,sB,sC]
       refine Ut 18 53 0 0 0 (v:=?vr5_19) rfl hWr5 hH ?hyr5_19 ?_
       case hyr5_19=>(intro w' hSw;clear hSw;go_simp;try (with_reducible rfl))
       simp only [sB,sC]
       refine wpAnyU_done (by kernel_rfl) ?_ _ _
       refine NoPanic.normal ?_
       try clear hWr5
       replace hH:=S2o0 hH
       (try dsimp only at hH)
       have t0:=hH.1
       have t1:=hH.2.1
       have t2:=hH.2.2
       have hB9:=And.intro t2 t0
       clear t0 t1 t2 hH
       try clear hb
       try clear hP
       try clear hQ
       try clear hlP
       try clear hlQ
       go_wp2
       go_roundw
       case rel=>exact ⟨v+1,hlt2,by go_num,hB9.1,hB9.2⟩
       case measure=>simp [intOf];omega
      refine Uc 0 rfl (fun K hK=>?_) ?_
      ·try clear hb
       have hG:=hH
       replace hG:=S2o0 hG;(try dsimp only at hG);have q0:=hG.1;have q1:=hG.2.1;have q2:=hG.2.2
       go_simp
       refine hK.out _ _ ?hsr5_20 (fun hH2=>?hrr5_20)
       case hsr5_20=>exact S2i0 (by have hG:=hH;replace hG:=S2o0 hG;(try dsimp only at hG);have q0:=hG.1;have q1:=hG.2.1;have q2:=hG.2.2;exact ⟨keepKg Ba q0,keepKg Ba q1,keepBelow Ba q2⟩)
       clear hK K hH
       have hH:=hH2
       clear hH2
       try simp only [Act.put,sA,sB,sC]
       have hQ:T3 (wn.alloc (.cells #[.int .i64 y.a,.int .i64 y.b,.int .i64 y.id] 3)) wn.heap.size y.a y.b y.id:=T3.here wn _ _ _ _
       obtain ⟨gQ,hgQ⟩:∃ g,g=wn.heap.size:=⟨_,rfl⟩
       have hlQ:gx<gQ:=by rw [hgQ];exact lt_of_cell q0.c0
       rw [← hgQ] at hQ
       try rw [← hgQ]
       clear hgQ q0 q1 q2
       generalize wn.alloc (.cells #[.int .i64 y.a,.int .i64 y.b,.int .i64 y.id] 3)=wx16 at *
       refine U1 9 0 rfl (fun K hK=>?_)
       try clear hb
       have hG:=hH
       replace hG:=S2o0 hG;(try dsimp only at hG);have q0:=hG.1;have q1:=hG.2.1;have q2:=hG.2.2
       go_simp
       refine hK.out _ _ ?hsr5_21 (fun hH2=>?hrr5_21)
       case hsr5_21=>exact S2i0 (by have hG:=hH;replace hG:=S2o0 hG;(try dsimp only at hG);have q0:=hG.1;have q1:=hG.2.1;have q2:=hG.2.2;exact ⟨keepKg Ba q0,keepKg Ba q1,keepBelow Ba q2⟩)
       clear hK K hH
       have hH:=hH2
       clear hH2
       try simp only [Act.put,sA,sB,sC]
       have hP:T3 (wx16.alloc (.cells #[.int .i64 x.a,.int .i64 x.b,.int .i64 x.id] 3)) wx16.heap.size x.a x.b x.id:=T3.here wx16 _ _ _ _
       replace hQ:=keepT3 ((Below.refl _ _).alloc (Nat.le_refl _) (.cells #[.int .i64 x.a,.int .i64 x.b,.int .i64 x.id] 3)) hQ
       obtain ⟨gP,hgP⟩:∃ g,g=wx16.heap.size:=⟨_,rfl⟩
       have hlP:gx<gP:=by rw [hgP];exact lt_of_cell q0.c0
       rw [← hgP] at hP
       try rw [← hgP]
       clear hgP q0 q1 q2
       generalize wx16.alloc (.cells #[.int .i64 x.a,.int .i64 x.b,.int .i64 x.id] 3)=wx9 at *
       refine U1 17 0 rfl (fun K hK=>?_)
       try clear hb
       go_simp
       (go_at_call 18;refine (cmp3_calls gP gQ 3 3 x.a x.b x.id y.a y.b y.id _ hP.a hP.b hP.c hQ.a hQ.b hQ.c).mono ?_;rw [← HZZ.out];rintro e wn ⟨rfl,hb⟩)
       refine hK.out _ _ ?hsr5_22 (fun hH2=>?hrr5_22)
       case hsr5_22=>exact S2i0 (by have hG:=hH;replace hG:=S2o0 hG;(try dsimp only at hG);have q0:=hG.1;have q1:=hG.2.1;have q2:=hG.2.2;exact ⟨keepKg hb q0,keepKg hb q1,keepBelow hb q2⟩)
       clear hK K hH
       have hH:=hH2
       clear hH2
       try simp only [Act.put,sA,sB,sC]
       refine Ut 18 53 0 0 0 (v:=?vr5_23) rfl hWr5 hH ?hyr5_23 ?_
       case hyr5_23=>(intro w' hSw;clear hSw;go_simp;try (with_reducible rfl))
       simp only [sB,sC]
       refine wpAnyU_done (by kernel_rfl) ?_ _ _
       refine NoPanic.normal ?_
       try clear hWr5
       replace hH:=S2o0 hH
       (try dsimp only at hH)
       have t0:=hH.1
       have t1:=hH.2.1
       have t2:=hH.2.2
       have hB9:=And.intro t2 t0
       clear t0 t1 t2 hH
       try clear hb
       try clear hP
       try clear hQ
       try clear hlP
       try clear hlQ
       go_wp2
       go_roundw
       case rel=>exact ⟨v+1,hlt2,by go_num,hB9.1,hB9.2⟩
       case measure=>simp [intOf];omega
      exact AllReadyU.nil
     refine Uc 0 rfl (fun K hK=>?_) ?_
     ·try clear hb
      have hG:=hH
      replace hG:=S2o0 hG;(try dsimp only at hG);have q0:=hG.1;have q1:=hG.2.1;have q2:=hG.2.2
      go_simp
      refine hK.out _ _ ?hsr5_24 (fun hH2=>?hrr5_24)
      case hsr5_24=>exact S2i0 (by have hG:=hH;replace hG:=S2o0 hG;(try dsimp only at hG);have q0:=hG.1;have q1:=hG.2.1;have q2:=hG.2.2;exact ⟨keepKg Ba q0,keepKg Ba q1,keepBelow Ba q2⟩)
      clear hK K hH
      have hH:=hH2
      clear hH2
      try simp only [Act.put,sA,sB,sC]
      have hP:T3 ((wj.alloc (.cells #[.int .i64 x.a,.int .i64 x.b,.int .i64 x.id] 3)).drew) wj.heap.size x.a x.b x.id:=T3.drew (T3.here wj _ _ _ _)
      obtain ⟨gP,hgP⟩:∃ g,g=wj.heap.size:=⟨_,rfl⟩
      have hlP:gx<gP:=by rw [hgP];exact lt_of_cell q0.c0
      rw [← hgP] at hP
      try rw [← hgP]
      clear hgP q0 q1 q2
      generalize (wj.alloc (.cells #[.int .i64 x.a,.int .i64 x.b,.int .i64 x.id] 3)).drew=wx9 at *
      refine Ur [2,16] ?_
      refine Uc 0 rfl (fun K hK=>?_) ?_
      ·try clear hb
       go_simp
       (go_at_call 13;refine (HOR.out _).mono ?_;rintro e wn ⟨rfl,hb⟩)
       refine hK.out _ _ ?hsr5_25 (fun hH2=>?hrr5_25)
       case hsr5_25=>exact S2i0 (by have hG:=hH;replace hG:=S2o0 hG;(try dsimp only at hG);have q0:=hG.1;have q1:=hG.2.1;have q2:=hG.2.2;exact ⟨keepKg hb q0,keepKg hb q1,keepBelow hb q2⟩)
       clear hK K hH
       have hH:=hH2
       clear hH2
       try simp only [Act.put,sA,sB,sC]
       replace hP:=keepT3 hb hP
       refine U1 16 0 rfl (fun K hK=>?_)
       try clear hb
       have hG:=hH
       replace hG:=S2o0 hG;(try dsimp only at hG);have q0:=hG.1;have q1:=hG.2.1;have q2:=hG.2.2
       go_simp
       refine hK.out _ _ ?hsr5_26 (fun hH2=>?hrr5_26)
       case hsr5_26=>exact S2i0 (by have hG:=hH;replace hG:=S2o0 hG;(try dsimp only at hG);have q0:=hG.1;have q1:=hG.2.1;have q2:=hG.2.2;exact ⟨keepKg Ba q0,keepKg Ba q1,keepBelow Ba q2⟩)
       clear hK K hH
       have hH:=hH2
       clear hH2
       try simp only [Act.put,sA,sB,sC]
       have hQ:T3 (wn.alloc (.cells #[.int .i64 y.a,.int .i64 y.b,.int .i64 y.id] 3)) wn.heap.size y.a y.b y.id:=T3.here wn _ _ _ _
       replace hP:=keepT3 ((Below.refl _ _).alloc (Nat.le_refl _) (.cells #[.int .i64 y.a,.int .i64 y.b,.int .i64 y.id] 3)) hP
       obtain ⟨gQ,hgQ⟩:∃ g,g=wn.heap.size:=⟨_,rfl⟩
       have hlQ:gx<gQ:=by rw [hgQ];exact lt_of_cell q0.c0
       rw [← hgQ] at hQ
       try rw [← hgQ]
       clear hgQ q0 q1 q2
       generalize wn.alloc (.cells #[.int .i64 y.a,.int .i64 y.b,.int .i64 y.id] 3)=wx16 at *
       refine U1 17 0 rfl (fun K hK=>?_)
       try clear hb
       go_simp
       (go_at_call 18;refine (cmp3_calls gP gQ 3 3 x.a x.b x.id y.a y.b y.id _ hP.a hP.b hP.c hQ.a hQ.b hQ.c).mono ?_;rw [← HZZ.out];rintro e wn ⟨rfl,hb⟩)
       refine hK.out _ _ ?hsr5_27 (fun hH2=>?hrr5_27)
       case hsr5_27=>exact S2i0 (by have hG:=hH;replace hG:=S2o0 hG;(try dsimp only at hG);have q0:=hG.1;have q1:=hG.2.1;have q2:=hG.2.2;exact ⟨keepKg hb q0,keepKg hb q1,keepBelow hb q2⟩)
       clear hK K hH
       have hH:=hH2
       clear hH2
       try simp only [Act.put,sA,sB,sC]
       refine Ut 18 53 0 0 0 (v:=?vr5_28) rfl hWr5 hH ?hyr5_28 ?_
       case hyr5_28=>(intro w' hSw;clear hSw;go_simp;try (with_reducible rfl))
       simp only [sB,sC]
       refine wpAnyU_done (by kernel_rfl) ?_ _ _
       refine NoPanic.normal ?_
       try clear hWr5
       replace hH:=S2o0 hH
       (try dsimp only at hH)
       have t0:=hH.1
       have t1:=hH.2.1
       have t2:=hH.2.2
       have hB9:=And.intro t2 t0
       clear t0 t1 t2 hH
       try clear hb
       try clear hP
       try clear hQ
       try clear hlP
       try clear hlQ
       go_wp2
       go_roundw
       case rel=>exact ⟨v+1,hlt2,by go_num,hB9.1,hB9.2⟩
       case measure=>simp [intOf];omega
      refine Uc 0 rfl (fun K hK=>?_) ?_
      ·try clear hb
       have hG:=hH
       replace hG:=S2o0 hG;(try dsimp only at hG);have q0:=hG.1;have q1:=hG.2.1;have q2:=hG.2.2
       go_simp
       refine hK.out _ _ ?hsr5_29 (fun hH2=>?hrr5_29)
       case hsr5_29=>exact S2i0 (by have hG:=hH;replace hG:=S2o0 hG;(try dsimp only at hG);have q0:=hG.1;have q1:=hG.2.1;have q2:=hG.2.2;exact ⟨keepKg Ba q0,keepKg Ba q1,keepBelow Ba q2⟩)
       clear hK K hH
       have hH:=hH2
       clear hH2
       try simp only [Act.put,sA,sB,sC]
       have hQ:T3 (wx9.alloc (.cells #[.int .i64 y.a,.int .i64 y.b,.int .i64 y.id] 3)) wx9.heap.size y.a y.b y.id:=T3.here wx9 _ _ _ _
       replace hP:=keepT3 ((Below.refl _ _).alloc (Nat.le_refl _) (.cells #[.int .i64 y.a,.int .i64 y.b,.int .i64 y.id] 3)) hP
       obtain ⟨gQ,hgQ⟩:∃ g,g=wx9.heap.size:=⟨_,rfl⟩
       have hlQ:gx<gQ:=by rw [hgQ];exact lt_of_cell q0.c0
       rw [← hgQ] at hQ
       try rw [← hgQ]
       clear hgQ q0 q1 q2
       generalize wx9.alloc (.cells #[.int .i64 y.a,.int .i64 y.b,.int .i64 y.id] 3)=wx16 at *
       refine U1 2 0 rfl (fun K hK=>?_)
       try clear hb
       go_simp
       (go_at_call 13;refine (HOR.out _).mono ?_;rintro e wn ⟨rfl,hb⟩)
       refine hK.out _ _ ?hsr5_30 (fun hH2=>?hrr5_30)
       case hsr5_30=>exact S2i0 (by have hG:=hH;replace hG:=S2o0 hG;(try dsimp only at hG);have q0:=hG.1;have q1:=hG.2.1;have q2:=hG.2.2;exact ⟨keepKg hb q0,keepKg hb q1,keepBelow hb q2⟩)
       clear hK K hH
       have hH:=hH2
       clear hH2
       try simp only [Act.put,sA,sB,sC]
       replace hP:=keepT3 hb hP
       replace hQ:=keepT3 hb hQ
       refine U1 17 0 rfl (fun K hK=>?_)
       try clear hb
       go_simp
       (go_at_call 18;refine (cmp3_calls gP gQ 3 3 x.a x.b x.id y.a y.b y.id _ hP.a hP.b hP.c hQ.a hQ.b hQ.c).mono ?_;rw [← HZZ.out];rintro e wn ⟨rfl,hb⟩)
       refine hK.out _ _ ?hsr5_31 (fun hH2=>?hrr5_31)
       case hsr5_31=>exact S2i0 (by have hG:=hH;replace hG:=S2o0 hG;(try dsimp only at hG);have q0:=hG.1;have q1:=hG.2.1;have q2:=hG.2.2;exact ⟨keepKg hb q0,keepKg hb q1,keepBelow hb q2⟩)
       clear hK K hH
       have hH:=hH2
       clear hH2
       try simp only [Act.put,sA,sB,sC]
       refine Ut 18 53 0 0 0 (v:=?vr5_32) rfl hWr5 hH ?hyr5_32 ?_
       case hyr5_32=>(intro w' hSw;clear hSw;go_simp;try (with_reducible rfl))
       simp only [sB,sC]
       refine wpAnyU_done (by kernel_rfl) ?_ _ _
       refine NoPanic.normal ?_
       try clear hWr5
       replace hH:=S2o0 hH
       (try dsimp only at hH)
       have t0:=hH.1
       have t1:=hH.2.1
       have t2:=hH.2.2
       have hB9:=And.intro t2 t0
       clear t0 t1 t2 hH
       try clear hb
       try clear hP
       try clear hQ
       try clear hlP
       try clear hlQ
       go_wp2
       go_roundw
       case rel=>exact ⟨v+1,hlt2,by go_num,hB9.1,hB9.2⟩
       case measure=>simp [intOf];omega
      exact AllReadyU.nil
     refine Uc 0 rfl (fun K hK=>?_) ?_
     ·try clear hb
      have hG:=hH
      replace hG:=S2o0 hG;(try dsimp only at hG);have q0:=hG.1;have q1:=hG.2.1;have q2:=hG.2.2
      go_simp
      refine hK.out _ _ ?hsr5_33 (fun hH2=>?hrr5_33)
      case hsr5_33=>exact S2i0 (by have hG:=hH;replace hG:=S2o0 hG;(try dsimp only at hG);have q0:=hG.1;have q1:=hG.2.1;have q2:=hG.2.2;exact ⟨keepKg Ba q0,keepKg Ba q1,keepBelow Ba q2⟩)
      clear hK K hH
      have hH:=hH2
      clear hH2
      try simp only [Act.put,sA,sB,sC]
      have hQ:T3 ((wj.alloc (.cells #[.int .i64 y.a,.int .i64 y.b,.int .i64 y.id] 3)).drew) wj.heap.size y.a y.b y.id:=T3.drew (T3.here wj _ _ _ _)
      obtain ⟨gQ,hgQ⟩:∃ g,g=wj.heap.size:=⟨_,rfl⟩
      have hlQ:gx<gQ:=by rw [hgQ];exact lt_of_cell q0.c0
      rw [← hgQ] at hQ
      try rw [← hgQ]
      clear hgQ q0 q1 q2
      generalize (wj.alloc (.cells #[.int .i64 y.a,.int .i64 y.b,.int .i64 y.id] 3)).drew=wx16 at *
      refine Ur [2,9] ?_
      refine Uc 0 rfl (fun K hK=>?_) ?_
      ·try clear hb
       go_simp
       (go_at_call 13;refine (HOR.out _).mono ?_;rintro e wn ⟨rfl,hb⟩)
       refine hK.out _ _ ?hsr5_34 (fun hH2=>?hrr5_34)
       case hsr5_34=>exact S2i0 (by have hG:=hH;replace hG:=S2o0 hG;(try dsimp only at hG);have q0:=hG.1;have q1:=hG.2.1;have q2:=hG.2.2;exact ⟨keepKg hb q0,keepKg hb q1,keepBelow hb q2⟩)
       clear hK K hH
       have hH:=hH2
       clear hH2
       try simp only [Act.put,sA,sB,sC]
       replace hQ:=keepT3 hb hQ
       refine U1 9 0 rfl (fun K hK=>?_)
       try clear hb
       have hG:=hH
       replace hG:=S2o0 hG;(try dsimp only at hG);have q0:=hG.1;have q1:=hG.2.1;have q2:=hG.2.2
       go_simp
       refine hK.out _ _ ?hsr5_35 (fun hH2=>?hrr5_35)
       case hsr5_35=>exact S2i0 (by have hG:=hH;replace hG:=S2o0 hG;(try dsimp only at hG);have q0:=hG.1;have q1:=hG.2.1;have q2:=hG.2.2;exact ⟨keepKg Ba q0,keepKg Ba q1,keepBelow Ba q2⟩)
       clear hK K hH
       have hH:=hH2
       clear hH2
       try simp only [Act.put,sA,sB,sC]
       have hP:T3 (wn.alloc (.cells #[.int .i64 x.a,.int .i64 x.b,.int .i64 x.id] 3)) wn.heap.size x.a x.b x.id:=T3.here wn _ _ _ _
       replace hQ:=keepT3 ((Below.refl _ _).alloc (Nat.le_refl _) (.cells #[.int .i64 x.a,.int .i64 x.b,.int .i64 x.id] 3)) hQ
       obtain ⟨gP,hgP⟩:∃ g,g=wn.heap.size:=⟨_,rfl⟩
       have hlP:gx<gP:=by rw [hgP];exact lt_of_cell q0.c0
       rw [← hgP] at hP
       try rw [← hgP]
       clear hgP q0 q1 q2
       generalize wn.alloc (.cells #[.int .i64 x.a,.int .i64 x.b,.int .i64 x.id] 3)=wx9 at *
       refine U1 17 0 rfl (fun K hK=>?_)
       try clear hb
       go_simp
       (go_at_call 18;refine (cmp3_calls gP gQ 3 3 x.a x.b x.id y.a y.b y.id _ hP.a hP.b hP.c hQ.a hQ.b hQ.c).mono ?_;rw [← HZZ.out];rintro e wn ⟨rfl,hb⟩)
       refine hK.out _ _ ?hsr5_36 (fun hH2=>?hrr5_36)
       case hsr5_36=>exact S2i0 (by have hG:=hH;replace hG:=S2o0 hG;(try dsimp only at hG);have q0:=hG.1;have q1:=hG.2.1;have q2:=hG.2.2;exact ⟨keepKg hb q0,keepKg hb q1,keepBelow hb q2⟩)
       clear hK K hH
       have hH:=hH2
       clear hH2
       try simp only [Act.put,sA,sB,sC]
       refine Ut 18 53 0 0 0 (v:=?vr5_37) rfl hWr5 hH ?hyr5_37 ?_
       case hyr5_37=>(intro w' hSw;clear hSw;go_simp;try (with_reducible rfl))
       simp only [sB,sC]
       refine wpAnyU_done (by kernel_rfl) ?_ _ _
       refine NoPanic.normal ?_
       try clear hWr5
       replace hH:=S2o0 hH
       (try dsimp only at hH)
       have t0:=hH.1
       have t1:=hH.2.1
       have t2:=hH.2.2
       have hB9:=And.intro t2 t0
       clear t0 t1 t2 hH
       try clear hb
       try clear hP
       try clear hQ
       try clear hlP
       try clear hlQ
       go_wp2
       go_roundw
       case rel=>exact ⟨v+1,hlt2,by go_num,hB9.1,hB9.2⟩
       case measure=>simp [intOf];omega
      refine Uc 0 rfl (fun K hK=>?_) ?_
      ·try clear hb
       have hG:=hH
       replace hG:=S2o0 hG;(try dsimp only at hG);have q0:=hG.1;have q1:=hG.2.1;have q2:=hG.2.2
       go_simp
       refine hK.out _ _ ?hsr5_38 (fun hH2=>?hrr5_38)
       case hsr5_38=>exact S2i0 (by have hG:=hH;replace hG:=S2o0 hG;(try dsimp only at hG);have q0:=hG.1;have q1:=hG.2.1;have q2:=hG.2.2;exact ⟨keepKg Ba q0,keepKg Ba q1,keepBelow Ba q2⟩)
       clear hK K hH
       have hH:=hH2
       clear hH2
       try simp only [Act.put,sA,sB,sC]
       have hP:T3 (wx16.alloc (.cells #[.int .i64 x.a,.int .i64 x.b,.int .i64 x.id] 3)) wx16.heap.size x.a x.b x.id:=T3.here wx16 _ _ _ _
       replace hQ:=keepT3 ((Below.refl _ _).alloc (Nat.le_refl _) (.cells #[.int .i64 x.a,.int .i64 x.b,.int .i64 x.id] 3)) hQ
       obtain ⟨gP,hgP⟩:∃ g,g=wx16.heap.size:=⟨_,rfl⟩
       have hlP:gx<gP:=by rw [hgP];exact lt_of_cell q0.c0
       rw [← hgP] at hP
       try rw [← hgP]
       clear hgP q0 q1 q2
       generalize wx16.alloc (.cells #[.int .i64 x.a,.int .i64 x.b,.int .i64 x.id] 3)=wx9 at *
       refine U1 2 0 rfl (fun K hK=>?_)
       try clear hb
       go_simp
       (go_at_call 13;refine (HOR.out _).mono ?_;rintro e wn ⟨rfl,hb⟩)
       refine hK.out _ _ ?hsr5_39 (fun hH2=>?hrr5_39)
       case hsr5_39=>exact S2i0 (by have hG:=hH;replace hG:=S2o0 hG;(try dsimp only at hG);have q0:=hG.1;have q1:=hG.2.1;have q2:=hG.2.2;exact ⟨keepKg hb q0,keepKg hb q1,keepBelow hb q2⟩)
       clear hK K hH
       have hH:=hH2
       clear hH2
       try simp only [Act.put,sA,sB,sC]
       replace hP:=keepT3 hb hP
       replace hQ:=keepT3 hb hQ
       refine U1 17 0 rfl (fun K hK=>?_)
       try clear hb
       go_simp
       (go_at_call 18;refine (cmp3_calls gP gQ 3 3 x.a x.b x.id y.a y.b y.id _ hP.a hP.b hP.c hQ.a hQ.b hQ.c).mono ?_;rw [← HZZ.out];rintro e wn ⟨rfl,hb⟩)
       refine hK.out _ _ ?hsr5_40 (fun hH2=>?hrr5_40)
       case hsr5_40=>exact S2i0 (by have hG:=hH;replace hG:=S2o0 hG;(try dsimp only at hG);have q0:=hG.1;have q1:=hG.2.1;have q2:=hG.2.2;exact ⟨keepKg hb q0,keepKg hb q1,keepBelow hb q2⟩)
       clear hK K hH
       have hH:=hH2
       clear hH2
       try simp only [Act.put,sA,sB,sC]
       refine Ut 18 53 0 0 0 (v:=?vr5_41) rfl hWr5 hH ?hyr5_41 ?_
       case hyr5_41=>(intro w' hSw;clear hSw;go_simp;try (with_reducible rfl))
       simp only [sB,sC]
       refine wpAnyU_done (by kernel_rfl) ?_ _ _
       refine NoPanic.normal ?_
       try clear hWr5
       replace hH:=S2o0 hH
       (try dsimp only at hH)
       have t0:=hH.1
       have t1:=hH.2.1
       have t2:=hH.2.2
       have hB9:=And.intro t2 t0
       clear t0 t1 t2 hH
       try clear hb
       try clear hP
       try clear hQ
       try clear hlP
       try clear hlQ
       go_wp2
       go_roundw
       case rel=>exact ⟨v+1,hlt2,by go_num,hB9.1,hB9.2⟩
       case measure=>simp [intOf];omega
      exact AllReadyU.nil
     exact AllReadyU.nil
    ·have hvm : v = mm := by omega
     subst hvm
     by_cases h60:60<t
     ·have h60' : (60 : Int) < (t : Int) := by omega
      clear hkx
      go_wp2
      go_returns
      exact ret_bool rfl hB
     ·have h60' : ¬ (60 : Int) < (t : Int) := by omega
      clear hkx
      go_wp2
      go_roundw
      case rel=>exact ⟨t+1,hlt,by omega,by go_num,hB⟩
      case measure=>simp [intOf];omega
  ·have hte : t = F.length := by omega
   subst hte
   have hF1:F.length≤100000:=by omega
   clear hrmin
   go_wp2_with fail
   refine (carry_calls B D old.length c' F.length c2 old F _ (HO.out.below hB) (HF.out.below hB) hF1).mono ?_
   rintro e w2 ⟨A2,n2,c3,rfl,hs2,hb2⟩
   have hB2:=keepBelow hb2 hB
   have HS2:=hid hs2
   clear hs2 hb2 hB
   go_wp2_with fail
   refine (rcarried_calls B D old.length c' F.length c2 old F _ (HO.out.below hB2) (HF.out.below hB2) hF1).mono ?_
   rintro e w3 ⟨A3,n3,c4,rfl,hs3,hb3⟩
   have HEQ:=hid (equalCt_calls A2 A3 n2 c3 n3 c4 (carL old F) w3 (HS2.out.below hb3) hs3)
   have hB3:=keepBelow hb3 hB2
   clear HS2 hs3 hb3 hB2
   go_wp2_with fail
   refine HEQ.out.mono ?_
   rintro e w4 ⟨rfl,hb4⟩
   have hB4:=keepBelow hb4 hB3
   clear HEQ hb4 hB3
   go_wp2_with fail
   refine (kpairs_calls A L.length c L _ (HS.out.below hB4)).mono ?_
   rintro e w5 ⟨A5,n5,c5,rfl,hs5,hb5⟩
   have hB5:=keepBelow hb5 hB4
   have HS5:=hid hs5
   clear hs5 hb5 hB4
   obtain ⟨z,hz⟩:∃ z,z=bodiesE L:=⟨_,rfl⟩
   rw [← hz]
   go_wp2_with fail
   refine (kfind_calls A B L.length c old.length c' L old _ (HS.out.below hB5) (HO.out.below hB5)).mono ?_
   rintro e w6 ⟨A6,n6,c6,rfl,hs6,hb6⟩
   have hB6:=keepBelow hb6 hB5
   replace HS5:=hid (HS5.out.below hb6)
   have HS6:=hid hs6
   clear hs6 hb6 hB5
   rw [← hz]
   go_wp2_with fail
   refine (rbodies_calls A L.length c L _ (HS.out.below hB6)).mono ?_
   rintro e w7 ⟨rfl,hb7⟩
   have hB7:=keepBelow hb7 hB6
   replace HS5:=hid (HS5.out.below hb7)
   replace HS6:=hid (HS6.out.below hb7)
   clear hb7 hB6
   rw [← hz]
   go_wp2_with fail
   refine (kcheck_calls A L.length c L _ (HS.out.below hB7)).mono ?_
   rintro e w8 ⟨rfl,hb8⟩
   have hB8:=keepBelow hb8 hB7
   replace HS5:=hid (HS5.out.below hb8)
   replace HS6:=hid (HS6.out.below hb8)
   clear hb8 hB7
   rw [← hz]
   by_cases hE:z=0
   case neg =>
    have hE2:¬ bodiesE L=0:=by rw [← hz];exact hE
    have hl5:=HS5.out.len
    have hl6:=HS6.out.len
    unfold nearE at hl5
    unfold findE at hl6
    rw [if_neg hE2] at hl5 hl6
    have hz5:n5=0:=hl5
    have hz6:n6=0:=hl6
    clear hl5 hl6
    subst hz5 hz6
    have hne:(z != 0)=true:=by simp [hE]
    clear HS5 HS6 hz hE hE2
    go_wp2
    go_returns
    exact ret_bool (by simp) hB8
   have HE:Hid (bodiesE L=0):=by show _=_;rw [← hz];exact hE
   subst hE
   clear hz
   by_cases h12:12<L.length
   ·have h12' : (12 : Int) < (L.length : Int) := by omega
    clear HS5 HS6
    go_wp2
    go_returns
    exact ret_bool rfl hB8
   have h12':¬ (12:Int)<(L.length:Int):=by omega
   have e5:nearE L=nearL L:=by unfold nearE;rw [if_pos HE.out]
   have e6:findE L old=carL old (fndL L):=by unfold findE;rw [if_pos HE.out]
   rw [e5] at HS5
   rw [e6] at HS6
   clear e5 e6
   go_wp2_with fail
   refine (rnear_calls A L.length c L _ (HS.out.below hB8) HE.out).mono ?_
   rintro e w9 ⟨A9,n9,c9,rfl,hs9,hb9⟩
   have hB9:=keepBelow hb9 hB8
   replace HS6:=hid (HS6.out.below hb9)
   have HEQ:=hid (equalP_calls A5 A9 n5 c5 n9 c9 (nearL L) (nearL L) w9 (HS5.out.below hb9) hs9)
   rw [decide_eq_true (rfl:nearL L=nearL L)] at HEQ
   clear HS5 hs9 hb9 hB8
   go_wp2_with fail
   refine HEQ.out.mono ?_
   rintro e w10 ⟨rfl,hb10⟩
   have hB10:=keepBelow hb10 hB9
   replace HS6:=hid (HS6.out.below hb10)
   clear HEQ hb10 hB9
   go_wp2_with fail
   refine (rfind_calls A B L.length c old.length c' L old _ (HS.out.below hB10) (HO.out.below hB10) HE.out).mono ?_
   rintro e w11 ⟨A11,n11,c11,rfl,hs11,hb11⟩
   have hB11:=keepBelow hb11 hB10
   have HEQ:=hid (equalCt_calls A6 A11 n6 c6 n11 c11 (carL old (fndL L)) w11 (HS6.out.below hb11) hs11)
   clear HS6 hs11 hb11 hB10
   go_wp2_with fail
   refine HEQ.out.mono ?_
   rintro e w12 ⟨rfl,hb12⟩
   have hB12:=keepBelow hb12 hB11
   clear HEQ hb12 hB11
   go_wp2
   go_returns
   exact ret_bool (by simp) hB12
end
end Go.Proofs.YtiaoandbdgdecaaGreat
