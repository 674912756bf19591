/- Parts of a proof: contracts and laws. -/
import Derived.Test.YtodpincpofoiiaaGreatQM24
import Derived.Test.YtodpincpofoiiaaGreatQM39
import Derived.Test.YtodpincpofoiiaaGreatQM03
set_option maxRecDepth 100000
set_option maxHeartbeats 16000000
namespace Go.Proofs.YtodpincpofoiiaaGreat
section
set_option linter.unusedVariables false
set_option linter.unusedSimpArgs false
open Go.RowKit
theorem lowest_calls (A:Option Addr) (n c:Nat) (l:List V) (w:World) (hS:Sl w A n c l) (h0:0<l.length) :
  Calls Tryz.prog 164 #[.slice A n c] w (Ret (.int .i64 (lowI l)) w):=by
 have hn:=hS.len
 subst hn
 have HS:=hid hS
 have hbig:l.length≤9223372036854775807:=Nat.le_trans hS.cap hS.big
 clear hS
 go_enter Tryz.func164,Tryz.ntmps164
 go_wp2
 go_loopw [3,8] (fun s j wr=>∃ k:Nat,k≤l.length∧j = .int .i64 k∧s = .int .i64 (lowTo l k)∧Below w.heap.size w wr) (fun _ j _=>l.length-(intOf j).toNat)
 case atStart=>exact ⟨0,Nat.zero_le _,rfl,rfl,Below.refl _ _⟩
 case round =>
  obtain ⟨k,hk,rfl,rfl,hB⟩:=hrel
  obtain ⟨wo,rfl⟩:∃ wo:World,wo=wr:=⟨_,rfl⟩
  by_cases hlt:k<l.length
  ·have hlt' : (k : Int) < (l.length : Int) := by omega
   obtain ⟨b,off,hA,hC⟩:=(HS.out.below hB).at_ (by intro h;rw [h] at h0;simp at h0)
   subst hA
   obtain ⟨m,hm⟩:∃ m,m=lowTo l k:=⟨_,rfl⟩
   have hml:m<l.length:=by rw [hm];exact lowTo_lt l k h0 hk
   have hml':(m:Int)<(l.length:Int):=by omega
   have HST:Hid (lowTo l (k+1)=if lowB l k m then k else m):=by show _=_;rw [lowTo,← hm]
   rw [← hm]
   have xk:=hC.x k hlt
   have yk:=hC.y k hlt
   have xm:=hC.x m hml
   have ym:=hC.y m hml
   have hbl:=hC.lt
   clear hm hC
   have HLB:Hid (lowB l k m↔(py l k<py l m∨(py l k=py l m∧px l k<px l m))):=Iff.rfl
   generalize px l k=x1 at *
   generalize py l k=y1 at *
   generalize px l m=x2 at *
   generalize py l m=y2 at *
   by_cases h1:y1<y2
   ·have HR : Hid (lowTo l (k + 1) = k) := by show _ = _; rw [HST.out, if_pos (HLB.out.2 (.inl h1))]
    clear HST HLB
    go_wp2_with fail
    go_quiet (fail)
    go_wp2
    go_roundw
    case rel=>exact ⟨k+1,hlt,by go_num,by rw [HR.out],below_drewN' (hB.alloc hB.size _) _⟩
    case measure=>simp [intOf];omega
   ·have h1' : decide (y1 < y2) = false := by simpa using h1
    by_cases h2:y1=y2
    ·have h2' : (y1 == y2) = true := by simp [h2]
     by_cases h3:x1<x2
     ·have HR : Hid (lowTo l (k + 1) = k) := by show _ = _; rw [HST.out, if_pos (HLB.out.2 (.inr ⟨h2, h3⟩))]
      clear HST HLB h2
      go_wp2_with fail
      go_quiet (fail)
      go_wp2
      go_roundw
      case rel=>exact ⟨k+1,hlt,by go_num,by rw [HR.out],below_drewN' (hB.alloc hB.size _) _⟩
      case measure=>simp [intOf];omega
     ·have HR : Hid (lowTo l (k + 1) = m) := by show _ = _; rw [HST.out, if_neg (fun g => by rcases HLB.out.1 g with g | g; exact h1 g; exact h3 g.2)]
      have h3':decide (x1<x2)=false:=by simpa using h3
      clear HST HLB h2
      go_wp2_with fail
      go_quiet (fail)
      go_wp2
      go_roundw
      case rel=>exact ⟨k+1,hlt,by go_num,by rw [HR.out],below_drewN' (hB.alloc hB.size _) _⟩
      case measure=>simp [intOf];omega
    ·have h2' : (y1 == y2) = false := by simp [h2]
     have HR:Hid (lowTo l (k+1)=m):=by show _=_;rw [HST.out,if_neg (fun g=>by rcases HLB.out.1 g with g | g;exact h1 g;exact h2 g.1)]
     clear HST HLB
     go_wp2_with fail
     go_quiet (fail)
     go_wp2
     go_roundw
     case rel=>exact ⟨k+1,hlt,by go_num,by rw [HR.out],below_drewN' (hB.alloc hB.size _) _⟩
     case measure=>simp [intOf];omega
  ·have hke : k = l.length := by omega
   subst hke
   rw [show lowTo l l.length=lowI l from rfl]
   clear HS
   go_wp2
   go_returns
   exact ret_int rfl hB
theorem ncross_calls (a b p q:Int) (ha : -1073741824≤a∧a≤1073741824) (hb : -1073741824≤b∧b≤1073741824) (hp : -1073741824≤p∧p≤1073741824) (hq : -1073741824≤q∧q≤1073741824) (w:World) :
  Calls Tryz.prog 166 #[vecV a b,vecV p q] w (Ret (.int .i64 (crsZ a b p q)) w):=by
 obtain ⟨m1,m2⟩:=crs_bd ha hb hp hq
 have w1:IntKind.i64.wrap (a*q)=a*q:=IntWalk.i64_in _ (by omega)
 have w2:IntKind.i64.wrap (b*p)=b*p:=IntWalk.i64_in _ (by omega)
 have w3:IntKind.i64.wrap (a*q-b*p)=a*q-b*p:=IntWalk.i64_in _ (by omega)
 clear m1 m2
 go_enter Tryz.func166,Tryz.ntmps166
 go_wp2
 go_returns
 exact ret_int rfl (by go_grown)
theorem edge_calls (A:Option Addr) (n c:Nat) (l:List V) (f x:Nat) (w:World) (hS:Sl w A n c l) (hw:allWithin 65536000 l=true) (h3:3≤l.length) (h8:l.length≤8) (hf:f<l.length) (hx:x≤l.length) :
  Calls Tryz.prog 165 #[.slice A n c,.int .i64 f,.int .i64 x] w (Ret (vecV (edgX l f x) (edgY l f x)) w):=by
 have hn:=hS.len
 subst hn
 obtain ⟨b,off,rfl,hC⟩:=hS.at_ (by intro h;subst h;simp at hf)
 obtain ⟨i,hie⟩:∃ i,i=(f+x) % l.length:=⟨_,rfl⟩
 obtain ⟨j,hje⟩:∃ j,j=(f+x+1) % l.length:=⟨_,rfl⟩
 have hi:i<l.length:=by rw [hie];exact Nat.mod_lt _ (by omega)
 have hj:j<l.length:=by rw [hje];exact Nat.mod_lt _ (by omega)
 have hii:((f:Int)+x) % (l.length:Int)=(i:Int):=by rw [hie];simp
 have hji:((f:Int)+x+1) % (l.length:Int)=(j:Int):=by rw [hje];simp
 have htm1:((f:Int)+x).tmod (l.length:Int)=(i:Int):=by rw [Int.tmod_eq_emod_of_nonneg (by omega)];exact hii
 have htm2:((f:Int)+x+1).tmod (l.length:Int)=(j:Int):=by rw [Int.tmod_eq_emod_of_nonneg (by omega)];exact hji
 have hii2:(((f:Int)+x) % (l.length:Int)).toNat=i:=by omega
 have hji2:(((f:Int)+x+1) % (l.length:Int)).toNat=j:=by omega
 have hii3:((f:Int)+x) % (l.length:Int)<(l.length:Int):=by omega
 have hji3:((f:Int)+x+1) % (l.length:Int)<(l.length:Int):=by omega
 have hii4:0≤((f:Int)+x) % (l.length:Int):=by omega
 have hji4:0≤((f:Int)+x+1) % (l.length:Int):=by omega
 have hwk0:IntKind.i64.wrap ((f:Int)+x)=(f:Int)+x:=IntWalk.i64_in _ (by omega)
 have hwk:IntKind.i64.wrap ((f:Int)+x+1)=(f:Int)+x+1:=IntWalk.i64_in _ (by omega)
 have hl0:¬ l=[]:=by intro h;rw [h] at hi;simp at hi
 have hil:(i:Int)<(l.length:Int):=by omega
 have hjl:(j:Int)<(l.length:Int):=by omega
 obtain ⟨a1,a2,a3,a4⟩:=withinB_iff.1 (allWithin_at hw hi)
 obtain ⟨b1,b2,b3,b4⟩:=withinB_iff.1 (allWithin_at hw hj)
 obtain ⟨W,hW⟩:∃ W,W=w.alloc (.cells #[.int .i64 0,.int .i64 0] 24):=⟨_,rfl⟩
 have HZ0:=hid (show VZ W w.heap.size by rw [hW];exact VZ.here _ _ _ _)
 have hB0:Below w.heap.size w W:=by rw [hW];go_grown
 have hCW:=hC.below hB0
 have xi:=hCW.x i hi
 have yi:=hCW.y i hi
 have xj:=hCW.x j hj
 have yj:=hCW.y j hj
 have HN:Hid (edgX l f x=px l j-px l i∧edgY l f x=py l j-py l i):=by show _∧_;unfold edgX edgY;rw [← hje,← hie];exact ⟨rfl,rfl⟩
 have u1:IntKind.i64.wrap (px l j-px l i)=px l j-px l i:=IntWalk.i64_in _ (by omega)
 have u2:IntKind.i64.wrap (py l j-py l i)=py l j-py l i:=IntWalk.i64_in _ (by omega)
 clear hS hC hje hie hw hCW
 go_enter Tryz.func165,Tryz.ntmps165
 go_upto_region 1 with fail
 rw [← hW]
 clear hW
 go_cut [7,8] from 9 to 27 (fun t u wx=>∃ gT gU:Nat,t = .pointer (some ⟨gT,0,none⟩)∧u = .pointer (some ⟨gU,0,none⟩)∧wx.cell? ⟨gT,0,none⟩=some (.int .i64 (px l i))∧wx.cell? ⟨gT,1,none⟩=some (.int .i64 (py l i))∧wx.cell? ⟨gU,0,none⟩=some (.int .i64 (px l j))∧wx.cell? ⟨gU,1,none⟩=some (.int .i64 (py l j))∧w.heap.size<gT∧w.heap.size<gU∧VZ wx w.heap.size∧Below w.heap.size w wx)
 case first =>
  refine wp_region_noPanic ?_
  refine wp_region_U (S:=(S3 (fun w'=>w'.cell? ⟨b,off+i*2,none⟩=some (.int .i64 (px l i))∧w'.cell? ⟨b,off+i*2+1,none⟩=some (.int .i64 (py l i))∧w'.cell? ⟨b,off+j*2,none⟩=some (.int .i64 (px l j))∧w'.cell? ⟨b,off+j*2+1,none⟩=some (.int .i64 (py l j))∧VZ w' w.heap.size∧Below w.heap.size w w') (fun w'=>w'.cell? ⟨b,off+j*2,none⟩=some (.int .i64 (px l j))∧w'.cell? ⟨b,off+j*2+1,none⟩=some (.int .i64 (py l j))))) (T:=(fun j=>[0,0,0,0,0,0,0,0,0,0,0,0,0,0,0,0,0,0,0,0,0,1,2].getD j 0)) (by kernel_rfl) (S3i0 ⟨xi,yi,xj,yj,HZ0.out.drew,hB0.drew⟩) (fun hH=>?_)
  have hWr1:Weaker (S3 (fun w'=>w'.cell? ⟨b,off+i*2,none⟩=some (.int .i64 (px l i))∧w'.cell? ⟨b,off+i*2+1,none⟩=some (.int .i64 (py l i))∧w'.cell? ⟨b,off+j*2,none⟩=some (.int .i64 (px l j))∧w'.cell? ⟨b,off+j*2+1,none⟩=some (.int .i64 (py l j))∧VZ w' w.heap.size∧Below w.heap.size w w') (fun w'=>w'.cell? ⟨b,off+j*2,none⟩=some (.int .i64 (px l j))∧w'.cell? ⟨b,off+j*2+1,none⟩=some (.int .i64 (py l j)))):=weaker3 (fun _ ⟨q0,q1,q2,q3,q4,q5⟩=>⟨q2,q3⟩)
  refine Utn [(0,9),(1,10),(2,11),(3,12),(4,13),(5,14),(6,15),(7,16),(8,17)] 14 0 0 (L':=?Lr1_1) hWr1 hH ?hyr1_1 ?_
  case hyr1_1=>((iterate 9 apply tkC;rfl;kernel_rfl;intro w' hSw;replace hSw:=S3o0 hSw;(try dsimp only at hSw);have q0:=hSw.1;have q1:=hSw.2.1;have q2:=hSw.2.2.1;have q3:=hSw.2.2.2.1;have q4:=hSw.2.2.2.2.1;have q5:=hSw.2.2.2.2.2;(try simp only [sB,sC]);go_simp;(try with_reducible rfl));exact tkN)
  simp only [sB,sC]
  refine Utn [(9,18),(10,19),(11,20),(12,21),(13,22),(14,23),(15,24),(16,25),(17,26),(18,27)] 4 1 0 (L':=?Lr1_10) hWr1 hH ?hyr1_10 ?_
  case hyr1_10=>((iterate 10 apply tkC;rfl;kernel_rfl;intro w' hSw;replace hSw:=S3o1 hSw;(try dsimp only at hSw);have q2:=hSw.1;have q3:=hSw.2;(try simp only [sB,sC]);go_simp;(try with_reducible rfl));exact tkN)
  simp only [sB,sC]
  refine Ur [19,20] ?_
  refine Uc 0 rfl (fun K hK=>?_) ?_
  ·try clear hb
   have hG:=hH
   replace hG:=S3o0 hG;(try dsimp only at hG);have q0:=hG.1;have q1:=hG.2.1;have q2:=hG.2.2.1;have q3:=hG.2.2.2.1;have q4:=hG.2.2.2.2.1;have q5:=hG.2.2.2.2.2
   go_simp
   refine hK.out _ _ ?hsr1_20 (fun hH2=>?hrr1_20)
   case hsr1_20=>exact S3i0 (by have hG:=hH;replace hG:=S3o0 hG;(try dsimp only at hG);have q0:=hG.1;have q1:=hG.2.1;have q2:=hG.2.2.1;have q3:=hG.2.2.2.1;have q4:=hG.2.2.2.2.1;have q5:=hG.2.2.2.2.2;exact ⟨keepCell Ba q0,keepCell Ba q1,keepCell Ba q2,keepCell Ba q3,q4.alloc _,q5.alloc q5.size _⟩)
   clear hK K hH
   have hH:=hH2
   clear hH2
   try simp only [Act.put,sA,sB,sC]
   have hT:VZ ((W.alloc (.cells #[.int .i64 0,.int .i64 0] 24)).drew) W.heap.size:=VZ.drew (VZ.here _ _ _ _)
   obtain ⟨gT,hgT⟩:∃ g,g=W.heap.size:=⟨_,rfl⟩
   have hlT:w.heap.size<gT∧b<gT:=by rw [hgT];exact ⟨q4.lt,lt_of_cell q0⟩
   rw [← hgT] at hT
   try rw [← hgT]
   clear hgT q0 q1 q2 q3 q4 q5
   generalize (W.alloc (.cells #[.int .i64 0,.int .i64 0] 24)).drew=wx19 at *
   refine U1 20 0 rfl (fun K hK=>?_)
   try clear hb
   have hG:=hH
   replace hG:=S3o0 hG;(try dsimp only at hG);have q0:=hG.1;have q1:=hG.2.1;have q2:=hG.2.2.1;have q3:=hG.2.2.2.1;have q4:=hG.2.2.2.2.1;have q5:=hG.2.2.2.2.2
   have hZT:=VZ.lt hT
   go_simp
   refine hK.out _ _ ?hsr1_21 (fun hH2=>?hrr1_21)
   case hsr1_21=>exact S3i0 (by have hG:=hH;replace hG:=S3o0 hG;(try dsimp only at hG);have q0:=hG.1;have q1:=hG.2.1;have q2:=hG.2.2.1;have q3:=hG.2.2.2.1;have q4:=hG.2.2.2.2.1;have q5:=hG.2.2.2.2.2;exact ⟨keepCell Ba q0,keepCell Ba q1,keepCell Ba q2,keepCell Ba q3,q4.alloc _,q5.alloc q5.size _⟩)
   clear hK K hH
   have hH:=hH2
   clear hH2
   try simp only [Act.put,sA,sB,sC]
   have hU:VZ (wx19.alloc (.cells #[.int .i64 0,.int .i64 0] 24)) wx19.heap.size:=VZ.here _ _ _ _
   replace hT:=keepVZ ((Below.refl _ _).alloc (Nat.le_refl _) (.cells #[.int .i64 0,.int .i64 0] 24)) hT
   obtain ⟨gU,hgU⟩:∃ g,g=wx19.heap.size:=⟨_,rfl⟩
   have hlU:w.heap.size<gU∧b<gU∧gT<gU:=by rw [hgU];exact ⟨q4.lt,lt_of_cell q0,hZT⟩
   rw [← hgU] at hU
   try rw [← hgU]
   clear hgU q0 q1 q2 q3 q4 q5
   generalize wx19.alloc (.cells #[.int .i64 0,.int .i64 0] 24)=wx20 at *
   refine U1 21 1 rfl (fun K hK=>?_)
   have hG:=hH
   replace hG:=S3o0 hG;(try dsimp only at hG);have q0:=hG.1;have q1:=hG.2.1;have q2:=hG.2.2.1;have q3:=hG.2.2.2.1;have q4:=hG.2.2.2.2.1;have q5:=hG.2.2.2.2.2
   have HT:=hid hT
   have HU:=hid hU
   obtain ⟨⟨z0,z1,y0,y1⟩,yf⟩:=hT
   obtain ⟨⟨u0,u1,v0,v1⟩,uf⟩:=hU
   have hbT:¬ gT=b:=by omega
   go_simp
   refine hK.out _ _ ?hsr1_22 (fun hH2=>?hrr1_22)
   case hsr1_22=>exact S3i1 ⟨by go_simp,by go_simp⟩
   clear hK K hH
   have hH:=hH2
   clear hH2
   try simp only [Act.put,sA,sB,sC]
   refine U1 22 2 rfl (fun K hK=>?_)
   go_simp
   refine hK.out _ _ ?hsr1_23 (fun hH2=>?hrr1_23)
   case hsr1_23=>exact S3i2
   clear hK K hH
   have hH:=hH2
   clear hH2
   try simp only [Act.put,sA,sB,sC]
   refine wpAnyU_done (by kernel_rfl) ?_ _ _
   refine NoPanic.normal ?_
   have hne:¬ gT=gU:=by omega
   have hne2:¬ gU=gT:=by omega
   go_wp2_with fail
   go_meet
   refine ⟨gT,gU,rfl,rfl,by go_simp,by go_simp,by go_simp,by go_simp,by omega,by omega,(((q4.set _ _).set _ _).set _ _).set _ _,by go_grown⟩
  refine Uc 0 rfl (fun K hK=>?_) ?_
  ·try clear hb
   have hG:=hH
   replace hG:=S3o0 hG;(try dsimp only at hG);have q0:=hG.1;have q1:=hG.2.1;have q2:=hG.2.2.1;have q3:=hG.2.2.2.1;have q4:=hG.2.2.2.2.1;have q5:=hG.2.2.2.2.2
   go_simp
   refine hK.out _ _ ?hsr1_24 (fun hH2=>?hrr1_24)
   case hsr1_24=>exact S3i0 (by have hG:=hH;replace hG:=S3o0 hG;(try dsimp only at hG);have q0:=hG.1;have q1:=hG.2.1;have q2:=hG.2.2.1;have q3:=hG.2.2.2.1;have q4:=hG.2.2.2.2.1;have q5:=hG.2.2.2.2.2;exact ⟨keepCell Ba q0,keepCell Ba q1,keepCell Ba q2,keepCell Ba q3,q4.alloc _,q5.alloc q5.size _⟩)
   clear hK K hH
   have hH:=hH2
   clear hH2
   try simp only [Act.put,sA,sB,sC]
   have hU:VZ ((W.alloc (.cells #[.int .i64 0,.int .i64 0] 24)).drew) W.heap.size:=VZ.drew (VZ.here _ _ _ _)
   obtain ⟨gU,hgU⟩:∃ g,g=W.heap.size:=⟨_,rfl⟩
   have hlU:w.heap.size<gU∧b<gU:=by rw [hgU];exact ⟨q4.lt,lt_of_cell q0⟩
   rw [← hgU] at hU
   try rw [← hgU]
   clear hgU q0 q1 q2 q3 q4 q5
   generalize (W.alloc (.cells #[.int .i64 0,.int .i64 0] 24)).drew=wx20 at *
   refine U1 19 0 rfl (fun K hK=>?_)
   try clear hb
   have hG:=hH
   replace hG:=S3o0 hG;(try dsimp only at hG);have q0:=hG.1;have q1:=hG.2.1;have q2:=hG.2.2.1;have q3:=hG.2.2.2.1;have q4:=hG.2.2.2.2.1;have q5:=hG.2.2.2.2.2
   have hZU:=VZ.lt hU
   go_simp
   refine hK.out _ _ ?hsr1_25 (fun hH2=>?hrr1_25)
   case hsr1_25=>exact S3i0 (by have hG:=hH;replace hG:=S3o0 hG;(try dsimp only at hG);have q0:=hG.1;have q1:=hG.2.1;have q2:=hG.2.2.1;have q3:=hG.2.2.2.1;have q4:=hG.2.2.2.2.1;have q5:=hG.2.2.2.2.2;exact ⟨keepCell Ba q0,keepCell Ba q1,keepCell Ba q2,keepCell Ba q3,q4.alloc _,q5.alloc q5.size _⟩)
   clear hK K hH
   have hH:=hH2
   clear hH2
   try simp only [Act.put,sA,sB,sC]
   have hT:VZ (wx20.alloc (.cells #[.int .i64 0,.int .i64 0] 24)) wx20.heap.size:=VZ.here _ _ _ _
   replace hU:=keepVZ ((Below.refl _ _).alloc (Nat.le_refl _) (.cells #[.int .i64 0,.int .i64 0] 24)) hU
   obtain ⟨gT,hgT⟩:∃ g,g=wx20.heap.size:=⟨_,rfl⟩
   have hlT:w.heap.size<gT∧b<gT∧gU<gT:=by rw [hgT];exact ⟨q4.lt,lt_of_cell q0,hZU⟩
   rw [← hgT] at hT
   try rw [← hgT]
   clear hgT q0 q1 q2 q3 q4 q5
   generalize wx20.alloc (.cells #[.int .i64 0,.int .i64 0] 24)=wx19 at *
   refine U1 21 1 rfl (fun K hK=>?_)
   have hG:=hH
   replace hG:=S3o0 hG;(try dsimp only at hG);have q0:=hG.1;have q1:=hG.2.1;have q2:=hG.2.2.1;have q3:=hG.2.2.2.1;have q4:=hG.2.2.2.2.1;have q5:=hG.2.2.2.2.2
   have HT:=hid hT
   have HU:=hid hU
   obtain ⟨⟨z0,z1,y0,y1⟩,yf⟩:=hT
   obtain ⟨⟨u0,u1,v0,v1⟩,uf⟩:=hU
   have hbT:¬ gT=b:=by omega
   go_simp
   refine hK.out _ _ ?hsr1_26 (fun hH2=>?hrr1_26)
   case hsr1_26=>exact S3i1 ⟨by go_simp,by go_simp⟩
   clear hK K hH
   have hH:=hH2
   clear hH2
   try simp only [Act.put,sA,sB,sC]
   refine U1 22 2 rfl (fun K hK=>?_)
   go_simp
   refine hK.out _ _ ?hsr1_27 (fun hH2=>?hrr1_27)
   case hsr1_27=>exact S3i2
   clear hK K hH
   have hH:=hH2
   clear hH2
   try simp only [Act.put,sA,sB,sC]
   refine wpAnyU_done (by kernel_rfl) ?_ _ _
   refine NoPanic.normal ?_
   have hne:¬ gT=gU:=by omega
   have hne2:¬ gU=gT:=by omega
   go_wp2_with fail
   go_meet
   refine ⟨gT,gU,rfl,rfl,by go_simp,by go_simp,by go_simp,by go_simp,by omega,by omega,(((q4.set _ _).set _ _).set _ _).set _ _,by go_grown⟩
  exact AllReadyU.nil
 case rest =>
  obtain ⟨gT,gU,rfl,rfl,c0,c1,d0,d1,hg1,hg2,hz,hB⟩:=hcut
  obtain ⟨⟨z0,z1,y0,y1⟩,yf⟩:=hz
  generalize px l i=x1 at *
  generalize py l i=x2 at *
  generalize px l j=x3 at *
  generalize py l j=x4 at *
  clear HZ0 hB0 xi yi xj yj
  go_wp2
  refine bodyPost_ret (v:=vecV (x3-x1) (x4-x2)) (by simp [results,Tryz.results165,go_sem,y0,y1]) rfl ⟨by rw [HN.out.1,HN.out.2],by go_grown⟩
end
end Go.Proofs.YtodpincpofoiiaaGreat
