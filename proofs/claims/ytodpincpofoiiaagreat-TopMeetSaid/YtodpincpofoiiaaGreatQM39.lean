/- Parts of a proof: contracts and laws. -/
import Derived.Test.YtodpincpofoiiaaGreatQM01
import Derived.Test.YtodpincpofoiiaaGreatQM02
import Derived.Test.YtodpincpofoiiaaGreatQM03
import Derived.Test.YtodpincpofoiiaaGreatQM24
set_option maxRecDepth 100000
set_option maxHeartbeats 16000000
namespace Go.Proofs.YtodpincpofoiiaaGreat
section
set_option linter.unusedVariables false
set_option linter.unusedSimpArgs false
open Go.RowKit

structure Vp (w : World) (g : Nat) (x y : Int) : Prop where
 a:w.cell? ⟨g,0,none⟩=some (.int .i64 x)
 b:w.cell? ⟨g,1,none⟩=some (.int .i64 y)
 f:∀ j,w.frozen? ⟨g,j,none⟩=false
theorem keepVp {w w':World} {g:Nat} {x y:Int} (hb:Below w.heap.size w w') (h:Vp w g x y):Vp w' g x y :=
 ⟨keepCell hb h.a,keepCell hb h.b,fun j=>((bcell hb).2 _ _ (lt_of_cell h.a)).trans (h.f j)⟩
theorem Vp.lt {w:World} {g:Nat} {x y:Int} (h:Vp w g x y):g<w.heap.size:=lt_of_cell h.a
theorem Vp.alloc {w:World} {g:Nat} {x y:Int} (h:Vp w g x y) (o:Obj):Vp (w.alloc o) g x y:=keepVp Ba h
theorem Vp.drew {w:World} {g:Nat} {x y:Int} (h:Vp w g x y):Vp w.drew g x y:=⟨h.a,h.b,h.f⟩
theorem Vp.here (w:World) (x y:Int) (t:TypeId):Vp (w.alloc (.cells #[.int .i64 x,.int .i64 y] t)) w.heap.size x y:=⟨by go_simp,by go_simp,fun j=>by go_simp⟩
theorem Vp.put {w:World} {g:Nat} {x y:Int} (h:Vp w g x y) (u v:Int):Vp ((w.setCell ⟨g,0,none⟩ (.int .i64 u)).setCell ⟨g,1,none⟩ (.int .i64 v)) g u v:=by
 obtain ⟨a,b,f⟩:=h
 exact ⟨by go_simp,by go_simp,fun j=>by go_simp⟩
theorem Vp.off {w:World} {g k:Nat} {x y:Int} (h:Vp w g x y) (hne:g≠k) (u v:Value):Vp ((w.setCell ⟨k,0,none⟩ u).setCell ⟨k,1,none⟩ v) g x y:=by
 obtain ⟨a,b,f⟩:=h
 exact ⟨by go_simp,by go_simp,fun j=>by go_simp⟩
def sm62 (a:Int):Prop := -4611686018427387904≤a∧a≤4611686018427387904
theorem wide_mul {a b:Int} (h1:sm62 a) (h2:sm62 b) : -170141183460469231731687303715884105728≤a*b∧a*b<170141183460469231731687303715884105728:=by
 have:=mul_bd (x:=a) (y:=b) (M:=4611686018427387904) (N:=4611686018427387904) h1.1 h1.2 h2.1 h2.2
 omega
theorem pcmp_calls (a b c d:Int) (ha:sm62 a) (hb:sm62 b) (hc:sm62 c) (hd:sm62 d) (w:World):Calls Tryz.prog 158 #[vecV a b,vecV c d] w (Ret (.int .i64 (cmpZ (a*d) (c*b))) w):=by
 have r1:=wide_mul ha hd
 have r2:=wide_mul hc hb
 have HT1:=hid (fun w=>times_calls a d (by unfold sm62 at *;omega) (by unfold sm62 at *;omega) (by unfold sm62 at *;omega) (by unfold sm62 at *;omega) w)
 have HT2:=hid (fun w=>times_calls c b (by unfold sm62 at *;omega) (by unfold sm62 at *;omega) (by unfold sm62 at *;omega) (by unfold sm62 at *;omega) w)
 have HCM:=hid (show ∀ w,Calls Tryz.prog 179 #[wideV (a*d),wideV (c*b)] w (Ret (.int .i64 (cmpZ (a*d) (c*b))) w) from fun w=>wcmp_calls (a*d) (c*b) r1.1 r1.2 r2.1 r2.2 w)
 clear r1 r2 ha hb hc hd
 obtain ⟨T,hT⟩:∃ T,T=cmpZ (a*d) (c*b):=⟨_,rfl⟩
 rw [← hT] at HCM ⊢
 clear hT
 generalize a*d=P at *
 generalize c*b=Q at *
 obtain ⟨W,hW⟩:∃ W,W=(w.alloc (.cells #[.int .i64 a,.int .i64 b] 207)).alloc (.cells #[.int .i64 c,.int .i64 d] 207):=⟨_,rfl⟩
 have c0:W.cell? ⟨w.heap.size,0,none⟩=some (.int .i64 a):=by rw [hW];go_simp
 have c1:W.cell? ⟨w.heap.size,1,none⟩=some (.int .i64 b):=by rw [hW];go_simp
 have c2:W.cell? ⟨w.heap.size+1,0,none⟩=some (.int .i64 c):=by rw [hW];go_simp
 have c3:W.cell? ⟨w.heap.size+1,1,none⟩=some (.int .i64 d):=by rw [hW];go_simp
 have hB0:Below w.heap.size w W:=by rw [hW];go_grown
 go_enter Tryz.func158,Tryz.ntmps158
 go_upto_region 1 with fail
 rw [← hW]
 clear hW
 refine wp_region_noPanic ?_
 refine wp_region_U (S:=(S2 (fun w'=>w'.cell? ⟨w.heap.size,0,none⟩=some (.int .i64 a)∧w'.cell? ⟨w.heap.size,1,none⟩=some (.int .i64 b)∧w'.cell? ⟨w.heap.size+1,0,none⟩=some (.int .i64 c)∧w'.cell? ⟨w.heap.size+1,1,none⟩=some (.int .i64 d)∧Below w.heap.size w w'))) (T:=(fun _=>0)) (by kernel_rfl) (S2i0 ⟨c0,c1,c2,c3,hB0.drew⟩) (fun hH=>?_)
 have hWr1:Weaker (S2 (fun w'=>w'.cell? ⟨w.heap.size,0,none⟩=some (.int .i64 a)∧w'.cell? ⟨w.heap.size,1,none⟩=some (.int .i64 b)∧w'.cell? ⟨w.heap.size+1,0,none⟩=some (.int .i64 c)∧w'.cell? ⟨w.heap.size+1,1,none⟩=some (.int .i64 d)∧Below w.heap.size w w')):=weaker2 _
 refine Utn [(0,5),(1,6),(2,7),(3,8),(5,10),(6,11),(7,12),(8,13)] 4 0 0 (L':=?Lr1_1) hWr1 hH ?yr1_1 ?_
 case yr1_1=>((iterate 8 apply tkC;rfl;kernel_rfl;intro w' hSw;replace hSw:=S2o0 hSw;(try dsimp only at hSw);have q0:=hSw.1;have q1:=hSw.2.1;have q2:=hSw.2.2.1;have q3:=hSw.2.2.2.1;have q4:=hSw.2.2.2.2;(try simp only [sB,sC]);go_simp;(try with_reducible rfl));exact tkN)
 simp only [sB,sC]
 refine U1 4 0 rfl (fun K hK=>?_)
 try clear hb
 go_simp
 (go_at_call 99;refine (HT1.out _).mono ?_;rintro e wn ⟨rfl,hb⟩)
 refine hK.out _ _ (S2i0 (by have hG:=hH;replace hG:=S2o0 hG;(try dsimp only at hG);have q0:=hG.1;have q1:=hG.2.1;have q2:=hG.2.2.1;have q3:=hG.2.2.2.1;have q4:=hG.2.2.2.2;exact ⟨keepCell hb q0,keepCell hb q1,keepCell hb q2,keepCell hb q3,keepBelow hb q4⟩)) (fun hH2=>?_)
 clear hK K hH
 rename _=>hH
 try simp only [Act.put,sA,sB,sC]
 refine U1 9 0 rfl (fun K hK=>?_)
 try clear hb
 go_simp
 (go_at_call 99;refine (HT2.out _).mono ?_;rintro e wn ⟨rfl,hb⟩)
 refine hK.out _ _ (S2i0 (by have hG:=hH;replace hG:=S2o0 hG;(try dsimp only at hG);have q0:=hG.1;have q1:=hG.2.1;have q2:=hG.2.2.1;have q3:=hG.2.2.2.1;have q4:=hG.2.2.2.2;exact ⟨keepCell hb q0,keepCell hb q1,keepCell hb q2,keepCell hb q3,keepBelow hb q4⟩)) (fun hH2=>?_)
 clear hK K hH
 rename _=>hH
 try simp only [Act.put,sA,sB,sC]
 refine U1 10 0 rfl (fun K hK=>?_)
 try clear hb
 go_simp
 (go_at_call 179;refine (HCM.out _).mono ?_;rintro e wn ⟨rfl,hb⟩)
 refine hK.out _ _ (S2i0 (by have hG:=hH;replace hG:=S2o0 hG;(try dsimp only at hG);have q0:=hG.1;have q1:=hG.2.1;have q2:=hG.2.2.1;have q3:=hG.2.2.2.1;have q4:=hG.2.2.2.2;exact ⟨keepCell hb q0,keepCell hb q1,keepCell hb q2,keepCell hb q3,keepBelow hb q4⟩)) (fun hH2=>?_)
 clear hK K hH
 rename _=>hH
 try simp only [Act.put,sA,sB,sC]
 refine Ut 11 4 0 0 0 (v:=?vr1_12) rfl hWr1 hH ?yr1_12 ?_
 case yr1_12=>(intro w' hSw;clear hSw;go_simp;try (with_reducible rfl))
 simp only [sB,sC]
 refine wpAnyU_done (by kernel_rfl) ?_ _ _
 refine NoPanic.normal ?_
 clear hWr1
 replace hH:=S2o0 hH
 (try dsimp only at hH)
 have q0:=hH.1
 have q1:=hH.2.1
 have q2:=hH.2.2.1
 have q3:=hH.2.2.2.1
 have q4:=hH.2.2.2.2
 go_wp2
 go_returns
 exact ret_int rfl q4
-- the greatest m from 0 to 65536 with m d <= 65536 n
theorem pfloor_calls (n d:Int) (hn0:0≤n) (hnd:n≤d) (hd0:0<d) (hd:d≤4611686018427387904) (w:World):Calls Tryz.prog 159 #[vecV n d] w (Ret (.int .i64 (n*65536 / d)) w):=by
 have HT2:=hid (fun w=>times_calls n 65536 (by omega) (by omega) (by omega) (by omega) w)
 have HQ:Hid (∀ low high:Int,low*d≤n*65536→n*65536<high*d→low+1=high→low=n*65536 / d):=fun low high h1 h2 h3=>by
  have a:=(Int.le_ediv_iff_mul_le hd0).2 h1
  have b:=(Int.ediv_lt_iff_lt_mul hd0).2 h2
  omega
 have HE:Hid (n*65536<65537*d):=by show _<_;omega
 have HD:=hid (And.intro hd0 hd)
 have HN:=hid (And.intro hn0 hnd)
 clear hn0 hnd hd0 hd
 generalize n*65536 / d=R at *
 have HN6:Hid (n*65536=n*65536):=rfl
 obtain ⟨W,hW⟩:∃ W,W=w.alloc (.cells #[.int .i64 n,.int .i64 d] 207):=⟨_,rfl⟩
 have c0:W.cell? ⟨w.heap.size,0,none⟩=some (.int .i64 n):=by rw [hW];go_simp
 have c1:W.cell? ⟨w.heap.size,1,none⟩=some (.int .i64 d):=by rw [hW];go_simp
 have hB0:Below w.heap.size w W:=by rw [hW];go_grown
 go_enter Tryz.func159,Tryz.ntmps159
 go_wp2_with fail
 rw [← hW]
 clear hW
 go_loopw [3,4] (fun lv hv wr=>∃ low high:Int,lv = .int .i64 low∧hv = .int .i64 high∧0≤low∧low<high∧high≤65537∧low*d≤n*65536∧n*65536<high*d∧wr.cell? ⟨w.heap.size,0,none⟩=some (.int .i64 n)∧wr.cell? ⟨w.heap.size,1,none⟩=some (.int .i64 d)∧Below w.heap.size w wr) (fun lv hv _=>(intOf hv-intOf lv).toNat)
 case atStart=>exact ⟨0,65537,rfl,rfl,by omega,by omega,by omega,by have:=HN.out;omega,HE.out,c0,c1,hB0⟩
 case round =>
  clear c0 c1 hB0
  obtain ⟨low,high,rfl,rfl,h0,h1,h2,h3,h4,q0,q1,hB⟩:=hrel
  obtain ⟨wo,rfl⟩:∃ wo:World,wo=wr:=⟨_,rfl⟩
  have H34:=hid (And.intro h3 h4)
  clear h3 h4
  have hw1:IntKind.i64.wrap (high-low)=high-low:=IntWalk.i64_in _ (by omega)
  by_cases hc:1<high-low
  ·have hw2 : IntKind.i64.wrap (low + high) = low + high := IntWalk.i64_in _ (by omega)
   obtain ⟨m,hm⟩:∃ m,m=(low+high) / 2:=⟨_,rfl⟩
   have htd:(low+high).tdiv 2=m:=by rw [Int.tdiv_eq_ediv_of_nonneg (by omega),hm]
   have hw3:IntKind.i64.wrap m=m:=IntWalk.i64_in _ (by omega)
   have hm1:low<m:=by omega
   have hm2:m<high:=by omega
   have mb:=mul_bd (x:=m) (y:=d) (M:=65537) (N:=4611686018427387904) (by omega) (by omega) (by have:=HD.out;omega) (by have:=HD.out;omega)
   have nb:0≤n*65536∧n*65536≤4611686018427387904*65536:=by have:=HN.out;have:=HD.out;omega
   have HT1:=hid (fun w=>times_calls m d (by omega) (by omega) (by have:=HD.out;omega) (by have:=HD.out;omega) w)
   have HCM:=hid (show ∀ w,Calls Tryz.prog 179 #[wideV (m*d),wideV (n*65536)] w (Ret (.int .i64 (cmpZ (m*d) (n*65536))) w) from fun w=>wcmp_calls (m*d) (n*65536) (by omega) (by omega) (by omega) (by omega) w)
   clear mb nb hm
   go_upto_region 4 with fail
   refine wp_region_noPanic ?_
   refine wp_region_U (S:=(S2 (fun w'=>w'.cell? ⟨w.heap.size,0,none⟩=some (.int .i64 n)∧w'.cell? ⟨w.heap.size,1,none⟩=some (.int .i64 d)∧Below w.heap.size w w'))) (T:=(fun _=>0)) (by kernel_rfl) (S2i0 ⟨q0,q1,hB.drew⟩) (fun hH=>?_)
   have hWr2:Weaker (S2 (fun w'=>w'.cell? ⟨w.heap.size,0,none⟩=some (.int .i64 n)∧w'.cell? ⟨w.heap.size,1,none⟩=some (.int .i64 d)∧Below w.heap.size w w')):=weaker2 _
   refine Utn [(0,14),(1,15),(2,16),(4,18),(5,19)] 4 0 0 (L':=?Lr2_1) hWr2 hH ?yr2_1 ?_
   case yr2_1=>((iterate 5 apply tkC;rfl;kernel_rfl;intro w' hSw;replace hSw:=S2o0 hSw;(try dsimp only at hSw);have q0:=hSw.1;have q1:=hSw.2.1;have q2:=hSw.2.2;(try simp only [sB,sC]);go_simp;(try with_reducible rfl));exact tkN)
   simp only [sB,sC]
   refine U1 3 0 rfl (fun K hK=>?_)
   try clear hb
   go_simp
   (go_at_call 99;refine (HT1.out _).mono ?_;rintro e wn ⟨rfl,hb⟩)
   refine hK.out _ _ (S2i0 (by have hG:=hH;replace hG:=S2o0 hG;(try dsimp only at hG);have q0:=hG.1;have q1:=hG.2.1;have q2:=hG.2.2;exact ⟨keepCell hb q0,keepCell hb q1,keepBelow hb q2⟩)) (fun hH2=>?_)
   clear hK K hH
   rename _=>hH
   try simp only [Act.put,sA,sB,sC]
   refine U1 6 0 rfl (fun K hK=>?_)
   try clear hb
   go_simp
   (go_at_call 99;refine (HT2.out _).mono ?_;rintro e wn ⟨rfl,hb⟩)
   refine hK.out _ _ (S2i0 (by have hG:=hH;replace hG:=S2o0 hG;(try dsimp only at hG);have q0:=hG.1;have q1:=hG.2.1;have q2:=hG.2.2;exact ⟨keepCell hb q0,keepCell hb q1,keepBelow hb q2⟩)) (fun hH2=>?_)
   clear hK K hH
   rename _=>hH
   try simp only [Act.put,sA,sB,sC]
   refine U1 7 0 rfl (fun K hK=>?_)
   try clear hb
   go_simp
   (go_at_call 179;refine (HCM.out _).mono ?_;rintro e wn ⟨rfl,hb⟩)
   refine hK.out _ _ (S2i0 (by have hG:=hH;replace hG:=S2o0 hG;(try dsimp only at hG);have q0:=hG.1;have q1:=hG.2.1;have q2:=hG.2.2;exact ⟨keepCell hb q0,keepCell hb q1,keepBelow hb q2⟩)) (fun hH2=>?_)
   clear hK K hH
   rename _=>hH
   try simp only [Act.put,sA,sB,sC]
   refine Ut 8 22 0 0 0 (v:=?vr2_9) rfl hWr2 hH ?yr2_9 ?_
   case yr2_9=>(intro w' hSw;clear hSw;go_simp;try (with_reducible rfl))
   simp only [sB,sC]
   refine wpAnyU_done (by kernel_rfl) ?_ _ _
   refine NoPanic.normal ?_
   clear hWr2
   replace hH:=S2o0 hH
   (try dsimp only at hH)
   have q0:=hH.1
   have q1:=hH.2.1
   have q2:=hH.2.2
   by_cases hle:m*d≤n*65536
   ·have hz : cmpZ (m * d) (n * 65536) ≤ 0 := by unfold cmpZ; split <;> (try split) <;> omega
    have H3:=hid hle
    clear hle
    generalize cmpZ (m*d) (n*65536)=Z at *
    go_wp2
    go_roundw
    case rel=>exact ⟨m,high,rfl,rfl,by omega,hm2,h2,H3.out,H34.out.2,q0,q1,q2⟩
    case measure=>simp only [intOf];omega
   ·have hz : 0 < cmpZ (m * d) (n * 65536) := by unfold cmpZ; split <;> (try split) <;> omega
    have H3:=hid hle
    clear hle
    generalize cmpZ (m*d) (n*65536)=Z at *
    go_wp2
    go_roundw
    case rel=>exact ⟨low,m,rfl,rfl,h0,hm1,by omega,H34.out.1,by have:=H3.out;omega,q0,q1,q2⟩
    case measure=>simp only [intOf];omega
  ·have hR := hid (HQ.out low high H34.out.1 H34.out.2 (by omega))
   go_wp2
   go_returns
   exact ret_int hR.out hB
end
end Go.Proofs.YtodpincpofoiiaaGreat
namespace Go.Proofs.YtodpincpofoiiaaGreat
section
set_option linter.unusedVariables false
set_option linter.unusedSimpArgs false
open Go.RowKit

def lowB (l:List V) (i k:Nat):Prop:=py l i<py l k∨(py l i=py l k∧px l i<px l k)
instance (l:List V) (i k:Nat):Decidable (lowB l i k):=by unfold lowB;infer_instance
def lowTo (l : List V) : Nat → Nat
 | 0=>0
 | i+1=>if lowB l i (lowTo l i) then i else lowTo l i
def lowI (l:List V):Nat:=lowTo l l.length
theorem lowTo_lt (l : List V) : ∀ k, 0 < l.length → k ≤ l.length → lowTo l k < l.length
 | 0,h,_=>h
 | k+1,h,hk=>by
  rw [lowTo]
  split
  ·omega
  ·exact lowTo_lt l k h (by omega)

def crsZ (a b p q:Int):Int:=a*q-b*p
theorem crs_bd {a b p q:Int} (ha : -1073741824≤a∧a≤1073741824) (hb : -1073741824≤b∧b≤1073741824) (hp : -1073741824≤p∧p≤1073741824) (hq : -1073741824≤q∧q≤1073741824) :
  (-1152921504606846976≤a*q∧a*q≤1152921504606846976)∧(-1152921504606846976≤b*p∧b*p≤1152921504606846976) :=
 ⟨mul_bd (x:=a) (y:=q) (M:=1073741824) (N:=1073741824) (by omega) (by omega) (by omega) (by omega),mul_bd (x:=b) (y:=p) (M:=1073741824) (N:=1073741824) (by omega) (by omega) (by omega) (by omega)⟩

def edgX (l:List V) (f i:Nat):Int:=px l ((f+i+1) % l.length)-px l ((f+i) % l.length)
def edgY (l:List V) (f i:Nat):Int:=py l ((f+i+1) % l.length)-py l ((f+i) % l.length)
theorem edg_bd {l:List V} (hw:allWithin 65536000 l=true) (h3:0<l.length) (f i:Nat):(-131072000≤edgX l f i∧edgX l f i≤131072000)∧(-131072000≤edgY l f i∧edgY l f i≤131072000):=by
 have h1:=withinB_iff.1 (allWithin_at hw (Nat.mod_lt (f+i) h3))
 have h2:=withinB_iff.1 (allWithin_at hw (Nat.mod_lt (f+i+1) h3))
 unfold edgX edgY
 omega
def negL (l:List V):List V:=l.map fun p=>(-p.1,-p.2)
theorem negL_len (l:List V):(negL l).length=l.length:=by simp [negL]
theorem neg_px (l:List V) (i:Nat):px (negL l) i = -px l i:=by
 unfold px negL
 by_cases h:i<l.length
 ·simp [h]
 ·simp [h]
theorem neg_py (l:List V) (i:Nat):py (negL l) i = -py l i:=by
 unfold py negL
 by_cases h:i<l.length
 ·simp [h]
 ·simp [h]
theorem negL_within {l:List V} (h:allWithin 65536000 l=true):allWithin 65536000 (negL l)=true:=by
 unfold allWithin at h ⊢
 unfold negL
 rw [List.all_eq_true] at h ⊢
 intro p hp
 obtain ⟨q,hq,rfl⟩:=List.mem_map.1 hp
 have:=withinB_iff.1 (h q hq)
 exact withinB_iff.2 (by dsimp only;omega)

def mnX (a c:List V) (i k x y:Nat):Int:=px a ((i+x) % a.length)+px c ((k+y) % c.length)
def mnY (a c:List V) (i k x y:Nat):Int:=py a ((i+x) % a.length)+py c ((k+y) % c.length)
def mnT (a c:List V) (i k x y:Nat):Int:=crsZ (edgX a i x) (edgY a i x) (edgX c k y) (edgY c k y)
def mnF (a c:List V) (i k x y:Nat):Bool:=y == c.length || (decide (x<a.length) && decide (0≤mnT a c i k x y))
def mnS (a c:List V) (i k x y:Nat):Bool:=x == a.length || (decide (y<c.length) && decide (mnT a c i k x y≤0))
def mnGo (a c : List V) (i k : Nat) : Nat → Nat → Nat → List V
 | 0,_,_=>[]
 | f+1,x,y=>if x<a.length∨y<c.length then (mnX a c i k x y,mnY a c i k x y) :: mnGo a c i k f (if mnF a c i k x y=true then x+1 else x) (if mnS a c i k x y=true then y+1 else y) else []
def minusL (a b:List V):List V:=if bothE a b=0 then mnGo a (negL b) (lowI a) (lowI (negL b)) (a.length+(negL b).length) 0 0 else []
theorem mnX_l (a c:List V) (i k x y:Nat):mnX a c i k (x+1) y=mnX a c i k x y+edgX a i x:=by unfold mnX edgX;rw [← Nat.add_assoc];omega
theorem mnY_l (a c:List V) (i k x y:Nat):mnY a c i k (x+1) y=mnY a c i k x y+edgY a i x:=by unfold mnY edgY;rw [← Nat.add_assoc];omega
theorem mnX_r (a c:List V) (i k x y:Nat):mnX a c i k x (y+1)=mnX a c i k x y+edgX c k y:=by unfold mnX edgX;rw [← Nat.add_assoc];omega
theorem mnY_r (a c:List V) (i k x y:Nat):mnY a c i k x (y+1)=mnY a c i k x y+edgY c k y:=by unfold mnY edgY;rw [← Nat.add_assoc];omega
theorem mn_bd {a c:List V} (ha:allWithin 65536000 a=true) (hc:allWithin 65536000 c=true) (h1:0<a.length) (h2:0<c.length) (i k x y:Nat):(-131072000≤mnX a c i k x y∧mnX a c i k x y≤131072000)∧(-131072000≤mnY a c i k x y∧mnY a c i k x y≤131072000):=by
 have g1:=withinB_iff.1 (allWithin_at ha (Nat.mod_lt (i+x) h1))
 have g2:=withinB_iff.1 (allWithin_at hc (Nat.mod_lt (k+y) h2))
 unfold mnX mnY
 omega
def ninC (m:List V) (i:Nat):Int:=crsZ (px m i) (py m i) (px m ((i+1) % m.length)) (py m ((i+1) % m.length))
def ninB (m:List V):Bool:=decide (∀ i,i<m.length→0≤ninC m i)
theorem root_le {N n:Int} (h0:0≤N) (h1:N<340282366920938463463374607431768211456) (hn:0≤n):n*n≤N↔n≤rootZ N:=by
 obtain ⟨r0,r1,r2⟩:=rootZ_spec h0 h1
 constructor
 ·intro h
  rcases Int.lt_or_le (rootZ N) n with g | g
  ·have:=sq_lt r0 g;omega
  ·exact g
 ·intro h
  have:=Int.mul_le_mul h h hn r0
  omega
theorem root_lt {N n:Int} (h0:0≤N) (h1:N<340282366920938463463374607431768211456) (hn:0≤n) (h:N<n*n):rootZ N<n:=by
 rcases Int.lt_or_le (rootZ N) n with g | g
 ·exact g
 ·have:=(root_le h0 h1 hn).2 g;omega

def sqZ (x y:Int):Int:=x*x+y*y
theorem sqZ_bd {x y:Int} (hx : -131072000≤x∧x≤131072000) (hy : -131072000≤y∧y≤131072000):0≤sqZ x y∧sqZ x y≤34359738368000000:=by
 have m1:=mul_bd (x:=x) (y:=x) (M:=131072000) (N:=131072000) (by omega) (by omega) (by omega) (by omega)
 have m2:=mul_bd (x:=y) (y:=y) (M:=131072000) (N:=131072000) (by omega) (by omega) (by omega) (by omega)
 have:=sq_nonneg x
 have:=sq_nonneg y
 unfold sqZ
 omega

def farT (x1 y1 x2 y2:Int):Int := -x1*(x2-x1)-y1*(y2-y1)
def farZ (x1 y1 x2 y2:Int):Int :=
 if farT x1 y1 x2 y2≤0 then rootZ (sqZ x1 y1) else if sqZ (x2-x1) (y2-y1)≤farT x1 y1 x2 y2 then rootZ (sqZ x2 y2)
 else rootZ (crsZ x1 y1 x2 y2*crsZ x1 y1 x2 y2 / sqZ (x2-x1) (y2-y1))

theorem crs_sq (x1 y1 x2 y2:Int):crsZ x1 y1 x2 y2*crsZ x1 y1 x2 y2≤sqZ x1 y1*sqZ (x2-x1) (y2-y1):=by
 have e:sqZ x1 y1*sqZ (x2-x1) (y2-y1)=crsZ x1 y1 x2 y2*crsZ x1 y1 x2 y2+farT x1 y1 x2 y2*farT x1 y1 x2 y2:=by unfold sqZ crsZ farT;grind
 have:=sq_nonneg (farT x1 y1 x2 y2)
 omega
theorem far_third {x1 y1 x2 y2:Int} (h1 : -131072000≤x1∧x1≤131072000) (h2 : -131072000≤y1∧y1≤131072000) (hs:0<sqZ (x2-x1) (y2-y1)) :
  0≤crsZ x1 y1 x2 y2*crsZ x1 y1 x2 y2 / sqZ (x2-x1) (y2-y1)∧crsZ x1 y1 x2 y2*crsZ x1 y1 x2 y2 / sqZ (x2-x1) (y2-y1)≤34359738368000000:=by
 have c:=crs_sq x1 y1 x2 y2
 obtain ⟨b1,b2⟩:=sqZ_bd h1 h2
 have s:=sq_nonneg (crsZ x1 y1 x2 y2)
 refine ⟨Int.ediv_nonneg s (by omega),?_⟩
 have:=Int.ediv_le_ediv hs c
 rw [Int.mul_ediv_cancel _ (by omega)] at this
 omega
theorem farZ_bd {x1 y1 x2 y2:Int} (h1 : -131072000≤x1∧x1≤131072000) (h2 : -131072000≤y1∧y1≤131072000) (h3 : -131072000≤x2∧x2≤131072000) (h4 : -131072000≤y2∧y2≤131072000):0≤farZ x1 y1 x2 y2∧farZ x1 y1 x2 y2<536870912:=by
 have key:∀ N:Int,0≤N→N≤34359738368000000→0≤rootZ N∧rootZ N<536870912:=fun N a b=>⟨(rootZ_spec a (by omega)).1,root_lt a (by omega) (by omega) (by omega)⟩
 unfold farZ
 split
 ·exact key _ (sqZ_bd h1 h2).1 (sqZ_bd h1 h2).2
 ·split
  ·exact key _ (sqZ_bd h3 h4).1 (sqZ_bd h3 h4).2
  ·have := far_third (x2 := x2) (y2 := y2) h1 h2 (by omega)
   exact key _ this.1 this.2

def farTo (m : List V) : Nat → Int
 | 0=>1073741824
 | k+1=>if farZ (px m k) (py m k) (px m ((k+1) % m.length)) (py m ((k+1) % m.length))<farTo m k then farZ (px m k) (py m k) (px m ((k+1) % m.length)) (py m ((k+1) % m.length)) else farTo m k
def apartZ (a b:List V):Int:=if bothE a b=0 then (if ninB (minusL a b)=true then 0 else farTo (minusL a b) (minusL a b).length) else 0
theorem mnGo_within {a c : List V} (ha : allWithin 65536000 a = true) (hc : allWithin 65536000 c = true) (h1 : 0 < a.length) (h2 : 0 < c.length) (i k : Nat) : ∀ f x y, allWithin 131072000 (mnGo a c i k f x y) = true
 | 0,_,_=>rfl
 | f+1,x,y=>by
  rw [mnGo]
  split
  ·have := mnGo_within ha hc h1 h2 i k f (if mnF a c i k x y = true then x + 1 else x) (if mnS a c i k x y = true then y + 1 else y)
   unfold allWithin at this ⊢
   rw [List.all_cons,this,Bool.and_true]
   have b:=mn_bd ha hc h1 h2 i k x y
   exact withinB_iff.2 (by omega)
  ·rfl
theorem mnGo_len (a c : List V) (i k : Nat) : ∀ f x y, (mnGo a c i k f x y).length ≤ f
 | 0,_,_=>by simp [mnGo]
 | f+1,x,y=>by
  rw [mnGo]
  split
  ·have := mnGo_len a c i k f (if mnF a c i k x y = true then x + 1 else x) (if mnS a c i k x y = true then y + 1 else y)
   simp only [List.length_cons]
   omega
  ·simp
theorem minus_bd (a b:List V):allWithin 131072000 (minusL a b)=true∧(minusL a b).length≤16:=by
 unfold minusL
 split
 ·rename_i h
  have h':checkE a=0∧checkE b=0:=by unfold bothE at h;split at h <;> omega
  obtain ⟨a8,a3,aw,_⟩:=checkE_zero h'.1
  obtain ⟨b8,b3,bw,_⟩:=checkE_zero h'.2
  refine ⟨mnGo_within aw (negL_within bw) (by omega) (by rw [negL_len];omega) _ _ _ _ _,?_⟩
  have:=mnGo_len a (negL b) (lowI a) (lowI (negL b)) (a.length+(negL b).length) 0 0
  rw [negL_len] at this ⊢
  omega
 ·exact ⟨rfl,by simp⟩
end
end Go.Proofs.YtodpincpofoiiaaGreat
