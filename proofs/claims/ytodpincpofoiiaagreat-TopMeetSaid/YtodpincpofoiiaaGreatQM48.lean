/- Parts of a proof: contracts and laws. -/
import Derived.Test.YtodpincpofoiiaaGreatQM47
import Derived.Test.YtodpincpofoiiaaGreatQM03
set_option maxRecDepth 100000
set_option maxHeartbeats 16000000
namespace Go.Proofs.YtodpincpofoiiaaGreat
section
set_option linter.unusedVariables false
set_option linter.unusedSimpArgs false
open Go.RowKit

structure VI (w : World) (g : Nat) : Prop where
 c:∃ a,w.cell? ⟨g,0,none⟩=some (.int .i64 a)
 free:∀ j,w.frozen? ⟨g,j,none⟩=false
theorem VI.here (w:World) (a:Int) (t:TypeId):VI (w.alloc (.cells #[.int .i64 a] t)) w.heap.size:=⟨⟨a,by go_simp⟩,fun j=>by go_simp⟩
theorem VI.drew {w:World} {g:Nat} (h:VI w g):VI w.drew g:=⟨h.c,h.free⟩
theorem far1_calls (g:Nat) (x y n:Int) (w:World) (c0:w.cell? ⟨g,0,none⟩=some (.int .i64 x)) (c1:w.cell? ⟨g,1,none⟩=some (.int .i64 y)) (hx : -131072000≤x∧x≤131072000) (hy : -131072000≤y∧y≤131072000) (h0:0≤n) (h1:n<536870912) :
  Calls Tryz.prog 176 #[.int .i64 n,.pointer (some ⟨g,0,none⟩)] w (Ret (.bool (decide (n*n≤sqZ x y))) w):=by
 have m1:=mul_bd (x:=x) (y:=x) (M:=131072000) (N:=131072000) (by omega) (by omega) (by omega) (by omega)
 have m2:=mul_bd (x:=y) (y:=y) (M:=131072000) (N:=131072000) (by omega) (by omega) (by omega) (by omega)
 have m3:=mul_bd (x:=n) (y:=n) (M:=536870912) (N:=536870912) (by omega) (by omega) (by omega) (by omega)
 have w1:IntKind.i64.wrap (x*x)=x*x:=IntWalk.i64_in _ (by omega)
 have w2:IntKind.i64.wrap (y*y)=y*y:=IntWalk.i64_in _ (by omega)
 have w3:IntKind.i64.wrap (n*n)=n*n:=IntWalk.i64_in _ (by omega)
 have w4:IntKind.i64.wrap (x*x+y*y)=x*x+y*y:=IntWalk.i64_in _ (by omega)
 clear m1 m2 m3
 go_enter Tryz.func176,Tryz.ntmps176
 go_wp2
 go_returns
 exact ret_bool (by unfold sqZ;rfl) (Below.refl _ _)
theorem far2_calls (g:Nat) (x y n:Int) (w:World) (c0:w.cell? ⟨g,0,none⟩=some (.int .i64 x)) (c1:w.cell? ⟨g,1,none⟩=some (.int .i64 y)) (hx : -131072000≤x∧x≤131072000) (hy : -131072000≤y∧y≤131072000) (h0:0≤n) (h1:n<536870912) :
  Calls Tryz.prog 177 #[.int .i64 n,.pointer (some ⟨g,0,none⟩)] w (Ret (.bool (decide (n*n≤sqZ x y))) w):=by
 have m1:=mul_bd (x:=x) (y:=x) (M:=131072000) (N:=131072000) (by omega) (by omega) (by omega) (by omega)
 have m2:=mul_bd (x:=y) (y:=y) (M:=131072000) (N:=131072000) (by omega) (by omega) (by omega) (by omega)
 have m3:=mul_bd (x:=n) (y:=n) (M:=536870912) (N:=536870912) (by omega) (by omega) (by omega) (by omega)
 have w1:IntKind.i64.wrap (x*x)=x*x:=IntWalk.i64_in _ (by omega)
 have w2:IntKind.i64.wrap (y*y)=y*y:=IntWalk.i64_in _ (by omega)
 have w3:IntKind.i64.wrap (n*n)=n*n:=IntWalk.i64_in _ (by omega)
 have w4:IntKind.i64.wrap (x*x+y*y)=x*x+y*y:=IntWalk.i64_in _ (by omega)
 clear m1 m2 m3
 go_enter Tryz.func177,Tryz.ntmps177
 go_wp2
 go_returns
 exact ret_bool (by unfold sqZ;rfl) (Below.refl _ _)
theorem far3_calls (gs gc:Nat) (s c n:Int) (w:World) (cs:w.cell? ⟨gs,0,none⟩=some (.int .i64 s)) (cc:w.cell? ⟨gc,0,none⟩=some (.int .i64 c)) (hs:0≤s∧s≤288230376151711744) (hc : -288230376151711744≤c∧c≤288230376151711744) (h0:0≤n) (h1:n<536870912) :
  Calls Tryz.prog 178 #[.int .i64 n,.pointer (some ⟨gs,0,none⟩),.pointer (some ⟨gc,0,none⟩)] w (Ret (.bool (decide (n*n*s≤c*c))) w):=by
 have m3:=mul_bd (x:=n) (y:=n) (M:=536870912) (N:=536870912) (by omega) (by omega) (by omega) (by omega)
 have m4:=mul_bd (x:=n*n) (y:=s) (M:=288230376151711744) (N:=288230376151711744) (by omega) (by omega) (by omega) (by omega)
 have m5:=mul_bd (x:=c) (y:=c) (M:=288230376151711744) (N:=288230376151711744) (by omega) (by omega) (by omega) (by omega)
 have w3:IntKind.i64.wrap (n*n)=n*n:=IntWalk.i64_in _ (by omega)
 have HT1:=hid (times_calls (n*n) s (by omega) (by omega) (by omega) (by omega))
 have HT2:=hid (times_calls c c (by omega) (by omega) (by omega) (by omega))
 have HCM:=hid (wcmp_z (n*n*s) (c*c) (by omega) (by omega) (by omega) (by omega))
 have HZ:Hid (decide (n*n*s≤c*c)=decide (cmpZ (n*n*s) (c*c)≤0)):=by
  show _=_
  have:=cmpZ_nonpos (a:=n*n*s) (b:=c*c)
  rcases Decidable.em (n*n*s≤c*c) with g | g
  ·rw [decide_eq_true g,decide_eq_true (this.2 g)]
  ·rw [decide_eq_false g,decide_eq_false (fun k=>g (this.1 k))]
 clear m3 m4 m5
 rw [HZ.out]
 generalize n*n*s=P at *
 generalize c*c=Q at *
 go_enter Tryz.func178,Tryz.ntmps178
 go_wp2_with fail
 refine wp_region_noPanic ?_
 refine wp_region_U (S:=(S2 (fun w'=>w'.cell? ⟨gs,0,none⟩=some (.int .i64 (s))∧w'.cell? ⟨gc,0,none⟩=some (.int .i64 (c))∧Below w.heap.size w w'))) (T:=(fun _=>0)) (by kernel_rfl) (S2i0 ⟨cs,cc,(Below.refl _ _).drew⟩) (fun hH=>?_)
 have hWr1:Weaker (S2 (fun w'=>w'.cell? ⟨gs,0,none⟩=some (.int .i64 (s))∧w'.cell? ⟨gc,0,none⟩=some (.int .i64 (c))∧Below w.heap.size w w')):=weaker2 _
 refine Utn [(0,5),(1,6),(2,7),(3,8),(5,10),(6,11)] 5 0 0 (L':=?Lr1_1) hWr1 hH ?hyr1_1 ?_
 case hyr1_1=>((iterate 6 apply tkC;rfl;kernel_rfl;intro w' hSw;replace hSw:=S2o0 hSw;(try dsimp only at hSw);have q0:=hSw.1;have q1:=hSw.2.1;have q2:=hSw.2.2;(try simp only [sB,sC]);go_simp;(try with_reducible rfl));exact tkN)
 simp only [sB,sC]
 refine U1 4 0 rfl (fun K hK=>?_)
 try clear hb
 go_simp
 (go_at_call 99;refine (HT1.out _).mono ?_;rintro e wn ⟨rfl,hb⟩)
 refine hK.out _ _ ?hsr1_7 (fun hH2=>?hrr1_7)
 case hsr1_7=>exact S2i0 (by have hG:=hH;replace hG:=S2o0 hG;(try dsimp only at hG);have q0:=hG.1;have q1:=hG.2.1;have q2:=hG.2.2;exact ⟨keepCell hb q0,keepCell hb q1,keepBelow hb q2⟩)
 clear hK K hH
 have hH:=hH2
 clear hH2
 try simp only [Act.put,sA,sB,sC]
 refine U1 7 0 rfl (fun K hK=>?_)
 try clear hb
 go_simp
 (go_at_call 99;refine (HT2.out _).mono ?_;rintro e wn ⟨rfl,hb⟩)
 refine hK.out _ _ ?hsr1_8 (fun hH2=>?hrr1_8)
 case hsr1_8=>exact S2i0 (by have hG:=hH;replace hG:=S2o0 hG;(try dsimp only at hG);have q0:=hG.1;have q1:=hG.2.1;have q2:=hG.2.2;exact ⟨keepCell hb q0,keepCell hb q1,keepBelow hb q2⟩)
 clear hK K hH
 have hH:=hH2
 clear hH2
 try simp only [Act.put,sA,sB,sC]
 refine U1 8 0 rfl (fun K hK=>?_)
 try clear hb
 go_simp
 (go_at_call 179;refine (HCM.out _).mono ?_;rintro e wn ⟨rfl,hb⟩)
 refine hK.out _ _ ?hsr1_9 (fun hH2=>?hrr1_9)
 case hsr1_9=>exact S2i0 (by have hG:=hH;replace hG:=S2o0 hG;(try dsimp only at hG);have q0:=hG.1;have q1:=hG.2.1;have q2:=hG.2.2;exact ⟨keepCell hb q0,keepCell hb q1,keepBelow hb q2⟩)
 clear hK K hH
 have hH:=hH2
 clear hH2
 try simp only [Act.put,sA,sB,sC]
 refine Utn [(9,14),(10,4)] 0 0 0 (L':=?Lr1_10) hWr1 hH ?hyr1_10 ?_
 case hyr1_10=>((iterate 2 apply tkC;rfl;kernel_rfl;intro w' hSw;clear hSw;(try simp only [sB,sC]);go_simp;(try with_reducible rfl));exact tkN)
 simp only [sB,sC]
 refine wpAnyU_done (by kernel_rfl) ?_ _ _
 refine NoPanic.normal ?_
 clear hWr1
 replace hH:=S2o0 hH
 (try dsimp only at hH)
 have q0:=hH.1
 have q1:=hH.2.1
 have q2:=hH.2.2
 clear HZ HT1 HT2 HCM
 generalize cmpZ P Q=z at *
 go_wp2
 go_returns
 exact ret_bool rfl q2
theorem cf_far1 (args:Array Value) (w:World):(callFunc 176 args).run Tryz.prog w = .ok (.enter 176 args) w:=by kernel_rfl
theorem cf_far2 (args:Array Value) (w:World):(callFunc 177 args).run Tryz.prog w = .ok (.enter 177 args) w:=by kernel_rfl
theorem cf_far3 (args:Array Value) (w:World):(callFunc 178 args).run Tryz.prog w = .ok (.enter 178 args) w:=by kernel_rfl
theorem nfar_calls (x1 y1 x2 y2:Int) (w:World) (h1 : -131072000≤x1∧x1≤131072000) (h2 : -131072000≤y1∧y1≤131072000) (h3 : -131072000≤x2∧x2≤131072000) (h4 : -131072000≤y2∧y2≤131072000) :
  Calls Tryz.prog 94 #[vecV x1 y1,vecV x2 y2] w (Ret (.int .i64 (farZ x1 y1 x2 y2)) w):=by
 obtain ⟨ex,hex⟩:∃ z,z=x2-x1:=⟨_,rfl⟩
 obtain ⟨ey,hey⟩:∃ z,z=y2-y1:=⟨_,rfl⟩
 have m1:=mul_bd (x := -x1) (y:=ex) (M:=131072000) (N:=262144000) (by omega) (by omega) (by omega) (by omega)
 have m2:=mul_bd (x:=y1) (y:=ey) (M:=131072000) (N:=262144000) (by omega) (by omega) (by omega) (by omega)
 have m3:=mul_bd (x:=ex) (y:=ex) (M:=262144000) (N:=262144000) (by omega) (by omega) (by omega) (by omega)
 have m4:=mul_bd (x:=ey) (y:=ey) (M:=262144000) (N:=262144000) (by omega) (by omega) (by omega) (by omega)
 have n3:=sq_nonneg ex
 have n4:=sq_nonneg ey
 have u1:IntKind.i64.wrap (x2-x1)=ex:=by rw [← hex];exact IntWalk.i64_in _ (by omega)
 have u2:IntKind.i64.wrap (y2-y1)=ey:=by rw [← hey];exact IntWalk.i64_in _ (by omega)
 have u3:IntKind.i64.wrap (-x1) = -x1:=IntWalk.i64_in _ (by omega)
 have u4:IntKind.i64.wrap (-x1*ex) = -x1*ex:=IntWalk.i64_in _ (by omega)
 have u5:IntKind.i64.wrap (y1*ey)=y1*ey:=IntWalk.i64_in _ (by omega)
 have u6:IntKind.i64.wrap (-x1*ex-y1*ey) = -x1*ex-y1*ey:=IntWalk.i64_in _ (by omega)
 have u7:IntKind.i64.wrap (ex*ex)=ex*ex:=IntWalk.i64_in _ (by omega)
 have u8:IntKind.i64.wrap (ey*ey)=ey*ey:=IntWalk.i64_in _ (by omega)
 have u9:IntKind.i64.wrap (ex*ex+ey*ey)=ex*ex+ey*ey:=IntWalk.i64_in _ (by omega)
 have HF:Hid (farZ x1 y1 x2 y2=if -x1*ex-y1*ey≤0 then rootZ (sqZ x1 y1) else if ex*ex+ey*ey ≤ -x1*ex-y1*ey then rootZ (sqZ x2 y2) else rootZ (crsZ x1 y1 x2 y2*crsZ x1 y1 x2 y2 / (ex*ex+ey*ey))):=by
  show _=_;unfold farZ farT;rw [hex,hey];rfl
 have HB:=hid (farZ_bd h1 h2 h3 h4)
 have H3:Hid (0<ex*ex+ey*ey→0≤crsZ x1 y1 x2 y2*crsZ x1 y1 x2 y2 / (ex*ex+ey*ey)∧crsZ x1 y1 x2 y2*crsZ x1 y1 x2 y2 / (ex*ex+ey*ey)≤34359738368000000):=fun g=>by
  have:=far_third (x2:=x2) (y2:=y2) h1 h2
  unfold sqZ at this
  rw [← hex,← hey] at this
  exact this g
 have HCR:=hid (ncross_calls x1 y1 x2 y2 (by omega) (by omega) (by omega) (by omega))
 obtain ⟨k1,k2⟩:=crs_bd (a:=x1) (b:=y1) (p:=x2) (q:=y2) (by omega) (by omega) (by omega) (by omega)
 have bc : -288230376151711744≤crsZ x1 y1 x2 y2∧crsZ x1 y1 x2 y2≤288230376151711744:=by
  have a1:=mul_bd (x:=x1) (y:=y2) (M:=131072000) (N:=131072000) (by omega) (by omega) (by omega) (by omega)
  have a2:=mul_bd (x:=y1) (y:=x2) (M:=131072000) (N:=131072000) (by omega) (by omega) (by omega) (by omega)
  unfold crsZ
  omega
 obtain ⟨c,hc⟩:∃ c,c=crsZ x1 y1 x2 y2:=⟨_,rfl⟩
 obtain ⟨r,hr⟩:∃ r,r=farZ x1 y1 x2 y2:=⟨_,rfl⟩
 rw [← hc] at HF HCR bc H3
 rw [← hr] at HF HB ⊢
 clear k1 k2 hc hr
 obtain ⟨T,hT⟩:∃ T,T = -x1*ex-y1*ey:=⟨_,rfl⟩
 obtain ⟨s,hs⟩:∃ s,s=ex*ex+ey*ey:=⟨_,rfl⟩
 replace u6:=u6.trans hT.symm
 replace u9:=u9.trans hs.symm
 rw [← hT] at HF
 rw [← hs] at HF H3
 have bs:0≤s∧s≤288230376151711744:=by omega
 clear m1 m2 m3 m4 n3 n4 hex hey hT hs
 obtain ⟨W,hW⟩:∃ W,W=((w.alloc (.cells #[.int .i64 x1,.int .i64 y1] 24)).alloc (.cells #[.int .i64 x2,.int .i64 y2] 24)).alloc (.cells #[.int .i64 ex,.int .i64 ey] 24):=⟨_,rfl⟩
 have p0:W.cell? ⟨w.heap.size,0,none⟩=some (.int .i64 x1):=by rw [hW];go_simp
 have p1:W.cell? ⟨w.heap.size,1,none⟩=some (.int .i64 y1):=by rw [hW];go_simp
 have p2:W.cell? ⟨w.heap.size+1,0,none⟩=some (.int .i64 x2):=by rw [hW];go_simp
 have p3:W.cell? ⟨w.heap.size+1,1,none⟩=some (.int .i64 y2):=by rw [hW];go_simp
 have p4:W.cell? ⟨w.heap.size+2,0,none⟩=some (.int .i64 ex):=by rw [hW];go_simp
 have p5:W.cell? ⟨w.heap.size+2,1,none⟩=some (.int .i64 ey):=by rw [hW];go_simp
 have hB0:Below w.heap.size w W:=by rw [hW];go_grown
 go_enter Tryz.func94,Tryz.ntmps94
 go_upto_region 2 with fail
 rw [← hW]
 clear hW
 refine wp_region_noPanic ?_
 refine wp_region_U (S:=(S2 (fun w'=>w'.cell? ⟨w.heap.size,0,none⟩=some (.int .i64 x1)∧w'.cell? ⟨w.heap.size,1,none⟩=some (.int .i64 y1)∧w'.cell? ⟨w.heap.size+1,0,none⟩=some (.int .i64 x2)∧w'.cell? ⟨w.heap.size+1,1,none⟩=some (.int .i64 y2)∧w'.cell? ⟨w.heap.size+2,0,none⟩=some (.int .i64 ex)∧w'.cell? ⟨w.heap.size+2,1,none⟩=some (.int .i64 ey)∧Below w.heap.size w w'))) (T:=(fun j=>[0,0,0,0,0,0,0,0,0,0,0,0,0,0,0,0,0,0,0,0,0,0,0,0,0,1].getD j 0)) (by kernel_rfl) (S2i0 ⟨p0,p1,p2,p3,p4,p5,hB0.drew⟩) (fun hH=>?_)
 have hWr2:Weaker (S2 (fun w'=>w'.cell? ⟨w.heap.size,0,none⟩=some (.int .i64 x1)∧w'.cell? ⟨w.heap.size,1,none⟩=some (.int .i64 y1)∧w'.cell? ⟨w.heap.size+1,0,none⟩=some (.int .i64 x2)∧w'.cell? ⟨w.heap.size+1,1,none⟩=some (.int .i64 y2)∧w'.cell? ⟨w.heap.size+2,0,none⟩=some (.int .i64 ex)∧w'.cell? ⟨w.heap.size+2,1,none⟩=some (.int .i64 ey)∧Below w.heap.size w w')):=weaker2 _
 refine Utn [(0,20),(1,21),(2,22),(3,23),(4,24),(5,25),(6,26),(7,27),(8,28),(9,29),(10,30),(11,31),(12,32),(13,33),(14,34),(15,35),(16,36),(17,37),(18,38),(19,39),(20,40),(21,41),(22,42)] 3 0 0 (L':=?Lr2_1) hWr2 hH ?hyr2_1 ?_
 case hyr2_1=>((iterate 23 apply tkC;rfl;kernel_rfl;intro w' hSw;replace hSw:=S2o0 hSw;(try dsimp only at hSw);have q0:=hSw.1;have q1:=hSw.2.1;have q2:=hSw.2.2.1;have q3:=hSw.2.2.2.1;have q4:=hSw.2.2.2.2.1;have q5:=hSw.2.2.2.2.2.1;have q6:=hSw.2.2.2.2.2.2;(try simp only [sB,sC]);go_simp;(try with_reducible rfl));exact tkN)
 simp only [sB,sC]
 refine U1 23 0 rfl (fun K hK=>?_)
 try clear hb
 have hG:=hH
 replace hG:=S2o0 hG;(try dsimp only at hG);have q0:=hG.1;have q1:=hG.2.1;have q2:=hG.2.2.1;have q3:=hG.2.2.2.1;have q4:=hG.2.2.2.2.1;have q5:=hG.2.2.2.2.2.1;have q6:=hG.2.2.2.2.2.2
 go_simp
 refine hK.out _ _ ?hsr2_24 (fun hH2=>?hrr2_24)
 case hsr2_24=>exact S2i0 (by have hG:=hH;replace hG:=S2o0 hG;(try dsimp only at hG);have q0:=hG.1;have q1:=hG.2.1;have q2:=hG.2.2.1;have q3:=hG.2.2.2.1;have q4:=hG.2.2.2.2.1;have q5:=hG.2.2.2.2.2.1;have q6:=hG.2.2.2.2.2.2;exact ⟨keepCell Ba q0,keepCell Ba q1,keepCell Ba q2,keepCell Ba q3,keepCell Ba q4,keepCell Ba q5,q6.alloc q6.size _⟩)
 clear hK K hH
 have hH:=hH2
 clear hH2
 try simp only [Act.put,sA,sB,sC]
 have hS:VI ((W.alloc (.cells #[.int .i64 0] 3)).drew) W.heap.size:=VI.drew (VI.here _ _ _)
 obtain ⟨gS,hgS⟩:∃ g,g=W.heap.size:=⟨_,rfl⟩
 have hlS:w.heap.size+2<gS:=by rw [hgS];exact lt_of_cell q4
 rw [← hgS] at hS
 try rw [← hgS]
 clear hgS q0 q1 q2 q3 q4 q5 q6
 generalize (W.alloc (.cells #[.int .i64 0] 3)).drew=wx23 at *
 refine Ut 24 6 1 0 0 (v:=?vr2_25) rfl hWr2 hH ?hyr2_25 ?_
 case hyr2_25=>(intro w' hSw;clear hSw;go_simp;try (with_reducible rfl))
 simp only [sB,sC]
 refine U1 25 1 rfl (fun K hK=>?_)
 have hG:=hH
 replace hG:=S2o0 hG;(try dsimp only at hG);have q0:=hG.1;have q1:=hG.2.1;have q2:=hG.2.2.1;have q3:=hG.2.2.2.1;have q4:=hG.2.2.2.2.1;have q5:=hG.2.2.2.2.2.1;have q6:=hG.2.2.2.2.2.2
 have hne1:¬ gS=w.heap.size:=by omega
 have hne2:¬ gS=w.heap.size+1:=by omega
 have hle:w.heap.size≤gS:=by omega
 obtain ⟨⟨z0,y0⟩,yf⟩:=hS
 go_simp
 refine hK.out _ _ ?hsr2_26 (fun hH2=>?hrr2_26)
 case hsr2_26=>exact S2i1
 clear hK K hH
 have hH:=hH2
 clear hH2
 try simp only [Act.put,sA,sB,sC]
 refine wpAnyU_done (by kernel_rfl) ?_ _ _
 refine NoPanic.normal ?_
 have c0:(wx23.setCell ⟨gS,0,none⟩ (.int .i64 s)).cell? ⟨w.heap.size,0,none⟩=some (.int .i64 x1):=by go_simp
 have c1:(wx23.setCell ⟨gS,0,none⟩ (.int .i64 s)).cell? ⟨w.heap.size,1,none⟩=some (.int .i64 y1):=by go_simp
 have c2:(wx23.setCell ⟨gS,0,none⟩ (.int .i64 s)).cell? ⟨w.heap.size+1,0,none⟩=some (.int .i64 x2):=by go_simp
 have c3:(wx23.setCell ⟨gS,0,none⟩ (.int .i64 s)).cell? ⟨w.heap.size+1,1,none⟩=some (.int .i64 y2):=by go_simp
 have c4:(wx23.setCell ⟨gS,0,none⟩ (.int .i64 s)).cell? ⟨gS,0,none⟩=some (.int .i64 s):=by go_simp
 have hBs:Below w.heap.size w (wx23.setCell ⟨gS,0,none⟩ (.int .i64 s)):=q6.setCell (p:=⟨gS,0,none⟩) hle _
 clear q0 q1 q2 q3 q4 q5 q6 y0 yf hH hG hWr2 p0 p1 p2 p3 p4 p5 hB0 hne1 hne2
 clear u1 u2 u3 u4 u5 u6 u7 u8 u9
 generalize wx23.setCell ⟨gS,0,none⟩ (.int .i64 s)=wy at *
 by_cases t0:T≤0
 ·have HR : Hid (r = rootZ (sqZ x1 y1)) := by show _ = _; rw [HF.out, if_pos t0]
  have HG:=hid (greatest_any 176 #[.pointer (some ⟨w.heap.size,0,none⟩)] (fun n=>decide (n*n≤sqZ x1 y1)) r wy HB.out.1 HB.out.2 (fun n a b=>by rw [HR.out,decide_eq_true_iff];exact root_le (sqZ_bd h1 h2).1 (by have:=(sqZ_bd h1 h2).2;omega) a) cf_far1 (fun n w' a b hb=>by simpa using far1_calls w.heap.size x1 y1 n w' (keepCell hb c0) (keepCell hb c1) h1 h2 a b))
  clear HF H3 HCR
  go_wp2_with fail
  refine HG.out.mono ?_
  rintro e w7 ⟨rfl,hb7⟩
  have hB7:=keepBelow hb7 hBs
  clear HG HR hb7 hBs
  go_wp2
  go_returns
  exact ret_int rfl hB7
 ·by_cases t1 : s ≤ T
  ·have HR : Hid (r = rootZ (sqZ x2 y2)) := by show _ = _; rw [HF.out, if_neg t0, if_pos t1]
   have HG:=hid (greatest_any 177 #[.pointer (some ⟨w.heap.size+1,0,none⟩)] (fun n=>decide (n*n≤sqZ x2 y2)) r wy HB.out.1 HB.out.2 (fun n a b=>by rw [HR.out,decide_eq_true_iff];exact root_le (sqZ_bd h3 h4).1 (by have:=(sqZ_bd h3 h4).2;omega) a) cf_far2 (fun n w' a b hb=>by simpa using far2_calls (w.heap.size+1) x2 y2 n w' (keepCell hb c2) (keepCell hb c3) h3 h4 a b))
   clear HF H3 HCR
   go_wp2_with fail
   refine HG.out.mono ?_
   rintro e w7 ⟨rfl,hb7⟩
   have hB7:=keepBelow hb7 hBs
   clear HG HR hb7 hBs
   go_wp2
   go_returns
   exact ret_int rfl hB7
  ·have HR : Hid (r = rootZ (c * c / s)) := by show _ = _; rw [HF.out, if_neg t0, if_neg t1]
   have H3':=H3.out (by omega)
   have hp:Hid (∀ n:Int,0≤n→(n*n*s≤c*c↔n≤r)):=fun n a=>by
    rw [HR.out,← root_le H3'.1 (by omega) a,Int.le_ediv_iff_mul_le (by omega)]
   have HBB:=hid bc
   clear HF H3 H3' HR
   go_wp2_with fail
   refine (HCR.out _).mono ?_
   rintro e w6 ⟨rfl,hb6⟩
   replace c4:=keepCell hb6 c4
   have hB6:=keepBelow hb6 hBs
   clear hb6 hBs c0 c1 c2 c3 HCR
   obtain ⟨gC,hgC⟩:∃ g,g=w6.heap.size:=⟨_,rfl⟩
   obtain ⟨w7,hw7⟩:∃ w7,w7=w6.alloc (.cells #[.int .i64 c] 3):=⟨_,rfl⟩
   have d4:w7.cell? ⟨gS,0,none⟩=some (.int .i64 s):=by rw [hw7];exact keepCell Ba c4
   have d5:w7.cell? ⟨gC,0,none⟩=some (.int .i64 c):=by rw [hw7,hgC];go_simp
   have hB7:Below w.heap.size w w7:=by rw [hw7];exact hB6.alloc hB6.size _
   have HG:=hid (greatest_any 178 #[.pointer (some ⟨gS,0,none⟩),.pointer (some ⟨gC,0,none⟩)] (fun n=>decide (n*n*s≤c*c)) r w7 HB.out.1 HB.out.2 (fun n a b=>by rw [decide_eq_true_iff];exact hp.out n a) cf_far3 (fun n w' a b hb=>by simpa using far3_calls gS gC s c n w' (keepCell hb d4) (keepCell hb d5) bs HBB.out a b))
   go_wp2_with fail
   rw [← hw7,← hgC]
   clear hw7 hgC c4 hB6
   refine HG.out.mono ?_
   rintro e w8 ⟨rfl,hb8⟩
   have hB8:=keepBelow hb8 hB7
   clear HG hp hb8 hB7
   go_wp2
   go_returns
   exact ret_int rfl hB8
theorem apart_calls (A B:Option Addr) (n c n' c':Nat) (a b:List V) (w:World) (hS:Sl w A n c a) (hM:Sl w B n' c' b) :
  Calls Tryz.prog 39 #[.slice A n c,.slice B n' c'] w (Ret (.tuple #[.int .i64 (apartZ a b),.int .i64 (bothE a b)]) w):=by
 have HMN:=hid (nminus_calls A B n c n' c' a b w hS hM)
 obtain ⟨mw,ml⟩:=minus_bd a b
 have HAZ:Hid (apartZ a b=if bothE a b=0 then (if ninB (minusL a b)=true then 0 else farTo (minusL a b) (minusL a b).length) else 0):=rfl
 obtain ⟨m,hm⟩:∃ m,m=minusL a b:=⟨_,rfl⟩
 obtain ⟨E,hE⟩:∃ E,E=bothE a b:=⟨_,rfl⟩
 obtain ⟨Z,hZ⟩:∃ Z,Z=apartZ a b:=⟨_,rfl⟩
 rw [← hm,← hE] at HMN HAZ
 rw [← hm] at mw ml
 rw [← hZ] at HAZ
 rw [← hZ,← hE]
 have HMW:=hid mw
 clear hm hE hZ hS hM mw
 go_enter Tryz.func39,Tryz.ntmps39
 go_wp2_with fail
 refine HMN.out.mono ?_
 rintro e w1 ⟨Am,nm,cm,rfl,s1,f1,hb1⟩
 have hnm:=s1.len
 subst hnm
 have HS1:=hid s1
 clear s1 f1 HMN
 by_cases hE0:E=0
 ·have HZ : Hid (Z = if ninB m = true then 0 else farTo m m.length) := by show _ = _; rw [HAZ.out, if_pos hE0]
  subst hE0
  have HIN:=hid (ninside_calls Am m.length cm m w1 HS1.out HMW.out (by omega))
  clear HAZ
  go_wp2_with fail
  refine HIN.out.mono ?_
  rintro e w2 ⟨rfl,hb2⟩
  have hB2:=keepBelow hb2 hb1
  have HS2:=hid (HS1.out.below hb2)
  clear HS1 hb1 hb2 HIN
  cases hin:ninB m with
  | true =>
   have HR:Hid (Z=0):=by show _=_;rw [HZ.out,if_pos hin]
   clear hin HZ
   go_wp2
   refine bodyPost_ret (v:=.tuple #[.int .i64 0,.int .i64 0]) (by simp [results,Tryz.results39,go_sem]) rfl ⟨by rw [HR.out],hB2⟩
  | false =>
   have HR:Hid (Z=farTo m m.length):=by show _=_;rw [HZ.out,if_neg (by simp [hin])]
   clear hin HZ
   go_wp2
   go_loopw [8,24] (fun t j wr=>∃ k:Nat,k≤m.length∧j = .int .i64 k∧t = .int .i64 (farTo m k)∧Below w.heap.size w wr∧Below w2.heap.size w2 wr) (fun _ j _=>m.length-(intOf j).toNat)
   case atStart=>exact ⟨0,Nat.zero_le _,rfl,rfl,hB2,Below.refl _ _⟩
   case round =>
    clear hB2
    obtain ⟨k,hk,rfl,rfl,hB,hB'⟩:=hrel
    obtain ⟨wo,rfl⟩:∃ wo:World,wo=wr:=⟨_,rfl⟩
    by_cases hlt:k<m.length
    ·have hlt' : (k : Int) < (m.length : Int) := by omega
     obtain ⟨b,off,hA,hC⟩:=(HS2.out.below hB').at_ (by intro h;rw [h] at hlt;simp at hlt)
     subst hA
     obtain ⟨j,hje⟩:∃ j,j=(k+1) % m.length:=⟨_,rfl⟩
     have hj:j<m.length:=by rw [hje];exact Nat.mod_lt _ (by omega)
     have hji:((k:Int)+1) % (m.length:Int)=(j:Int):=by rw [hje];simp
     have hji2:(((k:Int)+1) % (m.length:Int)).toNat=j:=by omega
     have hji3:((k:Int)+1) % (m.length:Int)<(m.length:Int):=by omega
     have hji4:0≤((k:Int)+1) % (m.length:Int):=by omega
     have hwk:IntKind.i64.wrap ((k:Int)+1)=(k:Int)+1:=IntWalk.i64_in _ (by omega)
     have htm:((k:Int)+1).tmod (m.length:Int)=(j:Int):=by rw [Int.tmod_eq_emod_of_nonneg (by omega)];exact hji
     have hl0:¬ m=[]:=by intro h;rw [h] at hlt;simp at hlt
     have hjl:(j:Int)<(m.length:Int):=by omega
     obtain ⟨a1,a2,a3,a4⟩:=withinB_iff.1 (allWithin_at HMW.out hlt)
     obtain ⟨b1,b2,b3,b4⟩:=withinB_iff.1 (allWithin_at HMW.out hj)
     have xk:=hC.x k hlt
     have yk:=hC.y k hlt
     have xj:=hC.x j hj
     have yj:=hC.y j hj
     have hbl:=hC.lt
     have HFT:Hid (farTo m (k+1)=if farZ (px m k) (py m k) (px m j) (py m j)<farTo m k then farZ (px m k) (py m k) (px m j) (py m j) else farTo m k):=by show _=_;rw [farTo,← hje]
     generalize px m k=x1 at *
     generalize py m k=y1 at *
     generalize px m j=x2 at *
     generalize py m j=y2 at *
     have HFR:=hid (fun w=>nfar_calls x1 y1 x2 y2 w (by omega) (by omega) (by omega) (by omega))
     obtain ⟨fz,hfz⟩:∃ z,z=farZ x1 y1 x2 y2:=⟨_,rfl⟩
     rw [← hfz] at HFR HFT
     obtain ⟨ft,hft⟩:∃ z,z=farTo m k:=⟨_,rfl⟩
     rw [← hft] at HFT ⊢
     clear hC hje hfz hft
     go_upto_region 10 with fail
     obtain ⟨gp,hgp⟩:∃ g,g=wo.heap.size:=⟨_,rfl⟩
     obtain ⟨wz,hwz⟩:∃ wz,wz=wo.alloc (.cells #[.int .i64 x1,.int .i64 y1] 24):=⟨_,rfl⟩
     have z0:wz.cell? ⟨gp,0,none⟩=some (.int .i64 x1):=by rw [hwz,hgp];go_simp
     have z1:wz.cell? ⟨gp,1,none⟩=some (.int .i64 y1):=by rw [hwz,hgp];go_simp
     replace xj:wz.cell? ⟨b,off+j*2,none⟩=some (.int .i64 x2):=by rw [hwz];exact keepCell Ba xj
     replace yj:wz.cell? ⟨b,off+j*2+1,none⟩=some (.int .i64 y2):=by rw [hwz];exact keepCell Ba yj
     have hBz:Below w2.heap.size w2 wz:=by rw [hwz];exact hB'.alloc hB'.size _
     have hBy:Below w.heap.size w wz:=by rw [hwz];exact hB.alloc hB.size _
     rw [← hwz,← hgp]
     clear hwz hgp xk yk hB hB' hbl
     refine wp_region_noPanic ?_
     refine wp_region_U (S:=(S2 (fun w'=>w'.cell? ⟨gp,0,none⟩=some (.int .i64 x1)∧w'.cell? ⟨gp,1,none⟩=some (.int .i64 y1)∧w'.cell? ⟨b,off+j*2,none⟩=some (.int .i64 (x2))∧w'.cell? ⟨b,off+j*2+1,none⟩=some (.int .i64 (y2))∧Below w.heap.size w w'∧Below w2.heap.size w2 w'))) (T:=(fun _=>0)) (by kernel_rfl) (S2i0 ⟨z0,z1,xj,yj,hBy.drew,hBz.drew⟩) (fun hH=>?_)
     have hWr3:Weaker (S2 (fun w'=>w'.cell? ⟨gp,0,none⟩=some (.int .i64 x1)∧w'.cell? ⟨gp,1,none⟩=some (.int .i64 y1)∧w'.cell? ⟨b,off+j*2,none⟩=some (.int .i64 (x2))∧w'.cell? ⟨b,off+j*2+1,none⟩=some (.int .i64 (y2))∧Below w.heap.size w w'∧Below w2.heap.size w2 w')):=weaker2 _
     refine Utn [(0,29),(1,30),(2,31),(3,32),(4,33),(5,34),(6,35),(7,36),(8,37),(9,38)] 3 0 0 (L':=?Lr3_1) hWr3 hH ?hyr3_1 ?_
     case hyr3_1=>((iterate 10 apply tkC;rfl;kernel_rfl;intro w' hSw;replace hSw:=S2o0 hSw;(try dsimp only at hSw);have q0:=hSw.1;have q1:=hSw.2.1;have q2:=hSw.2.2.1;have q3:=hSw.2.2.2.1;have q4:=hSw.2.2.2.2.1;have q5:=hSw.2.2.2.2.2;(try simp only [sB,sC]);go_simp;(try with_reducible rfl));exact tkN)
     simp only [sB,sC]
     refine U1 10 0 rfl (fun K hK=>?_)
     try clear hb
     go_simp
     (go_at_call 94;refine (HFR.out _).mono ?_;rintro e wn ⟨rfl,hb⟩)
     refine hK.out _ _ ?hsr3_11 (fun hH2=>?hrr3_11)
     case hsr3_11=>exact S2i0 (by have hG:=hH;replace hG:=S2o0 hG;(try dsimp only at hG);have q0:=hG.1;have q1:=hG.2.1;have q2:=hG.2.2.1;have q3:=hG.2.2.2.1;have q4:=hG.2.2.2.2.1;have q5:=hG.2.2.2.2.2;exact ⟨keepCell hb q0,keepCell hb q1,keepCell hb q2,keepCell hb q3,keepBelow hb q4,keepBelow hb q5⟩)
     clear hK K hH
     have hH:=hH2
     clear hH2
     try simp only [Act.put,sA,sB,sC]
     refine Utn [(11,40),(12,8)] 0 0 0 (L':=?Lr3_12) hWr3 hH ?hyr3_12 ?_
     case hyr3_12=>((iterate 2 apply tkC;rfl;kernel_rfl;intro w' hSw;clear hSw;(try simp only [sB,sC]);go_simp;(try with_reducible rfl));exact tkN)
     simp only [sB,sC]
     refine wpAnyU_done (by kernel_rfl) ?_ _ _
     refine NoPanic.normal ?_
     clear hWr3
     replace hH:=S2o0 hH
     (try dsimp only at hH)
     have q0:=hH.1
     have q1:=hH.2.1
     have q2:=hH.2.2.1
     have q3:=hH.2.2.2.1
     have q4:=hH.2.2.2.2.1
     have q5:=hH.2.2.2.2.2
     clear hH hb q0 q1 q2 q3 HFR z0 z1 xj yj hBz hBy
     have e2:min ft fz=farTo m (k+1):=by rw [HFT.out];split <;> omega
     rw [e2]
     clear e2
     go_wp2
     go_roundw
     case rel=>exact ⟨k+1,hlt,by go_num,rfl,q4,q5⟩
     case measure=>simp [intOf];omega
    ·have hke : k = m.length := by omega
     have HZ2:Hid (Z=farTo m k):=by show _=_;rw [HR.out,hke]
     clear HR
     go_wp2
     refine bodyPost_ret (v:=.tuple #[.int .i64 (farTo m k),.int .i64 0]) (by simp [results,Tryz.results39,go_sem]) rfl ⟨by rw [HZ2.out],hB⟩
 ·have HZ : Hid (Z = 0) := by show _ = _; rw [HAZ.out, if_neg hE0]
  have hne:(E != 0)=true:=by simp [hE0]
  clear HAZ hE0
  go_wp2
  refine bodyPost_ret (v:=.tuple #[.int .i64 0,.int .i64 E]) (by simp [results,Tryz.results39,go_sem]) rfl ⟨by rw [HZ.out],hb1⟩
end
end Go.Proofs.YtodpincpofoiiaaGreat
