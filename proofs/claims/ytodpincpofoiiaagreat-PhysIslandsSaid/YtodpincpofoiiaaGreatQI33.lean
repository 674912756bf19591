/- Parts of a proof: contracts and laws. -/
import Derived.Test.YtodpincpofoiiaaGreatQI32
import Derived.Test.YtodpincpofoiiaaGreatQI05
import Derived.Test.YtodpincpofoiiaaGreatQI03
set_option maxRecDepth 100000
set_option maxHeartbeats 16000000
namespace Go.Proofs.YtodpincpofoiiaaGreat
section
set_option linter.unusedVariables false
set_option linter.unusedSimpArgs false
open Go.RowKit
theorem cdeep_calls (p q r1 r2 n1 n2 : Int) (gR gN : Nat) (hp : withinB 65536000 p q = true) (hr : withinB 65536000 r1 r2 = true) (hn1 : -131072000 ≤ n1 ∧ n1 ≤ 131072000) (hn2 : -131072000 ≤ n2 ∧ n2 ≤ 131072000) (w : World)
  (r_0':w.cell? ⟨gR,0,none⟩=some (.int .i64 r1)) (r_1':w.cell? ⟨gR,1,none⟩=some (.int .i64 r2)) (n_0':w.cell? ⟨gN,0,none⟩=some (.int .i64 n1)) (n_1':w.cell? ⟨gN,1,none⟩=some (.int .i64 n2)) :
  Calls Tryz.prog 96 #[vecV p q,.pointer (some ⟨gR,0,none⟩),.pointer (some ⟨gN,0,none⟩)] w (Ret (.tuple #[.int .i64 (overQ ((r1-p)*n1+(r2-q)*n2) (lenZ n1 n2)),.bool (decide (0≤(r1-p)*n1+(r2-q)*n2))]) w):=by
 obtain ⟨_,_,_,_⟩:=withinB_iff.1 hp
 obtain ⟨_,_,_,_⟩:=withinB_iff.1 hr
 have m1:=mul_bd (x:=r1-p) (y:=n1) (M:=131072000) (N:=131072000) (by omega) (by omega) (by omega) (by omega)
 have m2:=mul_bd (x:=r2-q) (y:=n2) (M:=131072000) (N:=131072000) (by omega) (by omega) (by omega) (by omega)
 have HM:=hid (cminus_calls r1 r2 p q (by omega) (by omega))
 have HD:=hid (cdot_calls (r1-p) (r2-q) n1 n2 (by omega) (by omega) (by omega) (by omega))
 obtain ⟨D,hD⟩:∃ D,D=(r1-p)*n1+(r2-q)*n2:=⟨_,rfl⟩
 rw [← hD] at HD ⊢
 have bl:=len_bd (x:=n1) (y:=n2) (by omega) (by omega)
 have hT:=times_calls D 1 (by omega) (by omega) (by omega) (by omega)
 rw [Int.mul_one] at hT
 have HT:=hid hT
 have HL:=hid (slength_calls n1 n2 (by omega) (by omega))
 have HO:=hid (over_calls D (lenZ n1 n2) (by omega) (by omega) (by omega) (by omega))
 generalize overQ D (lenZ n1 n2)=Z at *
 generalize overE D (lenZ n1 n2)=E at *
 generalize lenZ n1 n2=L at *
 clear hT hD m1 m2 bl hp hr
 obtain ⟨W,hW⟩:∃ W,W=w.alloc (.cells #[.int .i64 p,.int .i64 q] 24):=⟨_,rfl⟩
 have p_0:W.cell? ⟨w.heap.size,0,none⟩=some (.int .i64 p):=by rw [hW];go_simp
 have p_1:W.cell? ⟨w.heap.size,1,none⟩=some (.int .i64 q):=by rw [hW];go_simp
 have hB:Below w.heap.size w W:=by rw [hW];go_grown
 have r_0:=keepCell hB r_0'
 have r_1:=keepCell hB r_1'
 have n_0:=keepCell hB n_0'
 have n_1:=keepCell hB n_1'
 clear r_0' r_1' n_0' n_1'
 go_enter Tryz.func96,Tryz.ntmps96
 go_upto_region 1 with fail
 rw [← hW]
 clear hW
 refine wp_region_noPanic ?_
 refine wp_region_U (S:=(S2 (fun w'=>w'.cell? ⟨gR,0,none⟩=some (.int .i64 (r1))∧w'.cell? ⟨gR,1,none⟩=some (.int .i64 (r2))∧w'.cell? ⟨gN,0,none⟩=some (.int .i64 (n1))∧w'.cell? ⟨gN,1,none⟩=some (.int .i64 (n2))∧w'.cell? ⟨w.heap.size,0,none⟩=some (.int .i64 (p))∧w'.cell? ⟨w.heap.size,1,none⟩=some (.int .i64 (q))∧Below w.heap.size w w'))) (T:=(fun _=>0)) (by kernel_rfl) (S2i0 ⟨r_0,r_1,n_0,n_1,p_0,p_1,hB.drew⟩) (fun hH=>?_)
 have hWr1:Weaker (S2 (fun w'=>w'.cell? ⟨gR,0,none⟩=some (.int .i64 (r1))∧w'.cell? ⟨gR,1,none⟩=some (.int .i64 (r2))∧w'.cell? ⟨gN,0,none⟩=some (.int .i64 (n1))∧w'.cell? ⟨gN,1,none⟩=some (.int .i64 (n2))∧w'.cell? ⟨w.heap.size,0,none⟩=some (.int .i64 (p))∧w'.cell? ⟨w.heap.size,1,none⟩=some (.int .i64 (q))∧Below w.heap.size w w')):=weaker2 _
 refine Utn [(0,9),(1,10),(3,12)] 3 0 0 (L':=?Lr1_1) hWr1 hH ?yr1_1 ?_
 case yr1_1=>((iterate 3 apply tkC;rfl;kernel_rfl;intro w' hSw;replace hSw:=S2o0 hSw;(try dsimp only at hSw);have q0:=hSw.1;have q1:=hSw.2.1;have q2:=hSw.2.2.1;have q3:=hSw.2.2.2.1;have q4:=hSw.2.2.2.2.1;have q5:=hSw.2.2.2.2.2.1;have q6:=hSw.2.2.2.2.2.2;(try simp only [sB,sC]);go_simp;(try with_reducible rfl));exact tkN)
 simp only [sB,sC]
 refine U1 2 0 rfl (fun K hK=>?_)
 try clear hb
 go_simp
 (go_at_call 98;refine (HM.out _).mono ?_;rintro e wn ⟨rfl,hb⟩)
 refine hK.out _ _ (S2i0 (by have hG:=hH;replace hG:=S2o0 hG;(try dsimp only at hG);have q0:=hG.1;have q1:=hG.2.1;have q2:=hG.2.2.1;have q3:=hG.2.2.2.1;have q4:=hG.2.2.2.2.1;have q5:=hG.2.2.2.2.2.1;have q6:=hG.2.2.2.2.2.2;exact ⟨keepCell hb q0,keepCell hb q1,keepCell hb q2,keepCell hb q3,keepCell hb q4,keepCell hb q5,keepBelow hb q6⟩)) (fun hH2=>?_)
 clear hK K hH
 rename _=>hH
 try simp only [Act.put,sA,sB,sC]
 refine U1 4 0 rfl (fun K hK=>?_)
 try clear hb
 go_simp
 (go_at_call 97;refine (HD.out _).mono ?_;rintro e wn ⟨rfl,hb⟩)
 refine hK.out _ _ (S2i0 (by have hG:=hH;replace hG:=S2o0 hG;(try dsimp only at hG);have q0:=hG.1;have q1:=hG.2.1;have q2:=hG.2.2.1;have q3:=hG.2.2.2.1;have q4:=hG.2.2.2.2.1;have q5:=hG.2.2.2.2.2.1;have q6:=hG.2.2.2.2.2.2;exact ⟨keepCell hb q0,keepCell hb q1,keepCell hb q2,keepCell hb q3,keepCell hb q4,keepCell hb q5,keepBelow hb q6⟩)) (fun hH2=>?_)
 clear hK K hH
 rename _=>hH
 try simp only [Act.put,sA,sB,sC]
 refine Ut 5 6 0 0 0 (v:=?vr1_6) rfl hWr1 hH ?yr1_6 ?_
 case yr1_6=>(intro w' hSw;clear hSw;go_simp;try (with_reducible rfl))
 simp only [sB,sC]
 refine wpAnyU_done (by kernel_rfl) ?_ _ _
 refine NoPanic.normal ?_
 clear hWr1
 replace hH:=S2o0 hH
 (try dsimp only at hH)
 have q0:=hH.1
 have q1:=hH.2.1
 have q2:=hH.2.2.1
 have q3:=hH.2.2.2.1
 have q4:=hH.2.2.2.2.1
 have q5:=hH.2.2.2.2.2.1
 have q6:=hH.2.2.2.2.2.2
 clear hH
 clear r_0 r_1 n_0 n_1 p_0 p_1 hB q0 q1 q4 q5 HM HD
 try clear hb
 have n_0:=q2
 have n_1:=q3
 have hB:=q6
 clear q2 q3 q6
 go_upto_region 2 with fail
 refine wp_region_noPanic ?_
 refine wp_region_U (S:=(S2 (fun w'=>w'.cell? ⟨gN,0,none⟩=some (.int .i64 (n1))∧w'.cell? ⟨gN,1,none⟩=some (.int .i64 (n2))∧Below w.heap.size w w'))) (T:=(fun _=>0)) (by kernel_rfl) (S2i0 ⟨n_0,n_1,hB.drew⟩) (fun hH=>?_)
 have hWr2:Weaker (S2 (fun w'=>w'.cell? ⟨gN,0,none⟩=some (.int .i64 (n1))∧w'.cell? ⟨gN,1,none⟩=some (.int .i64 (n2))∧Below w.heap.size w w')):=weaker2 _
 refine Utn [(0,15),(2,17)] 8 0 0 (L':=?Lr2_1) hWr2 hH ?yr2_1 ?_
 case yr2_1=>((iterate 2 apply tkC;rfl;kernel_rfl;intro w' hSw;replace hSw:=S2o0 hSw;(try dsimp only at hSw);have q0:=hSw.1;have q1:=hSw.2.1;have q2:=hSw.2.2;(try simp only [sB,sC]);go_simp;(try with_reducible rfl));exact tkN)
 simp only [sB,sC]
 refine U1 1 0 rfl (fun K hK=>?_)
 try clear hb
 go_simp
 (go_at_call 99;refine (HT.out _).mono ?_;rintro e wn ⟨rfl,hb⟩)
 refine hK.out _ _ (S2i0 (by have hG:=hH;replace hG:=S2o0 hG;(try dsimp only at hG);have q0:=hG.1;have q1:=hG.2.1;have q2:=hG.2.2;exact ⟨keepCell hb q0,keepCell hb q1,keepBelow hb q2⟩)) (fun hH2=>?_)
 clear hK K hH
 rename _=>hH
 try simp only [Act.put,sA,sB,sC]
 refine U1 3 0 rfl (fun K hK=>?_)
 try clear hb
 go_simp
 (go_at_call 101;refine (HL.out _).mono ?_;rintro e wn ⟨rfl,hb⟩)
 refine hK.out _ _ (S2i0 (by have hG:=hH;replace hG:=S2o0 hG;(try dsimp only at hG);have q0:=hG.1;have q1:=hG.2.1;have q2:=hG.2.2;exact ⟨keepCell hb q0,keepCell hb q1,keepBelow hb q2⟩)) (fun hH2=>?_)
 clear hK K hH
 rename _=>hH
 try simp only [Act.put,sA,sB,sC]
 refine U1 4 0 rfl (fun K hK=>?_)
 try clear hb
 go_simp
 (go_at_call 100;refine (HO.out _).mono ?_;rintro e wn ⟨rfl,hb⟩)
 refine hK.out _ _ (S2i0 (by have hG:=hH;replace hG:=S2o0 hG;(try dsimp only at hG);have q0:=hG.1;have q1:=hG.2.1;have q2:=hG.2.2;exact ⟨keepCell hb q0,keepCell hb q1,keepBelow hb q2⟩)) (fun hH2=>?_)
 clear hK K hH
 rename _=>hH
 try simp only [Act.put,sA,sB,sC]
 refine Utn [(5,14),(6,20),(7,21),(8,7),(9,8)] 0 0 0 (L':=?Lr2_6) hWr2 hH ?yr2_6 ?_
 case yr2_6=>((iterate 5 apply tkC;rfl;kernel_rfl;intro w' hSw;clear hSw;(try simp only [sB,sC]);go_simp;(try with_reducible rfl));exact tkN)
 simp only [sB,sC]
 refine wpAnyU_done (by kernel_rfl) ?_ _ _
 refine NoPanic.normal ?_
 clear hWr2
 replace hH:=S2o0 hH
 (try dsimp only at hH)
 have q0:=hH.1
 have q1:=hH.2.1
 have q2:=hH.2.2
 clear hH
 clear n_0 n_1 hB q0 q1 HT HL HO
 try clear hb
 go_wp2
 refine bodyPost_ret (v:=.tuple #[.int .i64 Z,.bool (decide (0≤D))]) (by simp [results,Tryz.results96,go_sem]) rfl ⟨rfl,q2⟩
end
end Go.Proofs.YtodpincpofoiiaaGreat
