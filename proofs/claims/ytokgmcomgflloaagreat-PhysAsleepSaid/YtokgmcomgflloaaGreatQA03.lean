/- Parts of a proof: contracts and laws. -/
import Derived.Test.YtokgmcomgflloaaGreatQA02
import Derived.Test.YtokgmcomgflloaaGreatQA00
import Derived.BigQuiet
set_option maxRecDepth 100000
set_option maxHeartbeats 16000000
namespace Go.Proofs.YtokgmcomgflloaaGreat
section
set_option linter.unusedVariables false
set_option linter.unusedSimpArgs false
open Go.RowKit
def qh (a b c d:Int):Int:=dI (aX a d) (aX b c)
theorem je (a b c d:Int) (w:World):Calls Tryz.prog 11 #[aR a b,aR c d] w (dG (aR (dI a c) (dI b d)) w):=by
 obtain ⟨W,hW⟩:∃ W,W=((w.alloc (.cells #[.int .i64 a,.int .i64 b] 24)).alloc (.cells #[.int .i64 c,.int .i64 d] 24)).alloc (.cells #[.int .i64 0,.int .i64 0] 24):=⟨_,rfl⟩;have k0:W.cell? ⟨w.heap.size,0,none⟩=some (.int .i64 a):=by rw [hW];go_simp
 have k1:W.cell? ⟨w.heap.size,1,none⟩=some (.int .i64 b):=by rw [hW];go_simp
 have k2:W.cell? ⟨w.heap.size+1,0,none⟩=some (.int .i64 c):=by rw [hW];go_simp
 have k3:W.cell? ⟨w.heap.size+1,1,none⟩=some (.int .i64 d):=by rw [hW];go_simp
 have HT:Hid (There W.drew (w.heap.size+2) 2):=by
  rw [hW]
  exact fun j hj=>by
   match j,hj with
   | 0,_ | 1,_=>exact ⟨⟨_,by go_simp;rfl⟩,by go_simp⟩
 have hB:Below w.heap.size w W:=by rw [hW];go_grown
 go_enter Tryz.func11,Tryz.ntmps11
 go_wp2_with fail
 rw [← hW];clear hW;refine wp_region_noPanic ?_;refine au (S:=(S2 (fun w'=>w'.cell? ⟨w.heap.size,0,none⟩=some (.int .i64 (a))∧w'.cell? ⟨w.heap.size,1,none⟩=some (.int .i64 (b))∧w'.cell? ⟨w.heap.size+1,0,none⟩=some (.int .i64 (c))∧w'.cell? ⟨w.heap.size+1,1,none⟩=some (.int .i64 (d))∧There w' (w.heap.size+2) 2∧Below w.heap.size w w'))) (T:=(fun j=>[0,0,0,0,0,0,0,0,0,0,0,1].getD j 0)) (by kernel_rfl) (aC ⟨k0,k1,k2,k3,HT.out,hB.drew⟩) (fun hH=>?_);have hWr1:aH (S2 (fun w'=>w'.cell? ⟨w.heap.size,0,none⟩=some (.int .i64 (a))∧w'.cell? ⟨w.heap.size,1,none⟩=some (.int .i64 (b))∧w'.cell? ⟨w.heap.size+1,0,none⟩=some (.int .i64 (c))∧w'.cell? ⟨w.heap.size+1,1,none⟩=some (.int .i64 (d))∧There w' (w.heap.size+2) 2∧Below w.heap.size w w')):=aK _;refine dn [(0,5),(1,6),(2,7),(3,8),(5,10),(6,11),(7,12),(8,13)] 4 0 0 (L':=?Lr1_1) hWr1 hH ?hyr1_1 ?_
 case hyr1_1=>((iterate 8 apply dA;rfl;kernel_rfl;intro w' hSw;replace hSw:=aA hSw;(try dsimp only at hSw);have q0:=hSw.1;have q1:=hSw.2.1;have q2:=hSw.2.2.1;have q3:=hSw.2.2.2.1;have q4:=hSw.2.2.2.2.1;have q5:=hSw.2.2.2.2.2;(try simp only [sB,sC]);go_simp;(try with_reducible rfl));exact dw)
 simp only [sB,sC];refine U1 4 0 rfl (fun K hK=>?_)
 try clear hb
 go_simp
 (go_at_call 40;refine (lH a c _).mono ?_;rintro e wn ⟨rfl,hb⟩)
 refine hK.out _ _ ?hsr1_9 (fun hH2=>?hrr1_9)
 case hsr1_9=>exact aC (by have hG:=hH;replace hG:=aA hG;(try dsimp only at hG);have q0:=hG.1;have q1:=hG.2.1;have q2:=hG.2.2.1;have q3:=hG.2.2.2.1;have q4:=hG.2.2.2.2.1;have q5:=hG.2.2.2.2.2;exact ⟨keepCell hb q0,keepCell hb q1,keepCell hb q2,keepCell hb q3,There.below hb q4,aj hb q5⟩)
 clear hK K hH;have hH:=hH2;clear hH2
 try simp only [Act.put,sA,sB,sC]
 refine U1 9 0 rfl (fun K hK=>?_)
 try clear hb
 go_simp
 (go_at_call 40;refine (lH b d _).mono ?_;rintro e wn ⟨rfl,hb⟩)
 refine hK.out _ _ ?hsr1_10 (fun hH2=>?hrr1_10)
 case hsr1_10=>exact aC (by have hG:=hH;replace hG:=aA hG;(try dsimp only at hG);have q0:=hG.1;have q1:=hG.2.1;have q2:=hG.2.2.1;have q3:=hG.2.2.2.1;have q4:=hG.2.2.2.2.1;have q5:=hG.2.2.2.2.2;exact ⟨keepCell hb q0,keepCell hb q1,keepCell hb q2,keepCell hb q3,There.below hb q4,aj hb q5⟩)
 clear hK K hH;have hH:=hH2;clear hH2
 try simp only [Act.put,sA,sB,sC]
 refine Ut 10 15 1 0 0 (v:=?vr1_11) rfl hWr1 hH ?hyr1_11 ?_
 case hyr1_11=>(intro w' hSw;clear hSw;go_simp;try (with_reducible rfl))
 simp only [sB,sC];refine U1 11 1 rfl (fun K hK=>?_);have hG:=hH;replace hG:=aA hG;(try dsimp only at hG);have q0:=hG.1;have q1:=hG.2.1;have q2:=hG.2.2.1;have q3:=hG.2.2.2.1;have q4:=hG.2.2.2.2.1;have q5:=hG.2.2.2.2.2;obtain ⟨z0,z1,y0,y1,f0,f1⟩:=q4.get2;go_simp;refine hK.out _ _ ?hsr1_12 (fun hH2=>?hrr1_12)
 case hsr1_12=>exact dY
 clear hK K hH;have hH:=hH2;clear hH2
 try simp only [Act.put,sA,sB,sC]
 refine ak (by kernel_rfl) ?_ _ _;refine NoPanic.normal ?_;clear hWr1;have hl9:=lt_of_cell y0;have hB9:=q5;clear q0 q1 q2 q3 q4 q5 hH hG k0 k1 k2 k3 HT;go_wp2;refine bodyPost_ret (v:=aR (dI a c) (dI b d)) (by simp [results,Tryz.results11,go_sem,y0,y1,hl9]) rfl ⟨rfl,?_⟩;have:=hB9.size
 go_grown
theorem jR (a b c d:Int) (w:World):Calls Tryz.prog 89 #[aR a b,aR c d] w (dG (aR (bT a c) (bT b d)) w):=by
 obtain ⟨W,hW⟩:∃ W,W=((w.alloc (.cells #[.int .i64 a,.int .i64 b] 24)).alloc (.cells #[.int .i64 c,.int .i64 d] 24)).alloc (.cells #[.int .i64 0,.int .i64 0] 24):=⟨_,rfl⟩;have k0:W.cell? ⟨w.heap.size,0,none⟩=some (.int .i64 a):=by rw [hW];go_simp
 have k1:W.cell? ⟨w.heap.size,1,none⟩=some (.int .i64 b):=by rw [hW];go_simp
 have k2:W.cell? ⟨w.heap.size+1,0,none⟩=some (.int .i64 c):=by rw [hW];go_simp
 have k3:W.cell? ⟨w.heap.size+1,1,none⟩=some (.int .i64 d):=by rw [hW];go_simp
 have HT:Hid (There W.drew (w.heap.size+2) 2):=by
  rw [hW]
  exact fun j hj=>by
   match j,hj with
   | 0,_ | 1,_=>exact ⟨⟨_,by go_simp;rfl⟩,by go_simp⟩
 have hB:Below w.heap.size w W:=by rw [hW];go_grown
 go_enter Tryz.func89,Tryz.ntmps89
 go_wp2_with fail
 rw [← hW];clear hW;refine wp_region_noPanic ?_;refine au (S:=(S2 (fun w'=>w'.cell? ⟨w.heap.size,0,none⟩=some (.int .i64 (a))∧w'.cell? ⟨w.heap.size,1,none⟩=some (.int .i64 (b))∧w'.cell? ⟨w.heap.size+1,0,none⟩=some (.int .i64 (c))∧w'.cell? ⟨w.heap.size+1,1,none⟩=some (.int .i64 (d))∧There w' (w.heap.size+2) 2∧Below w.heap.size w w'))) (T:=(fun j=>[0,0,0,0,0,0,0,0,0,0,0,1].getD j 0)) (by kernel_rfl) (aC ⟨k0,k1,k2,k3,HT.out,hB.drew⟩) (fun hH=>?_);have hWr2:aH (S2 (fun w'=>w'.cell? ⟨w.heap.size,0,none⟩=some (.int .i64 (a))∧w'.cell? ⟨w.heap.size,1,none⟩=some (.int .i64 (b))∧w'.cell? ⟨w.heap.size+1,0,none⟩=some (.int .i64 (c))∧w'.cell? ⟨w.heap.size+1,1,none⟩=some (.int .i64 (d))∧There w' (w.heap.size+2) 2∧Below w.heap.size w w')):=aK _;refine dn [(0,5),(1,6),(2,7),(3,8),(5,10),(6,11),(7,12),(8,13)] 4 0 0 (L':=?Lr2_1) hWr2 hH ?hyr2_1 ?_
 case hyr2_1=>((iterate 8 apply dA;rfl;kernel_rfl;intro w' hSw;replace hSw:=aA hSw;(try dsimp only at hSw);have q0:=hSw.1;have q1:=hSw.2.1;have q2:=hSw.2.2.1;have q3:=hSw.2.2.2.1;have q4:=hSw.2.2.2.2.1;have q5:=hSw.2.2.2.2.2;(try simp only [sB,sC]);go_simp;(try with_reducible rfl));exact dw)
 simp only [sB,sC];refine U1 4 0 rfl (fun K hK=>?_)
 try clear hb
 go_simp
 (go_at_call 153;refine (eH a c _).mono ?_;rintro e wn ⟨rfl,hb⟩)
 refine hK.out _ _ ?hsr2_9 (fun hH2=>?hrr2_9)
 case hsr2_9=>exact aC (by have hG:=hH;replace hG:=aA hG;(try dsimp only at hG);have q0:=hG.1;have q1:=hG.2.1;have q2:=hG.2.2.1;have q3:=hG.2.2.2.1;have q4:=hG.2.2.2.2.1;have q5:=hG.2.2.2.2.2;exact ⟨keepCell hb q0,keepCell hb q1,keepCell hb q2,keepCell hb q3,There.below hb q4,aj hb q5⟩)
 clear hK K hH;have hH:=hH2;clear hH2
 try simp only [Act.put,sA,sB,sC]
 refine U1 9 0 rfl (fun K hK=>?_)
 try clear hb
 go_simp
 (go_at_call 153;refine (eH b d _).mono ?_;rintro e wn ⟨rfl,hb⟩)
 refine hK.out _ _ ?hsr2_10 (fun hH2=>?hrr2_10)
 case hsr2_10=>exact aC (by have hG:=hH;replace hG:=aA hG;(try dsimp only at hG);have q0:=hG.1;have q1:=hG.2.1;have q2:=hG.2.2.1;have q3:=hG.2.2.2.1;have q4:=hG.2.2.2.2.1;have q5:=hG.2.2.2.2.2;exact ⟨keepCell hb q0,keepCell hb q1,keepCell hb q2,keepCell hb q3,There.below hb q4,aj hb q5⟩)
 clear hK K hH;have hH:=hH2;clear hH2
 try simp only [Act.put,sA,sB,sC]
 refine Ut 10 15 1 0 0 (v:=?vr2_11) rfl hWr2 hH ?hyr2_11 ?_
 case hyr2_11=>(intro w' hSw;clear hSw;go_simp;try (with_reducible rfl))
 simp only [sB,sC];refine U1 11 1 rfl (fun K hK=>?_);have hG:=hH;replace hG:=aA hG;(try dsimp only at hG);have q0:=hG.1;have q1:=hG.2.1;have q2:=hG.2.2.1;have q3:=hG.2.2.2.1;have q4:=hG.2.2.2.2.1;have q5:=hG.2.2.2.2.2;obtain ⟨z0,z1,y0,y1,f0,f1⟩:=q4.get2;go_simp;refine hK.out _ _ ?hsr2_12 (fun hH2=>?hrr2_12)
 case hsr2_12=>exact dY
 clear hK K hH;have hH:=hH2;clear hH2
 try simp only [Act.put,sA,sB,sC]
 refine ak (by kernel_rfl) ?_ _ _;refine NoPanic.normal ?_;clear hWr2;have hl9:=lt_of_cell y0;have hB9:=q5;clear q0 q1 q2 q3 q4 q5 hH hG k0 k1 k2 k3 HT;go_wp2;refine bodyPost_ret (v:=aR (bT a c) (bT b d)) (by simp [results,Tryz.results89,go_sem,y0,y1,hl9]) rfl ⟨rfl,?_⟩;have:=hB9.size
 go_grown
theorem rX (a b c d:Int) (w:World):Calls Tryz.prog 224 #[aR a b,aR c d] w (dG (.int .i64 (qh a b c d)) w):=by
 obtain ⟨W,hW⟩:∃ W,W=(w.alloc (.cells #[.int .i64 a,.int .i64 b] 24)).alloc (.cells #[.int .i64 c,.int .i64 d] 24):=⟨_,rfl⟩;have k0:W.cell? ⟨w.heap.size,0,none⟩=some (.int .i64 a):=by rw [hW];go_simp
 have k1:W.cell? ⟨w.heap.size,1,none⟩=some (.int .i64 b):=by rw [hW];go_simp
 have k2:W.cell? ⟨w.heap.size+1,0,none⟩=some (.int .i64 c):=by rw [hW];go_simp
 have k3:W.cell? ⟨w.heap.size+1,1,none⟩=some (.int .i64 d):=by rw [hW];go_simp
 have hB:Below w.heap.size w W:=by rw [hW];go_grown
 go_enter Tryz.func224,Tryz.ntmps224
 go_wp2_with fail
 rw [← hW];clear hW;refine wp_region_noPanic ?_;refine au (S:=(S2 (fun w'=>w'.cell? ⟨w.heap.size,0,none⟩=some (.int .i64 (a))∧w'.cell? ⟨w.heap.size,1,none⟩=some (.int .i64 (b))∧w'.cell? ⟨w.heap.size+1,0,none⟩=some (.int .i64 (c))∧w'.cell? ⟨w.heap.size+1,1,none⟩=some (.int .i64 (d))∧Below w.heap.size w w'))) (T:=(fun _=>0)) (by kernel_rfl) (aC ⟨k0,k1,k2,k3,hB.drew⟩) (fun hH=>?_);have hWr3:aH (S2 (fun w'=>w'.cell? ⟨w.heap.size,0,none⟩=some (.int .i64 (a))∧w'.cell? ⟨w.heap.size,1,none⟩=some (.int .i64 (b))∧w'.cell? ⟨w.heap.size+1,0,none⟩=some (.int .i64 (c))∧w'.cell? ⟨w.heap.size+1,1,none⟩=some (.int .i64 (d))∧Below w.heap.size w w')):=aK _;refine dn [(0,5),(1,6),(2,7),(3,8),(5,10),(6,11),(7,12),(8,13)] 4 0 0 (L':=?Lr3_1) hWr3 hH ?hyr3_1 ?_
 case hyr3_1=>((iterate 8 apply dA;rfl;kernel_rfl;intro w' hSw;replace hSw:=aA hSw;(try dsimp only at hSw);have q0:=hSw.1;have q1:=hSw.2.1;have q2:=hSw.2.2.1;have q3:=hSw.2.2.2.1;have q4:=hSw.2.2.2.2;(try simp only [sB,sC]);go_simp;(try with_reducible rfl));exact dw)
 simp only [sB,sC];refine U1 4 0 rfl (fun K hK=>?_)
 try clear hb
 go_simp
 (go_at_call 52;refine (bM a d _).mono ?_;rintro e wn ⟨rfl,hb⟩)
 refine hK.out _ _ ?hsr3_9 (fun hH2=>?hrr3_9)
 case hsr3_9=>exact aC (by have hG:=hH;replace hG:=aA hG;(try dsimp only at hG);have q0:=hG.1;have q1:=hG.2.1;have q2:=hG.2.2.1;have q3:=hG.2.2.2.1;have q4:=hG.2.2.2.2;exact ⟨keepCell hb q0,keepCell hb q1,keepCell hb q2,keepCell hb q3,aj hb q4⟩)
 clear hK K hH;have hH:=hH2;clear hH2
 try simp only [Act.put,sA,sB,sC]
 refine U1 9 0 rfl (fun K hK=>?_)
 try clear hb
 go_simp
 (go_at_call 52;refine (bM b c _).mono ?_;rintro e wn ⟨rfl,hb⟩)
 refine hK.out _ _ ?hsr3_10 (fun hH2=>?hrr3_10)
 case hsr3_10=>exact aC (by have hG:=hH;replace hG:=aA hG;(try dsimp only at hG);have q0:=hG.1;have q1:=hG.2.1;have q2:=hG.2.2.1;have q3:=hG.2.2.2.1;have q4:=hG.2.2.2.2;exact ⟨keepCell hb q0,keepCell hb q1,keepCell hb q2,keepCell hb q3,aj hb q4⟩)
 clear hK K hH;have hH:=hH2;clear hH2
 try simp only [Act.put,sA,sB,sC]
 refine U1 10 0 rfl (fun K hK=>?_)
 try clear hb
 go_simp
 (go_at_call 40;refine (lH (aX a d) (aX b c) _).mono ?_;rintro e wn ⟨rfl,hb⟩)
 refine hK.out _ _ ?hsr3_11 (fun hH2=>?hrr3_11)
 case hsr3_11=>exact aC (by have hG:=hH;replace hG:=aA hG;(try dsimp only at hG);have q0:=hG.1;have q1:=hG.2.1;have q2:=hG.2.2.1;have q3:=hG.2.2.2.1;have q4:=hG.2.2.2.2;exact ⟨keepCell hb q0,keepCell hb q1,keepCell hb q2,keepCell hb q3,aj hb q4⟩)
 clear hK K hH;have hH:=hH2;clear hH2
 try simp only [Act.put,sA,sB,sC]
 refine Ut 11 4 0 0 0 (v:=?vr3_12) rfl hWr3 hH ?hyr3_12 ?_
 case hyr3_12=>(intro w' hSw;clear hSw;go_simp;try (with_reducible rfl))
 simp only [sB,sC];refine ak (by kernel_rfl) ?_ _ _;refine NoPanic.normal ?_;clear hWr3;replace hH:=aA hH
 (try dsimp only at hH)
 have q0:=hH.1;have q1:=hH.2.1;have q2:=hH.2.2.1;have q3:=hH.2.2.2.1;have q4:=hH.2.2.2.2;go_wp2
 go_returns
 exact aB rfl q4
theorem iI (a n:Int) (w:World):Calls Tryz.prog 225 #[.int .i64 a,.int .i64 n] w (dG (.int .i64 (dX a n)) w):=by
 go_enter Tryz.func225,Tryz.ntmps225
 go_wp2_with fail
 refine (xO a n _).mono ?_;rintro e w1 ⟨rfl,hb1⟩;go_wp2
 go_returns
 exact aB rfl hb1
def bD (n m:Int):Int:=if n < -m then -m else if m<n then m else n
theorem jG (n m:Int) (h0:0≤m) (h1:m≤9223372036854775807) (w:World):Calls Tryz.prog 124 #[.int .i64 n,.int .i64 m] w (dG (.int .i64 (bD n m)) w):=by
 have hw:IntKind.i64.wrap (-m) = -m:=IntWalk.i64_in _ (by omega)
 go_enter Tryz.func124,Tryz.ntmps124
 go_wp2
 all_goals
  go_returns
  exact aB (by unfold bD;(repeat' split) <;> omega) (Below.refl _ _)
theorem vB (a b:Int) (ha : -1099511627776≤a∧a≤1099511627776) (hb : -1099511627776≤b∧b≤1099511627776) (w:World):Calls Tryz.prog 241 #[aR a b] w (dG (.int .i64 (aV a+aV b)) w):=by
 have w1:IntKind.i64.wrap (-a) = -a:=IntWalk.i64_in _ (by omega);have w2:IntKind.i64.wrap (-b) = -b:=IntWalk.i64_in _ (by omega)
 have h1:∀ (ts:Array TypeId) (t:TypeId) (w:World),(Builtin.max_ ts t #[.int .i64 a,.int .i64 (-a)]).run Tryz.prog w = .ok (.int .i64 (aV a)) w:=fun ts t w=>by
  rw [run_max_int2];have:(if -a > a then -a else a)=aV a:=by unfold aV;split <;> split <;> omega
  rw [this]
 have h2:∀ (ts:Array TypeId) (t:TypeId) (w:World),(Builtin.max_ ts t #[.int .i64 b,.int .i64 (-b)]).run Tryz.prog w = .ok (.int .i64 (aV b)) w:=fun ts t w=>by
  rw [run_max_int2];have:(if -b > b then -b else b)=aV b:=by unfold aV;split <;> split <;> omega
  rw [this]
 have x0:0≤aV a∧aV a≤1099511627776:=by unfold aV;split <;> omega
 have y0:0≤aV b∧aV b≤1099511627776:=by unfold aV;split <;> omega
 generalize aV a=x at *
 generalize aV b=y at *
 have w3:IntKind.i64.wrap (x+y)=x+y:=IntWalk.i64_in _ (by omega)
 go_enter Tryz.func241,Tryz.ntmps241
 go_wp2
 go_returns
 exact aB rfl (by go_grown)
theorem mO (a b m:Int) (w:World) (h0:0≤m) (h1:m≤9223372036854775807) :
  Calls Tryz.prog 152 #[aR a b,.int .i64 m] w (dG (.bool (aI m a b)) w):=by
 go_enter Tryz.func152,Tryz.ntmps152
 go_wp2
 all_goals
  go_returns
  exact ⟨by simp [aI, *] <;> omega,by go_grown⟩
theorem AO (a b:Int) (w:World):Calls Tryz.prog 212 #[aR a b] w (dG (.bool (!aI 2097152 a b)) w):=by
 go_enter Tryz.func212,Tryz.ntmps212
 go_wp2_with (go_at_call 152;refine (mO _ _ _ _ (by omega) (by omega)).mono ?_;rintro e w1 ⟨rfl,hb⟩)
 go_returns
 exact ⟨rfl,by simpa using ((Below.refl _ _).alloc (by simp) _).trans (hb.mono (by simp))⟩
theorem Jb (args:Array Value) (w:World):(callFunc 212 args).run Tryz.prog w = .ok (.enter 212 args) w:=by kernel_rfl
def iA (n l h:Int):Bool:=decide (l≤n∧n≤h)
theorem lF (n l h:Int) (w:World):Calls Tryz.prog 151 #[.int .i64 n,.int .i64 l,.int .i64 h] w (dG (.bool (iA n l h)) w):=by
 go_enter Tryz.func151,Tryz.ntmps151
 go_wp2
 all_goals
  go_returns
  exact ⟨by simp [iA, *] <;> omega,by go_grown⟩
def DL (l:List V) (i k:Nat):Int:=aV (px l k-px l i)+aV (py l k-py l i)
def jL (l:List V) (i k:Nat):Bool:=decide (k≠i∧k≠(i+1) % l.length∧mI l i ((i+1) % l.length) k<8*(DL l i ((i+1) % l.length)+DL l i k))
def wH (l:List V) (i:Nat):Prop:=∀ i',i'<i→∀ k,k<l.length→jL l i' k=false
def wh (l:List V) (i k:Nat):Prop:=∀ k',k'<k→jL l i k'=false
def tY (l:List V):Bool := !((List.range l.length).any fun i=>(List.range l.length).any fun k=>jL l i k)
theorem LJ {l:List V} {i k:Nat} (hi:i<l.length) (hk:k<l.length) (hb:jL l i k=true):tY l=false:=by
 unfold tY;rw [Bool.not_eq_false'];simp only [List.any_eq_true,List.mem_range];exact ⟨i,hi,k,hk,hb⟩
theorem Gy {l:List V} (h:wH l l.length):tY l=true:=by
 unfold tY;rw [Bool.not_eq_true',← Bool.not_eq_true];simp only [List.any_eq_true,List.mem_range,not_exists,not_and];intro i hi k hk;simp [h i hi k hk]
theorem nS {l:List V} {i k:Nat} (h:wh l i k) (hb:jL l i k=false):wh l i (k+1):=fun k' hk=>by
 by_cases e:k'=k
 ·subst e;exact hb
 ·exact h k' (by omega)
theorem Br {l:List V} {i:Nat} (h:wH l i) (hb:wh l i l.length):wH l (i+1):=fun i' hi k hk=>by
 by_cases e:i'=i
 ·subst e;exact hb k hk
 ·exact h i' (by omega) k hk
theorem IB (A:Option Addr) (n c:Nat) (l:List V) (w:World) (hS:Sl w A n c l) (hw:aP 65536000 l=true) (h3:3≤l.length) (h8:l.length≤8) :
  Calls Tryz.prog 213 #[.slice A n c] w (dG (.bool (tY l)) w):=by
 obtain ⟨hn,hcap,hbig,hat⟩:=hS;subst hn;obtain ⟨b,off,rfl,hC⟩:=hat (by intro h;subst h;simp at h3);have HW:=hid hw;clear hat hw
 go_enter Tryz.func213,Tryz.ntmps213
 go_wp2
 go_loopw [12] (fun i wr=>∃ k:Nat,k≤l.length∧i = .int .i64 k∧wH l k∧Below w.heap.size w wr) (fun i _=>l.length-(intOf i).toNat)
 case atStart=>exact ⟨0,Nat.zero_le _,rfl,fun _ h=>absurd h (by omega),Below.refl _ _⟩
 case round =>
  obtain ⟨k,hk,rfl,hno,hB⟩:=hrel;obtain ⟨wo,rfl⟩:∃ wo:World,wo=wr:=⟨_,rfl⟩;have HN:=hid hno;have hCo:=hC.below hB;have hbo:=hCo.lt;have HC1:=hid hC;clear hno hC
  by_cases hlt:k<l.length
  ·obtain ⟨j, hje⟩ : ∃ j, j = (k + 1) % l.length := ⟨_, rfl⟩;have hj:j<l.length:=by rw [hje];exact Nat.mod_lt _ (by omega)
   have hji:((k:Int)+1) % (l.length:Int)=(j:Int):=by rw [hje];simp
   have hji2:(((k:Int)+1) % (l.length:Int)).toNat=j:=by omega
   have hji3:((k:Int)+1) % (l.length:Int)<(l.length:Int):=by omega
   have hji4:0≤((k:Int)+1) % (l.length:Int):=by omega
   have hx:=hCo.x k hlt;have hy:=hCo.y k hlt;have hx2:=hCo.x j hj;have hy2:=hCo.y j hj;obtain ⟨q1,q2,q3,q4⟩:=aD.1 (aQ HW.out hlt);obtain ⟨q5,q6,q7,q8⟩:=aD.1 (aQ HW.out hj);obtain ⟨ex,hex⟩:∃ ex,ex=px l j-px l k:=⟨_,rfl⟩;obtain ⟨ey,hey⟩:∃ ey,ey=py l j-py l k:=⟨_,rfl⟩;have b1 : -131072000≤ex∧ex≤131072000:=by omega
   have b2 : -131072000≤ey∧ey≤131072000:=by omega
   have v1:IntKind.i64.wrap (px l j-px l k)=ex:=by rw [← hex];exact IntWalk.i64_in _ (by omega)
   have v2:IntKind.i64.wrap (py l j-py l k)=ey:=by rw [← hey];exact IntWalk.i64_in _ (by omega)
   have HJ:=hid hje;have HEX:=hid hex;have HEY:=hid hey;clear hCo hje hex hey;go_wp2;obtain ⟨wa,hwa⟩:∃ wa,wa=((wo.alloc (.cells #[.int .i64 (px l k),.int .i64 (py l k)] 24)).alloc (.cells #[.int .i64 (px l j),.int .i64 (py l j)] 24)).alloc (.cells #[.int .i64 ex,.int .i64 ey] 24):=⟨_,rfl⟩;have r1:wa.cell? ⟨wo.heap.size,0,none⟩=some (.int .i64 (px l k)):=by rw [hwa];go_simp
   have r2:wa.cell? ⟨wo.heap.size,1,none⟩=some (.int .i64 (py l k)):=by rw [hwa];go_simp
   have r3:wa.cell? ⟨wo.heap.size+2,0,none⟩=some (.int .i64 ex):=by rw [hwa];go_simp
   have r4:wa.cell? ⟨wo.heap.size+2,1,none⟩=some (.int .i64 ey):=by rw [hwa];go_simp
   have hBa:Below w.heap.size w wa:=by rw [hwa];exact ((hB.alloc hB.size _).alloc (by have:=hB.size;simp;omega) _).alloc (by have:=hB.size;simp;omega) _
   rw [← hwa];clear hwa hx hy hx2 hy2 hB v1 v2
   go_loopw [38] (fun i wr=>∃ m:Nat,m≤l.length∧i = .int .i64 m∧wh l k m∧Below wa.heap.size wa wr) (fun i _=>l.length-(intOf i).toNat)
   case atStart=>exact ⟨0,Nat.zero_le _,rfl,fun _ h=>absurd h (by omega),Below.refl _ _⟩
   case round =>
    obtain ⟨m,hm,rfl,hcol,hBi⟩:=hrel;have HCo:=hid hcol;clear hcol;obtain ⟨wi,rfl⟩:∃ wi:World,wi=wr:=⟨_,rfl⟩;have hBw:Below w.heap.size w wi:=aj hBi hBa
    by_cases hlt2:m<l.length
    ·have hCi := HC1.out.below hBw;have hx3:=hCi.x m hlt2;have hy3:=hCi.y m hlt2;have hbi:=hCi.lt;have g5:=keepCell hBi r1;have g6:=keepCell hBi r2;have g7:=keepCell hBi r3;have g8:=keepCell hBi r4;obtain ⟨q9,q10,q11,q12⟩:=aD.1 (aQ HW.out hlt2);obtain ⟨fx,hfx⟩:∃ fx,fx=px l m-px l k:=⟨_,rfl⟩;obtain ⟨fy,hfy⟩:∃ fy,fy=py l m-py l k:=⟨_,rfl⟩;have b3 : -131072000≤fx∧fx≤131072000:=by omega
     have b4 : -131072000≤fy∧fy≤131072000:=by omega
     have v1:IntKind.i64.wrap (px l m-px l k)=fx:=by rw [← hfx];exact IntWalk.i64_in _ (by omega)
     have v2:IntKind.i64.wrap (py l m-py l k)=fy:=by rw [← hfy];exact IntWalk.i64_in _ (by omega)
     have HFX:=hid hfx;have HFY:=hid hfy;have hz1:=lt_of_cell g5;have hz2:=lt_of_cell g7;have hBs:=hBi.size;clear hCi hfx hfy
     by_cases hi1:m=k
     ·have HE:Hid (jL l k m=false):=by
       show _=_;unfold jL;rw [decide_eq_false_iff_not];exact fun h=>h.1 hi1
      have hne:(((m:Int) != (k:Int))=false):=by simp [hi1]
      clear hi1 HFX HFY HEX HEY HJ r1 r2 r3 r4
      go_wp2_with fail
      go_quiet (fail)
      go_wp2;go_roundw
      case rel=>exact ⟨m+1,hlt2,by go_num,nS HCo.out HE.out,below_drewN' ((hBi.alloc hBs _).alloc (by simp;omega) _) _⟩
      case measure=>simp [intOf];omega
     by_cases hi2:m=j
     ·have HE:Hid (jL l k m=false):=by
       show _=_;unfold jL;rw [decide_eq_false_iff_not];exact fun h=>h.2.1 (by rw [hi2];exact HJ.out)
      have hne:(((m:Int) != (k:Int))=true):=by simp;omega
      have hne2:(((m:Int) != (j:Int))=false):=by simp [hi2]
      clear hi1 hi2 HFX HFY HEX HEY HJ r1 r2 r3 r4
      go_wp2_with fail
      go_quiet (fail)
      go_wp2;go_roundw
      case rel=>exact ⟨m+1,hlt2,by go_num,nS HCo.out HE.out,below_drewN' ((hBi.alloc hBs _).alloc (by simp;omega) _) _⟩
      case measure=>simp [intOf];omega
     have hne:(((m:Int) != (k:Int))=true):=by simp;omega
     have hne2:(((m:Int) != (j:Int))=true):=by simp;omega
     have HBD:Hid (jL l k m=decide (ex*fy-ey*fx<8*(aV ex+aV ey+(aV fx+aV fy)))):=by
      show _=_;unfold jL DL mI iZ;rw [decide_eq_decide,← HJ.out,← HEX.out,← HEY.out,← HFX.out,← HFY.out];exact ⟨fun h=>h.2.2,fun h=>⟨hi1,hi2,h⟩⟩
     have m1:=dh (x:=ex) (y:=fy) (M:=131072000) (N:=131072000) (by omega) (by omega) (by omega) (by omega);have m2:=dh (x:=ey) (y:=fx) (M:=131072000) (N:=131072000) (by omega) (by omega) (by omega) (by omega);have w1:IntKind.i64.wrap (ex*fy)=ex*fy:=IntWalk.i64_in _ (by omega);have w2:IntKind.i64.wrap (ey*fx)=ey*fx:=IntWalk.i64_in _ (by omega);have w3:IntKind.i64.wrap (ex*fy-ey*fx)=ex*fy-ey*fx:=IntWalk.i64_in _ (by omega);have s1:0≤aV ex∧aV ex≤131072000:=by unfold aV;split <;> omega
     have s2:0≤aV ey∧aV ey≤131072000:=by unfold aV;split <;> omega
     have s3:0≤aV fx∧aV fx≤131072000:=by unfold aV;split <;> omega
     have s4:0≤aV fy∧aV fy≤131072000:=by unfold aV;split <;> omega
     have w4:IntKind.i64.wrap (aV ex+aV ey+(aV fx+aV fy))=aV ex+aV ey+(aV fx+aV fy):=IntWalk.i64_in _ (by omega);have w5:IntKind.i64.wrap (8*(aV ex+aV ey+(aV fx+aV fy)))=8*(aV ex+aV ey+(aV fx+aV fy)):=IntWalk.i64_in _ (by omega);clear hi1 hi2 HFX HFY HEX HEY HJ m1 m2 s1 s2 s3 s4;obtain ⟨wg,hwg⟩:∃ wg,wg=(wi.alloc (.cells #[.int .i64 (px l m),.int .i64 (py l m)] 24)).alloc (.cells #[.int .i64 fx,.int .i64 fy] 24):=⟨_,rfl⟩;have g1:wg.cell? ⟨wo.heap.size+2,0,none⟩=some (.int .i64 ex):=by rw [hwg];go_simp
     have g2:wg.cell? ⟨wo.heap.size+2,1,none⟩=some (.int .i64 ey):=by rw [hwg];go_simp
     have g3:wg.cell? ⟨wi.heap.size+1,0,none⟩=some (.int .i64 fx):=by rw [hwg];go_simp
     have g4:wg.cell? ⟨wi.heap.size+1,1,none⟩=some (.int .i64 fy):=by rw [hwg];go_simp
     have hBg:Below wi.heap.size wi wg:=by rw [hwg];go_grown
     have HWG:=hid hwg;clear hwg
     go_upto_region 10 with fail
     rw [← HWG.out];have hl0:¬ l=[]:=by intro h;rw [h] at hlt;simp at hlt
     have hwk:IntKind.i64.wrap ((k:Int)+1)=(k:Int)+1:=IntWalk.i64_in _ (by omega);have htm:((k:Int)+1).tmod (l.length:Int)=(j:Int):=by rw [Int.tmod_eq_emod_of_nonneg (by omega)];exact hji
     clear HWG g5 g6 g7 g8 hx3 hy3 v1 v2;refine wp_region_noPanic ?_;refine au (S:=(S2 (fun w'=>w'.cell? ⟨wo.heap.size+2,0,none⟩=some (.int .i64 (ex))∧w'.cell? ⟨wo.heap.size+2,1,none⟩=some (.int .i64 (ey))∧w'.cell? ⟨wi.heap.size+1,0,none⟩=some (.int .i64 (fx))∧w'.cell? ⟨wi.heap.size+1,1,none⟩=some (.int .i64 (fy))∧Below wi.heap.size wi w'))) (T:=(fun _=>0)) (by kernel_rfl) (aC ⟨g1,g2,g3,g4,hBg.drew⟩) (fun hH=>?_);have hWr1:aH (S2 (fun w'=>w'.cell? ⟨wo.heap.size+2,0,none⟩=some (.int .i64 (ex))∧w'.cell? ⟨wo.heap.size+2,1,none⟩=some (.int .i64 (ey))∧w'.cell? ⟨wi.heap.size+1,0,none⟩=some (.int .i64 (fx))∧w'.cell? ⟨wi.heap.size+1,1,none⟩=some (.int .i64 (fy))∧Below wi.heap.size wi w')):=aK _;refine dn [(0,54),(1,55),(2,56),(3,57),(4,58),(5,59),(6,60),(7,61),(8,62),(9,63),(10,64),(11,65),(12,66),(13,67),(14,68),(15,69),(16,70),(17,71),(18,72),(19,73),(20,74),(21,75),(22,76),(23,77),(24,78),(26,80)] 6 0 0 (L':=?Lr1_1) hWr1 hH ?hyr1_1 ?_
     case hyr1_1=>((iterate 26 apply dA;rfl;kernel_rfl;intro w' hSw;replace hSw:=aA hSw;(try dsimp only at hSw);have q0:=hSw.1;have q1:=hSw.2.1;have q2:=hSw.2.2.1;have q3:=hSw.2.2.2.1;have q4:=hSw.2.2.2.2;(try simp only [sB,sC]);go_simp;(try with_reducible rfl));exact dw)
     simp only [sB,sC];refine U1 25 0 rfl (fun K hK=>?_)
     try clear hb
     go_simp
     (go_at_call 241;refine (vB ex ey ⟨by omega,by omega⟩ ⟨by omega,by omega⟩ _).mono ?_;rintro e wn ⟨rfl,hb⟩)
     refine hK.out _ _ ?hsr1_27 (fun hH2=>?hrr1_27)
     case hsr1_27=>exact aC (by have hG:=hH;replace hG:=aA hG;(try dsimp only at hG);have q0:=hG.1;have q1:=hG.2.1;have q2:=hG.2.2.1;have q3:=hG.2.2.2.1;have q4:=hG.2.2.2.2;exact ⟨keepCell hb q0,keepCell hb q1,keepCell hb q2,keepCell hb q3,aj hb q4⟩)
     clear hK K hH;have hH:=hH2;clear hH2
     try simp only [Act.put,sA,sB,sC]
     refine U1 27 0 rfl (fun K hK=>?_)
     try clear hb
     go_simp
     (go_at_call 241;refine (vB fx fy ⟨by omega,by omega⟩ ⟨by omega,by omega⟩ _).mono ?_;rintro e wn ⟨rfl,hb⟩)
     refine hK.out _ _ ?hsr1_28 (fun hH2=>?hrr1_28)
     case hsr1_28=>exact aC (by have hG:=hH;replace hG:=aA hG;(try dsimp only at hG);have q0:=hG.1;have q1:=hG.2.1;have q2:=hG.2.2.1;have q3:=hG.2.2.2.1;have q4:=hG.2.2.2.2;exact ⟨keepCell hb q0,keepCell hb q1,keepCell hb q2,keepCell hb q3,aj hb q4⟩)
     clear hK K hH;have hH:=hH2;clear hH2
     try simp only [Act.put,sA,sB,sC]
     refine dn [(28,82),(29,83),(30,84),(31,85)] 0 0 0 (L':=?Lr1_29) hWr1 hH ?hyr1_29 ?_
     case hyr1_29=>((iterate 4 apply dA;rfl;kernel_rfl;intro w' hSw;clear hSw;(try simp only [sB,sC]);go_simp;(try with_reducible rfl));exact dw)
     simp only [sB,sC];refine ak (by kernel_rfl) ?_ _ _;refine NoPanic.normal ?_;clear hWr1;replace hH:=aA hH
     (try dsimp only at hH)
     have q0:=hH.1;have q1:=hH.2.1;have q2:=hH.2.2.1;have q3:=hH.2.2.2.1;have q4:=hH.2.2.2.2;have hBn:Below wa.heap.size wa wn:=hBi.trans (q4.mono hBs);have hBnw:Below w.heap.size w wn:=hBw.trans (q4.mono hBw.size);clear q0 q1 q2 q3 q4 hH hb g1 g2 g3 g4 hBg
     by_cases hbad:ex*fy-ey*fx<8*(aV ex+aV ey+(aV fx+aV fy))
     ·have HE : Hid (tY l = false) := LJ hlt hlt2 (by rw [HBD.out, decide_eq_true_eq]; exact hbad);clear HBD;go_wp2
      go_returns
      exact bR HE.out.symm hBnw
     ·have HE : Hid (jL l k m = false) := by show _ = _; rw [HBD.out, decide_eq_false_iff_not]; exact hbad
      clear HBD;go_wp2;go_roundw
      case rel =>
       refine ⟨_,_,_,_,_,⟨m+1,hlt2,?_,nS HCo.out HE.out⟩,rfl,rfl,rfl,rfl,rfl⟩;go_num
      case measure=>simp [intOf];omega
    ·have hge : l.length ≤ m := by omega
     clear r1 r2 r3 r4;go_wp2;go_roundw
     case rel=>exact ⟨k+1,hlt,by go_num,Br HN.out (by have:=HCo.out;rwa [show m=l.length by omega] at this),hBw⟩
     case measure=>simp [intOf];omega
  ·clear hCo;have hge:l.length≤k:=by omega
   go_wp2
   go_returns
   exact bR (Gy (by have:=HN.out;rwa [show k=l.length by omega] at this)).symm hB
end
end Go.Proofs.YtokgmcomgflloaaGreat
