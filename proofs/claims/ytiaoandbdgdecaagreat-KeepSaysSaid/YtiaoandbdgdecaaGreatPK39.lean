/- Parts of a proof: contracts and laws. -/
import Derived.Test.YtiaoandbdgdecaaGreatPK36
import Derived.Test.YtiaoandbdgdecaaGreatPKLK
import Derived.Test.YtiaoandbdgdecaaGreatPK04
set_option maxRecDepth 100000
set_option maxHeartbeats 16000000
namespace Go.Proofs.YtiaoandbdgdecaaGreat
section
set_option linter.unusedVariables false
set_option linter.unusedSimpArgs false
open Go.RowKit
theorem fnd_zeroK (L:List BE):∀ c ∈ fndL L,c.push=0∧c.sli=0:=fun c hc=>by
 unfold fndL fndP at hc
 simp only [List.mem_flatMap,List.mem_map] at hc
 obtain ⟨p,-,t,-,rfl⟩:=hc
 exact ⟨rfl,rfl⟩
theorem carL_nilK (C:List Ct) (h:∀ c ∈ C,c.push=0∧c.sli=0):carL [] C=C:=by
 unfold carL
 have e:∀ c ∈ C,carC [] c=c:=fun c hc=>by
  obtain ⟨h1,h2⟩:=h c hc
  unfold carC
  rw [List.find?_nil]
  obtain ⟨⟩:=c
  simp only at h1 h2
  subst h1 h2
  rfl
 induction C with
 | nil=>rfl
 | cons a C ih=>rw [List.map_cons,e a (List.mem_cons_self ..),ih (fun c hc=>h c (List.mem_cons_of_mem _ hc)) (fun c hc=>e c (List.mem_cons_of_mem _ hc))]
theorem cells2_ct {w:World} {g off:Nat} {x y:Ct} (h:CellsE layC w g off [x,y]):w.cell? ⟨g,off,none⟩=some (.int .i64 x.a)∧w.cell? ⟨g,off+1,none⟩=some (.int .i64 x.b)∧w.cell? ⟨g,off+2,none⟩=some (.int .i64 x.id)∧w.cell? ⟨g,off+3,none⟩=some (.int .i64 x.px)∧w.cell? ⟨g,off+4,none⟩=some (.int .i64 x.py)∧w.cell? ⟨g,off+5,none⟩=some (.int .i64 x.nx)∧w.cell? ⟨g,off+6,none⟩=some (.int .i64 x.ny)∧w.cell? ⟨g,off+7,none⟩=some (.int .i64 x.dep)∧w.cell? ⟨g,off+8,none⟩=some (.int .i64 x.push)∧w.cell? ⟨g,off+9,none⟩=some (.int .i64 x.sli)∧w.cell? ⟨g,off+10,none⟩=some (.int .i64 y.a)∧w.cell? ⟨g,off+11,none⟩=some (.int .i64 y.b)∧w.cell? ⟨g,off+12,none⟩=some (.int .i64 y.id)∧w.cell? ⟨g,off+13,none⟩=some (.int .i64 y.px)∧w.cell? ⟨g,off+14,none⟩=some (.int .i64 y.py)∧w.cell? ⟨g,off+15,none⟩=some (.int .i64 y.nx)∧w.cell? ⟨g,off+16,none⟩=some (.int .i64 y.ny)∧w.cell? ⟨g,off+17,none⟩=some (.int .i64 y.dep)∧w.cell? ⟨g,off+18,none⟩=some (.int .i64 y.push)∧w.cell? ⟨g,off+19,none⟩=some (.int .i64 y.sli):=by
 obtain ⟨a0,a1,a2,a3,a4,a5,a6,a7,a8,a9⟩:=cells_ct h (show 0<[x,y].length by simp) (show x=[x,y][0] from rfl)
 obtain ⟨b0,b1,b2,b3,b4,b5,b6,b7,b8,b9⟩:=cells_ct h (show 1<[x,y].length by simp) (show y=[x,y][1] from rfl)
 simp only [Nat.zero_mul,Nat.one_mul,Nat.add_zero,Nat.add_assoc,Nat.reduceAdd] at *
 exact ⟨a0,a1,a2,a3,a4,a5,a6,a7,a8,a9,b0,b1,b2,b3,b4,b5,b6,b7,b8,b9⟩
theorem cmp3_calls (b1 b2 k1 k2:Nat) (x1 x2 x3 y1 y2 y3:Int) (W:World) (h0:W.cell? ⟨b1,0,none⟩=some (.int .i64 x1)) (h1:W.cell? ⟨b1,1,none⟩=some (.int .i64 x2)) (h2:W.cell? ⟨b1,2,none⟩=some (.int .i64 x3)) (g0:W.cell? ⟨b2,0,none⟩=some (.int .i64 y1)) (g1:W.cell? ⟨b2,1,none⟩=some (.int .i64 y2)) (g2:W.cell? ⟨b2,2,none⟩=some (.int .i64 y3)) :
  Calls Tryz.prog 18 #[.slice (some ⟨b1,0,none⟩) 3 k1,.slice (some ⟨b2,0,none⟩) 3 k2] W (Ret (.int .i64 (or3Z (sgK x1 y1) (sgK x2 y2) (sgK x3 y3))) W):=by
 have HC1:=hid (cmpR_calls x1 y1)
 have HC2:=hid (cmpR_calls x2 y2)
 have HC3:=hid (cmpR_calls x3 y3)
 have HZ:Hid (or3Z (sgK x1 y1) (sgK x2 y2) (sgK x3 y3)=if sgK x1 y1≠0 then sgK x1 y1 else if sgK x2 y2≠0 then sgK x2 y2 else sgK x3 y3):=rfl
 generalize or3Z (sgK x1 y1) (sgK x2 y2) (sgK x3 y3)=q at *
 generalize sgK x1 y1=z1 at *
 generalize sgK x2 y2=z2 at *
 generalize sgK x3 y3=z3 at *
 have hbl:=lt_of_cell h0
 have hgl:=lt_of_cell g0
 have HH:=hid (And.intro h0 (And.intro h1 (And.intro h2 (And.intro g0 (And.intro g1 g2)))))
 clear h0 h1 h2 g0 g1 g2
 go_enter Tryz.func18,Tryz.ntmps18
 go_wp2
 go_loopw [11] (fun j wr=>∃ k:Nat,k≤3∧j = .int .i64 k∧(1≤k→z1=0)∧(2≤k→z2=0)∧(3≤k→z3=0)∧Below W.heap.size W wr) (fun j _=>3-(intOf j).toNat)
 case atStart=>exact ⟨0,by omega,rfl,by omega,by omega,by omega,Below.refl _ _⟩
 case round =>
  obtain ⟨k,hk,rfl,hx,hy,hz,hB⟩:=hrel
  obtain ⟨wo,rfl⟩:∃ wo:World,wo=wr:=⟨_,rfl⟩
  obtain ⟨h0,h1,h2,g0,g1,g2⟩:=HH.out
  replace h0:=keepCell hB h0
  replace h1:=keepCell hB h1
  replace h2:=keepCell hB h2
  replace g0:=keepCell hB g0
  replace g1:=keepCell hB g1
  replace g2:=keepCell hB g2
  have tri:k=0∨k=1∨k=2∨k=3:=by omega
  rcases tri with rfl | rfl | rfl | rfl
  ·clear hx hy hz
   go_wp2_with fail
   refine (HC1.out _).mono ?_
   rintro e w1 ⟨rfl,hb⟩
   have hB1:=keepBelow hb hB
   clear hb hB h0 h1 h2 g0 g1 g2
   by_cases hq:z1=0
   ·subst hq
    go_wp2
    go_roundw
    case rel=>exact ⟨1,by omega,rfl,fun _=>by simp,by omega,by omega,hB1⟩
    case measure=>simp [intOf]
   ·have hne : (z1 != 0) = true := by simp [hq]
    have HR:Hid (q=z1):=by show _=_;rw [HZ.out,if_pos hq]
    clear hq
    go_wp2
    go_returns
    exact ret_int HR.out.symm hB1
  ·obtain rfl := hx (by omega)
   clear hx hy hz
   go_wp2_with fail
   refine (HC2.out _).mono ?_
   rintro e w1 ⟨rfl,hb⟩
   have hB1:=keepBelow hb hB
   clear hb hB h0 h1 h2 g0 g1 g2
   by_cases hq:z2=0
   ·subst hq
    go_wp2
    go_roundw
    case rel=>exact ⟨2,by omega,rfl,fun _=>by simp,fun _=>by simp,by omega,hB1⟩
    case measure=>simp [intOf]
   ·have hne : (z2 != 0) = true := by simp [hq]
    have HR:Hid (q=z2):=by show _=_;rw [HZ.out,if_neg (by simp),if_pos hq]
    clear hq
    go_wp2
    go_returns
    exact ret_int HR.out.symm hB1
  ·obtain rfl := hx (by omega)
   obtain rfl:=hy (by omega)
   clear hx hy hz
   go_wp2_with fail
   refine (HC3.out _).mono ?_
   rintro e w1 ⟨rfl,hb⟩
   have hB1:=keepBelow hb hB
   clear hb hB h0 h1 h2 g0 g1 g2
   by_cases hq:z3=0
   ·subst hq
    go_wp2
    go_roundw
    case rel=>exact ⟨3,by omega,rfl,fun _=>by simp,fun _=>by simp,fun _=>by simp,hB1⟩
    case measure=>simp [intOf]
   ·have hne : (z3 != 0) = true := by simp [hq]
    have HR:Hid (q=z3):=by show _=_;rw [HZ.out,if_neg (by simp),if_neg (by simp)]
    clear hq
    go_wp2
    go_returns
    exact ret_int HR.out.symm hB1
  ·obtain rfl := hx (by omega)
   obtain rfl:=hy (by omega)
   obtain rfl:=hz (by omega)
   have HR:Hid (q=0):=by show _=_;rw [HZ.out];simp
   clear hx hy hz h0 h1 h2 g0 g1 g2
   go_wp2
   go_returns
   exact ret_int HR.out.symm hB
theorem keepBegun_fact (A1 A2:Option Addr) (n1 n2 c1 c2:Nat):bodiesE [⟨bdK 0 0 0,A1,n1,c1,sqL (-1) (-1) 2⟩,⟨bdK 0 2 65536,A2,n2,c2,sqL (-1) (-1) 2⟩]=0∧(match fndL [⟨bdK 0 0 0,A1,n1,c1,sqL (-1) (-1) 2⟩,⟨bdK 0 2 65536,A2,n2,c2,sqL (-1) (-1) 2⟩] with | [x,y]=>decide (x.b=1) && decide (x.dep=0) && decide (ordC x y = -1) | _=>false)=true:=⟨by kernel_rfl,by kernel_rfl⟩
theorem keepBegun_calls (w:World):Calls Tryz.prog 17 #[] w (Ret (.bool true) w):=by
 have HQ:=hid keepBegun_fact
 have HB1:=hid (lblock2_calls_fix 0 0 (by omega) (by omega))
 have HB2:=hid (lblock2_calls_mov 0 2 (by omega) (by omega))
 generalize sqL (-1) (-1) 2=q at *
 go_enter Tryz.func17,Tryz.ntmps17
 go_wp2_with fail
 refine (HB1.out _).mono ?_
 rintro e w1 ⟨A1,n1,c1,rfl,hs1,hf1,hb1⟩
 have HS1:=hid hs1
 clear hs1 hf1 HB1
 go_wp2_with fail
 refine (HB2.out _).mono ?_
 rintro e w2 ⟨A2,n2,c2,rfl,hs2,hf2,hb2⟩
 obtain ⟨g,hg⟩:∃ g,g=w2.heap.size:=⟨_,rfl⟩
 obtain ⟨w3,hw3⟩:∃ w3,w3=w2.alloc (.cells #[.int .i64 (bdK 0 0 0).px,.int .i64 (bdK 0 0 0).py,.int .i64 (bdK 0 0 0).vx,.int .i64 (bdK 0 0 0).vy,.int .i64 (bdK 0 0 0).ang,.int .i64 (bdK 0 0 0).spin,.int .i64 (bdK 0 0 0).mass,.int .i64 (bdK 0 0 0).iner,.int .i64 (bdK 0 0 0).bounce,.int .i64 (bdK 0 0 0).rub,.slice A1 n1 c1,.bool (bdK 0 0 0).asleep,.int .i64 (bdK 0 0 0).calm,.int .i64 (bdK 0 2 65536).px,.int .i64 (bdK 0 2 65536).py,.int .i64 (bdK 0 2 65536).vx,.int .i64 (bdK 0 2 65536).vy,.int .i64 (bdK 0 2 65536).ang,.int .i64 (bdK 0 2 65536).spin,.int .i64 (bdK 0 2 65536).mass,.int .i64 (bdK 0 2 65536).iner,.int .i64 (bdK 0 2 65536).bounce,.int .i64 (bdK 0 2 65536).rub,.slice A2 n2 c2,.bool (bdK 0 2 65536).asleep,.int .i64 (bdK 0 2 65536).calm] 58):=⟨_,rfl⟩
 have hB2:=keepBelow hb2 hb1
 have hb3:Below w2.heap.size w2 w3:=by rw [hw3];go_grown
 have hc3:CellsE layB w3 g 0 [⟨bdK 0 0 0,A1,n1,c1,q⟩,⟨bdK 0 2 65536,A2,n2,c2,q⟩]:=by
  have HO:OwnE layB 58 w3 w2.heap.size (.slice (some ⟨g,0,none⟩) 2 2) [⟨bdK 0 0 0,A1,n1,c1,q⟩,⟨bdK 0 2 65536,A2,n2,c2,q⟩]:=by
   rw [hw3,hg]
   exact ⟨by simp [flatE,layB,encB],.inr ⟨w2.heap.size,2,_,rfl,Nat.le_refl _,heap_alloc_new w2 _,Nat.le_refl _,by decide,by simp [layB],by simp [flatE,layB,encB,bdK]⟩⟩
  rcases HO.form with ⟨h1,-⟩ | ⟨g',cap',hv,-,-,-,-,hf,hc⟩
  ·cases h1
  ·cases hv;exact hc
 have hs13:=(HS1.out.below hb2).below hb3
 have hs23:=hs2.below hb3
 obtain ⟨hE,hM⟩:=HQ.out A1 A2 n1 n2 c1 c2
 have HS3:Hid (SlB w3 (some ⟨g,0,none⟩) 2 2 [⟨bdK 0 0 0,A1,n1,c1,q⟩,⟨bdK 0 2 65536,A2,n2,c2,q⟩]):=⟨⟨rfl,Nat.le_refl _,by omega,fun _=>⟨g,0,rfl,hc3⟩⟩,fun x hx=>by
  rcases List.mem_cons.1 hx with rfl | hx
  ·exact hs13
  ·rw [List.mem_singleton.1 hx];exact hs23⟩
 obtain ⟨L,hL⟩:∃ L:List BE,L=[⟨bdK 0 0 0,A1,n1,c1,q⟩,⟨bdK 0 2 65536,A2,n2,c2,q⟩]:=⟨_,rfl⟩
 rw [← hL] at HS3 hE hM
 have HF:=hid (kfind_calls (some ⟨g,0,none⟩) none 2 2 0 0 L [] w3 HS3.out (SlE.nil _ _))
 obtain ⟨x,y,hxy⟩:∃ x y,fndL L=[x,y]:=by
  generalize fndL L=C at *
  match C,hM with
  | [x,y],_=>exact ⟨x,y,rfl⟩
 rw [hxy] at hM
 simp only [Bool.and_eq_true,decide_eq_true_iff] at hM
 obtain ⟨⟨hxb,hxd⟩,hxo⟩:=hM
 have HEZ:=hid hE
 have HFE:Hid (findE L []=[x,y]):=by show _=_;unfold findE;rw [if_pos hE,carL_nilK _ (fnd_zeroK L),hxy]
 have HOR:=hid (order_calls x y)
 rw [hxo] at HOR
 have hB3:=hid (keepBelow hb3 hB2)
 clear hs2 hf2 hb1 hb2 hB2 hb3 hc3 hs13 hs23 HS3 HS1 HB2 HQ hL hE hxy hxo
 go_wp2_with fail
 rw [← hg,← hw3]
 clear hw3 hg
 refine HF.out.mono ?_
 rintro e w4 ⟨A4,n4,c4,rfl,hs4,hb4⟩
 rw [HFE.out] at hs4
 rw [HEZ.out]
 have HB4:=hid (keepBelow hb4 hB3.out)
 have hn4:=hs4.len
 have hn4:n4=2:=hn4
 subst hn4
 obtain ⟨gr,ofr,rfl,hce⟩:=hs4.at_ (by simp)
 have HCE:=hid hce
 have hxb':(x.b == 1)=true:=by simp [hxb]
 have hxd':(x.dep == 0)=true:=by simp [hxd]
 clear hs4 hb4 hce HF hB3 HFE HEZ hxb hxd
 go_upto_region 2 with fail
 refine wp_region_noPanic ?_
 refine wp_region_U (S:=(S2 (fun w'=>CellsE layC w' gr ofr [x,y]∧Below w.heap.size w w'))) (T:=(fun _=>0)) (by kernel_rfl) (S2i0 ⟨CellsE.below (Below.refl _ _).drew HCE.out,HB4.out.drew⟩) (fun hH=>?_)
 have hWr5:Weaker (S2 (fun w'=>CellsE layC w' gr ofr [x,y]∧Below w.heap.size w w')):=weaker2 _
 refine Utn [(0,10),(1,11),(2,12),(3,13),(4,14),(5,15),(6,16),(7,17),(8,18),(9,19),(10,20),(11,21),(12,22),(13,23),(14,24),(15,25),(16,26),(17,27),(18,28),(19,29),(20,30),(21,31),(22,32),(23,33),(24,34),(25,35),(26,36),(27,37)] 4 0 0 (L':=?Lr5_1) hWr5 hH ?hyr5_1 ?_
 case hyr5_1=>((iterate 28 apply tkC;rfl;kernel_rfl;intro w' hSw;replace hSw:=S2o0 hSw;(try dsimp only at hSw);have q0:=hSw.1;have q1:=hSw.2;obtain ⟨qa0_0,qa0_1,qa0_2,qa0_3,qa0_4,qa0_5,qa0_6,qa0_7,qa0_8,qa0_9,qa0_10,qa0_11,qa0_12,qa0_13,qa0_14,qa0_15,qa0_16,qa0_17,qa0_18,qa0_19⟩:=cells2_ct (q0);(try simp only [sB,sC]);go_simp;(try with_reducible rfl));exact tkN)
 simp only [sB,sC]
 refine U1 28 0 rfl (fun K hK=>?_)
 try clear hb
 go_simp
 (go_at_call 13;refine (HOR.out _).mono ?_;rintro e wn ⟨rfl,hb⟩)
 refine hK.out _ _ ?hsr5_29 (fun hH2=>?hrr5_29)
 case hsr5_29=>exact S2i0 (by have hG:=hH;replace hG:=S2o0 hG;(try dsimp only at hG);have q0:=hG.1;have q1:=hG.2;exact ⟨CellsE.below hb q0,keepBelow hb q1⟩)
 clear hK K hH
 have hH:=hH2
 clear hH2
 try simp only [Act.put,sA,sB,sC]
 refine Utn [(29,39),(30,40),(31,0)] 0 0 0 (L':=?Lr5_30) hWr5 hH ?hyr5_30 ?_
 case hyr5_30=>((iterate 3 apply tkC;rfl;kernel_rfl;intro w' hSw;clear hSw;(try simp only [sB,sC]);go_simp;(try with_reducible rfl));exact tkN)
 simp only [sB,sC]
 refine wpAnyU_done (by kernel_rfl) ?_ _ _
 refine NoPanic.normal ?_
 clear hWr5
 replace hH:=S2o0 hH
 (try dsimp only at hH)
 have t0:=hH.1
 have t1:=hH.2
 go_wp2
 go_returns
 exact ret_bool (by simp) t1
end
end Go.Proofs.YtiaoandbdgdecaaGreat
namespace Go.Proofs.YtiaoandbdgdecaaGreat
section
set_option linter.unusedVariables false
set_option linter.unusedSimpArgs false
open Go.RowKit
theorem keepKgS {w:World} {g k o':Nat} {x:Ct} {v:Value} (hne:k≠g) (h:Kg w g x):Kg (w.setCell ⟨k,o',none⟩ v) g x:=⟨far1 hne h.c0,far1 hne h.c1,far1 hne h.c2,far1 hne h.c3,far1 hne h.c4,far1 hne h.c5,far1 hne h.c6,far1 hne h.c7,far1 hne h.c8,far1 hne h.c9⟩
theorem Kg.set2 {w:World} {g:Nat} {x:Ct} (h:Kg w g x) (p s:Int):Kg ((w.setCell ⟨g,8,none⟩ (.int .i64 p)).setCell ⟨g,9,none⟩ (.int .i64 s)) g { x with push:=p,sli:=s } :=
 ⟨cell_set_ne (cell_set_ne h.c0 (by omega)) (by omega),cell_set_ne (cell_set_ne h.c1 (by omega)) (by omega),cell_set_ne (cell_set_ne h.c2 (by omega)) (by omega),cell_set_ne (cell_set_ne h.c3 (by omega)) (by omega),cell_set_ne (cell_set_ne h.c4 (by omega)) (by omega),cell_set_ne (cell_set_ne h.c5 (by omega)) (by omega),cell_set_ne (cell_set_ne h.c6 (by omega)) (by omega),cell_set_ne (cell_set_ne h.c7 (by omega)) (by omega),cell_set_ne (cell_set_eq h.c8) (by omega),cell_set_eq (cell_set_ne h.c9 (by omega))⟩
theorem Kg.grownK {w w':World} {g:Nat} {x:Ct} {row:Option Nat} (h:Kg w g x) (hg:w.grownBy w' row) (hne:some g≠row):Kg w' g x:=⟨hg.cell h.c0 hne,hg.cell h.c1 hne,hg.cell h.c2 hne,hg.cell h.c3 hne,hg.cell h.c4 hne,hg.cell h.c5 hne,hg.cell h.c6 hne,hg.cell h.c7 hne,hg.cell h.c8 hne,hg.cell h.c9 hne⟩

structure CR (w0 : World) (s : Value) (o : List Ct) (w : World) : Prop where
 own:OwnE layC 40 w w0.heap.size s o
 bel:Below w0.heap.size w0 w
structure CI (w0 : World) (g : Nat) (s : Value) (o : List Ct) (y : Ct) (w : World) : Prop where
 own:OwnE layC 40 w w0.heap.size s o
 bel:Below w0.heap.size w0 w
 kg:Kg w g y
 kf:∀ j,w.frozen? ⟨g,j,none⟩=false
 ns:∀ q,s.ownBlock=some q→q≠g
 lo:w0.heap.size≤g
theorem CI.keep {w0:World} {g:Nat} {s:Value} {o:List Ct} {y:Ct} {w w':World} (hb:Below w.heap.size w w') (h:CI w0 g s o y w):CI w0 g s o y w' :=
 ⟨h.own.below hb,keepBelow hb h.bel,keepKg hb h.kg,fun j=>((bcell hb).2 _ _ (lt_of_cell h.kg.c0)).trans (h.kf j),h.ns,h.lo⟩
theorem CI.set2 {w0:World} {g:Nat} {s:Value} {o:List Ct} {y:Ct} {w:World} (h:CI w0 g s o y w) (p t:Int):CI w0 g s o { y with push:=p,sli:=t } ((w.setCell ⟨g,8,none⟩ (.int .i64 p)).setCell ⟨g,9,none⟩ (.int .i64 t)) :=
 ⟨(h.own.off h.ns _ _).off h.ns _ _,(h.bel.setCell (p:=⟨g,_,none⟩) h.lo _).setCell (p:=⟨g,_,none⟩) h.lo _,h.kg.set2 p t,fun j=>by rw [World.frozen?_setCell,World.frozen?_setCell];exact h.kf j,h.ns,h.lo⟩
theorem carC_form (old:List Ct) (x:Ct):∃ p s,carC old x={ x with push:=p,sli:=s }:=by
 unfold carC
 split
 ·exact ⟨_,_,rfl⟩
 ·exact ⟨_,_,rfl⟩
theorem rcarried_calls (A B:Option Addr) (m c m' c':Nat) (old F:List Ct) (w:World) (hO:SlE layC w A m c old) (hF:SlE layC w B m' c' F) (hl:F.length≤100000):Calls Tryz.prog 19 #[.slice A m c,.slice B m' c'] w (RetCts (carL old F) w):=by
 have hm:=hO.len
 have hm':=hF.len
 subst hm hm'
 have HO:=hid hO
 have HF:=hid hF
 have hbig:=hO.big
 have hcap:=hO.cap
 have hbig':=hF.big
 have hcap':=hF.cap
 have HC0:Hid (CR w (.slice none 0 0) (carL old (F.take 0)) w):=⟨OwnE.nil _ _ _ _,Below.refl _ _⟩
 clear hO hF
 go_enter Tryz.func19,Tryz.ntmps19
 go_wp2
 go_loopw [5,12] (fun s j wr=>∃ t:Nat,t≤F.length∧j = .int .i64 t∧CR w s (carL old (F.take t)) wr) (fun _ j _=>F.length-(intOf j).toNat)
 case atStart=>exact ⟨0,Nat.zero_le _,rfl,HC0.out⟩
 case round =>
  clear HC0
  obtain ⟨t,ht,rfl,hcr⟩:=hrel
  obtain ⟨wo,rfl⟩:∃ wo:World,wo=wr:=⟨_,rfl⟩
  obtain ⟨s,hs⟩:∃ s,s=u5:=⟨_,rfl⟩
  rw [← hs] at hcr ⊢
  clear hs
  by_cases hlt:t<F.length
  ·obtain ⟨x, hx⟩ : ∃ x, x = F[t] := ⟨_, rfl⟩
   have HSU:Hid (carL old (F.take (t+1))=carL old (F.take t) ++ [carC old x]):=by show _=_;rw [hx];exact carL_take hlt
   have HLN:Hid ((carL old (F.take t)).length≤100000):=by show _≤_;unfold carL;rw [List.length_map,List.length_take];omega
   obtain ⟨bF,oF,rfl,hCF⟩:=(HF.out.below hcr.bel).at_ (by intro h;rw [h] at hlt;simp at hlt)
   obtain ⟨d0,d1,d2,d3,d4,d5,d6,d7,d8,d9⟩:=cells_ct hCF hlt hx
   have hbl:=hCF.lt
   have hlt':(t:Int)<(F.length:Int):=by omega
   have hwt:IntKind.i64.wrap ((t:Int)+1)=(t:Int)+1:=IntWalk.i64_in _ (by omega)
   obtain ⟨g,hg⟩:∃ g,g=wo.heap.size:=⟨_,rfl⟩
   obtain ⟨wp,hwp⟩:∃ w',w'=wo.alloc (.cells #[.int .i64 x.a,.int .i64 x.b,.int .i64 x.id,.int .i64 x.px,.int .i64 x.py,.int .i64 x.nx,.int .i64 x.ny,.int .i64 x.dep,.int .i64 x.push,.int .i64 x.sli] 40):=⟨_,rfl⟩
   have hbw:Below wo.heap.size wo wp:=by rw [hwp];go_grown
   have HC1:Hid (CI w g s (carL old (F.take t)) x wp):=⟨hcr.own.below hbw,keepBelow hbw hcr.bel,by rw [hwp,hg];exact ⟨by go_simp,by go_simp,by go_simp,by go_simp,by go_simp,by go_simp,by go_simp,by go_simp,by go_simp,by go_simp⟩,fun j=>by rw [hwp,hg];go_simp,fun q hq e=>by have:=(hcr.own.lt hq).2;omega,by rw [hg];exact hcr.bel.size⟩
   have HX:=hid hx
   generalize carL old (F.take t)=o at *
   clear hCF hcr hx hbw
   obtain ⟨e0,e1,e2,e3,e4,e5,e6,e7,e8,e9⟩:=HC1.out.kg
   have hkf:=HC1.out.kf
   go_upto_region 5 with fail
   rw [← hwp,← hg]
   clear hwp hg d0 d1 d2 d3 d4 d5 d6 d7 d8 d9 hbl
   have HC2:=hid (HC1.out.set2 0 0)
   have hw1:IntKind.i64.wrap ((old.length:Int)-1)=(old.length:Int)-1:=IntWalk.i64_in _ (by omega)
   go_wp2
   generalize (wp.setCell ⟨g,8,none⟩ (.int .i64 0)).setCell ⟨g,9,none⟩ (.int .i64 0)=wq at *
   clear HC1 e0 e1 e2 e3 e4 e5 e6 e7 e8 e9 hkf
   have HY0:Hid (({ x with push:=0,sli:=0 }:Ct)=carB old x old.length):=(carB_top old x).symm
   rw [HY0.out] at HC2
   clear HY0
   go_loopw [8] (fun iv wr=>∃ j:Nat,j≤old.length∧iv = .int .i64 ((j:Int)-1)∧CI w g s o (carB old x j) wr) (fun iv _=>(intOf iv+1).toNat)
   case atStart=>exact ⟨old.length,Nat.le_refl _,rfl,HC2.out⟩
   case round =>
    clear HC2
    obtain ⟨j,hj,rfl,hci⟩:=hrel
    obtain ⟨wz,rfl⟩:∃ wz:World,wz=wr:=⟨_,rfl⟩
    by_cases hj0:0<j
    ·obtain ⟨i, rfl⟩ : ∃ i, j = i + 1 := ⟨j - 1, by omega⟩
     have hi:i<old.length:=by omega
     have ei:(((i+1:Nat):Int)-1)=(i:Int):=by omega
     rw [ei] at *
     obtain ⟨o2,ho2⟩:∃ o2,o2=old[i]:=⟨_,rfl⟩
     have HST:Hid (carB old x i=if sameK x o2=true then { x with push:=o2.push,sli:=o2.sli } else carB old x (i+1)):=by show _=_;rw [ho2];exact carB_step hi
     have HYX:Hid (∃ p t,carB old x (i+1)={ x with push:=p,sli:=t }):=carC_form _ _
     obtain ⟨bo,oo,hA,hCO⟩:=(HO.out.below hci.bel).at_ (by intro h;rw [h] at hi;simp at hi)
     subst hA
     obtain ⟨d0,d1,d2,d3,d4,d5,d6,d7,d8,d9⟩:=cells_ct hCO hi ho2
     have hbl:=hCO.lt
     have hi0:(0:Int)≤(i:Int):=by omega
     have hi':(i:Int)<(old.length:Int):=by omega
     have hwi:IntKind.i64.wrap ((i:Int)-1)=(i:Int)-1:=IntWalk.i64_in _ (by omega)
     obtain ⟨go,hgo⟩:∃ g,g=wz.heap.size:=⟨_,rfl⟩
     obtain ⟨wv,hwv⟩:∃ w',w'=wz.alloc (.cells #[.int .i64 o2.a,.int .i64 o2.b,.int .i64 o2.id,.int .i64 o2.px,.int .i64 o2.py,.int .i64 o2.nx,.int .i64 o2.ny,.int .i64 o2.dep,.int .i64 o2.push,.int .i64 o2.sli] 40):=⟨_,rfl⟩
     have hbv:Below wz.heap.size wz wv:=by rw [hwv];go_grown
     have HCV:=hid (hci.keep hbv)
     have HKO:Hid (Kg wv go o2):=by rw [hwv,hgo];exact ⟨by go_simp,by go_simp,by go_simp,by go_simp,by go_simp,by go_simp,by go_simp,by go_simp,by go_simp,by go_simp⟩
     have hgg:g<go:=by have:=lt_of_cell hci.kg.c0;omega
     obtain ⟨y,hy⟩:∃ y,y=carB old x (i+1):=⟨_,rfl⟩
     have HY:=hid hy
     rw [← hy] at HCV
     clear hci hCO ho2 hbv hy hj0
     obtain ⟨e0,e1,e2,e3,e4,e5,e6,e7,e8,e9⟩:=HCV.out.kg
     obtain ⟨f0,f1,f2,f3,f4,f5,f6,f7,f8,f9⟩:=HKO.out
     have hkf:=HCV.out.kf
     obtain ⟨b1,hb1⟩:∃ b,b=(o2.a == y.a):=⟨_,rfl⟩
     obtain ⟨b2,hb2⟩:∃ b,b=(o2.b == y.b):=⟨_,rfl⟩
     obtain ⟨b3,hb3⟩:∃ b,b=(o2.id == y.id):=⟨_,rfl⟩
     have HSK:Hid (sameK x o2=(b1 && b2 && b3)):=by
      obtain ⟨p,q,e⟩:=HYX.out
      show _=_
      have ea:y.a=x.a:=by rw [HY.out,e]
      have eb:y.b=x.b:=by rw [HY.out,e]
      have eid:y.id=x.id:=by rw [HY.out,e]
      rw [hb1,hb2,hb3,ea,eb,eid]
      unfold sameK
      rw [Bool.eq_iff_iff]
      simp [and_assoc]
     replace hb1:=hb1.symm
     replace hb2:=hb2.symm
     replace hb3:=hb3.symm
     have HNO:Hid ((b1 && b2 && b3)=false→y=carB old x i):=fun h=>by rw [HST.out,if_neg (by rw [HSK.out,h];simp)];exact HY.out
     have HYES:Hid ((b1 && b2 && b3)=true→({ y with push:=o2.push,sli:=o2.sli }:Ct)=carB old x i):=fun h=>by
      obtain ⟨p,q,e⟩:=HYX.out
      rw [HST.out,if_pos (by rw [HSK.out];exact h),HY.out,e]
     clear HST HYX HSK HY
     go_upto_region 10 with fail
     rw [← hwv,← hgo]
     clear hwv hgo d0 d1 d2 d3 d4 d5 d6 d7 d8 d9 hbl
     cases b1 with
     | false =>
      have HN:=hid (HNO.out rfl)
      clear HNO HYES HKO
      go_wp2
      go_roundw
      case rel=>exact ⟨i,by omega,by go_num,by rw [← HN.out];exact HCV.out⟩
      case measure=>simp [intOf] <;> omega
     | true =>
      cases b2 with
      | false =>
       have HN:=hid (HNO.out rfl)
       clear HNO HYES HKO
       go_wp2
       go_roundw
       case rel=>exact ⟨i,by omega,by go_num,by rw [← HN.out];exact HCV.out⟩
       case measure=>simp [intOf] <;> omega
      | true =>
       cases b3 with
       | false =>
        have HN:=hid (HNO.out rfl)
        clear HNO HYES HKO
        go_wp2
        go_roundw
        case rel=>exact ⟨i,by omega,by go_num,by rw [← HN.out];exact HCV.out⟩
        case measure=>simp [intOf] <;> omega
       | true =>
        have HN:=hid (HYES.out rfl)
        have HC9:=hid ((HCV.out.set2 o2.push o2.sli).keep (Below.refl _ _).drew)
        rw [HN.out] at HC9
        clear HNO HYES HN
        go_upto_region 11 with fail
        refine wp_region_noPanic ?_
        refine wp_region_U (S:=(S3 (fun w'=>Kg w' go o2) (fun w'=>Kg w' go o2))) (T:=(fun j=>[0,0,0,0,0,1,0,2].getD j 0)) (by kernel_rfl) (S3i0 HKO.out.drew) (fun hH=>?_)
        have hWr5:Weaker (S3 (fun w'=>Kg w' go o2) (fun w'=>Kg w' go o2)):=weaker3 (fun _ q0=>q0)
        refine Utn [(0,48),(1,49),(4,52)] 5 0 0 (L':=?Lr5_1) hWr5 hH ?hyr5_1 ?_
        case hyr5_1=>((iterate 3 apply tkC;rfl;kernel_rfl;intro w' hSw;replace hSw:=S3o0 hSw;(try dsimp only at hSw);have q0:=hSw;obtain ⟨qa0_0,qa0_1,qa0_2,qa0_3,qa0_4,qa0_5,qa0_6,qa0_7,qa0_8,qa0_9⟩:=id q0;(try simp only [sB,sC]);go_simp;(try with_reducible rfl));exact tkN)
        simp only [sB,sC]
        refine Utn [(2,50),(3,51)] 3 1 0 (L':=?Lr5_4) hWr5 hH ?hyr5_4 ?_
        case hyr5_4=>((iterate 2 apply tkC;rfl;kernel_rfl;intro w' hSw;replace hSw:=S3o1 hSw;(try dsimp only at hSw);have q0:=hSw;obtain ⟨qa0_0,qa0_1,qa0_2,qa0_3,qa0_4,qa0_5,qa0_6,qa0_7,qa0_8,qa0_9⟩:=id q0;(try simp only [sB,sC]);go_simp;(try with_reducible rfl));exact tkN)
        simp only [sB,sC]
        refine U1 5 1 rfl (fun K hK=>?_)
        go_simp
        refine hK.out _ _ ?hsr5_6 (fun hH2=>?hrr5_6)
        case hsr5_6=>exact S3i1 (Kg.drew (keepKgS (k:=g) (by omega) HKO.out))
        clear hK K hH
        have hH:=hH2
        clear hH2
        try simp only [Act.put,sA,sB,sC]
        refine Ut 6 53 1 1 1 (v:=?vr5_7) rfl hWr5 hH ?hyr5_7 ?_
        case hyr5_7=>(intro w' hSw;clear hSw;go_simp;try (with_reducible rfl))
        simp only [sB,sC]
        refine U1 7 2 rfl (fun K hK=>?_)
        go_simp
        refine hK.out _ _ ?hsr5_8 (fun hH2=>?hrr5_8)
        case hsr5_8=>exact S3i2
        clear hK K hH
        have hH:=hH2
        clear hH2
        try simp only [Act.put,sA,sB,sC]
        refine wpAnyU_done (by kernel_rfl) ?_ _ _
        refine NoPanic.normal ?_
        clear hWr5 hH
        generalize ((wv.setCell ⟨g,8,none⟩ (.int .i64 o2.push)).setCell ⟨g,9,none⟩ (.int .i64 o2.sli)).drew=w9 at *
        clear HCV e0 e1 e2 e3 e4 e5 e6 e7 e8 e9 f0 f1 f2 f3 f4 f5 f6 f7 f8 f9 hkf HKO
        go_wp2
        go_roundw
        case rel=>exact ⟨i,by omega,by go_num,HC9.out⟩
        case measure=>simp [intOf] <;> omega
    ·have hj00 : j = 0 := by omega
     subst hj00
     rw [carB_zero] at hci
     obtain ⟨y,hy⟩:∃ y,y=carC old x:=⟨_,rfl⟩
     rw [← hy] at hci HSU
     clear hy
     have HCI:=hid hci
     obtain ⟨e0,e1,e2,e3,e4,e5,e6,e7,e8,e9⟩:=hci.kg
     clear hci
     go_wp2_with (at_builtin;refine wpList_append_E tyContact rfl _ _ rfl w.heap.size _ _ rfl (HCI.out.own.alloc _) wz.heap.size 0 1 1 [y] rfl rfl (cells_ct_one (by go_simp) (by go_simp) (by go_simp) (by go_simp) (by go_simp) (by go_simp) (by go_simp) (by go_simp) (by go_simp) (by go_simp)) (by have:=HLN.out;simp;omega) (by have:=HLN.out;simp;omega) (by have:=HCI.out.bel.size;simp;omega) ?_;intro v' w7 ho1 hg1 hat;have HC7:Hid (CR w v' (o ++ [y]) w7):=⟨ho1,((HCI.out.bel.alloc HCI.out.bel.size _).grown hg1 (Nat.le_trans HCI.out.bel.size (by simp)) (fun q hq=>(HCI.out.own.lt hq).1))⟩;clear ho1 hg1 hat)
     clear HCI e0 e1 e2 e3 e4 e5 e6 e7 e8 e9
     go_roundw
     case rel=>exact ⟨t+1,hlt,by go_num,by rw [HSU.out];exact HC7.out⟩
     case measure=>simp [intOf];omega
  ·have hte : t = F.length := by omega
   subst hte
   rw [List.take_length] at hcr
   obtain ⟨sA,sn,sc,rfl,hsl,-⟩:=hcr.own.sl
   have HR:Hid (RetCts (carL old F) w (.returned (.slice sA sn sc)) wo):=⟨sA,sn,sc,rfl,hsl,hcr.bel⟩
   clear hcr hsl
   go_wp2
   refine bodyPost_ret (v:=.slice sA sn sc) (by simp [results,Tryz.results19,go_sem]) rfl HR.out
end
end Go.Proofs.YtiaoandbdgdecaaGreat
