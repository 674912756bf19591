/- Parts of a proof: contracts and laws. -/
import Derived.Test.YtiaoandbdgdecaaGreatPK08
import Derived.Test.YtiaoandbdgdecaaGreatPK14
import Derived.Test.YtiaoandbdgdecaaGreatPK04
set_option maxRecDepth 100000
set_option maxHeartbeats 16000000
namespace Go.Proofs.YtiaoandbdgdecaaGreat
section
set_option linter.unusedVariables false
set_option linter.unusedSimpArgs false
open Go.RowKit
theorem BdAt.grown {w w':World} {g k:Nat} {b:Bd} {A:Option Addr} {n c:Nat} (h:BdAt w g b A n c) (hg:w.grownBy w' (some k)) (hne:g≠k):BdAt w' g b A n c :=
 ⟨(grown_cell hg hne h.lt).trans h.c0,(grown_cell hg hne h.lt).trans h.c1,(grown_cell hg hne h.lt).trans h.c2,(grown_cell hg hne h.lt).trans h.c3,(grown_cell hg hne h.lt).trans h.c4,(grown_cell hg hne h.lt).trans h.c5,(grown_cell hg hne h.lt).trans h.c6,(grown_cell hg hne h.lt).trans h.c7,(grown_cell hg hne h.lt).trans h.c8,(grown_cell hg hne h.lt).trans h.c9,(grown_cell hg hne h.lt).trans h.c10,(grown_cell hg hne h.lt).trans h.c11,(grown_cell hg hne h.lt).trans h.c12,fun j=>(World.frozen?_of_block (hg.block g h.lt (by intro e;cases e;exact hne rfl))).trans (h.free j)⟩
theorem BdZ.grown {w w':World} {g k:Nat} (h:BdZ w g) (hg:w.grownBy w' (some k)) (hne:g≠k):BdZ w' g :=
 ⟨fun j hj=>by obtain ⟨v,hv⟩:=h.c j hj;exact ⟨v,(grown_cell hg hne h.lt).trans hv⟩,fun j=>(World.frozen?_of_block (hg.block g h.lt (by intro e;cases e;exact hne rfl))).trans (h.free j)⟩
theorem Stm.set {w:World} {g k o:Nat} {r:List Int} {v:Value} (h:Stm w g r) (hne:g<k):Stm (w.setCell ⟨k,o,none⟩ v) g r:=by
 obtain ⟨h1,h2,A,n,c,h3,h4,h5⟩:=h
 refine ⟨by simp;exact h1,by rw [World.frozen?_setCell];exact h2,A,n,c,by go_simp,⟨h4.len,h4.cap,h4.big,fun hr=>?_⟩,h5⟩
 obtain ⟨b,off,e,hlt,hc⟩:=h4.at_ hr
 have hb:=h5 hr b off e
 refine ⟨b,off,e,by simp;exact hlt,fun j hj=>?_⟩
 have:=hc j hj
 go_simp


end
end Go.Proofs.YtiaoandbdgdecaaGreat
namespace Go.Proofs.YtiaoandbdgdecaaGreat
section
set_option linter.unusedVariables false
set_option linter.unusedSimpArgs false
open Go.RowKit

def wX (b:Bd) (p q:Int):Int:=addF (turnX p q b.ang) b.px
def wY (b:Bd) (p q:Int):Int:=addF (turnY p q b.ang) b.py
def placeL (b:Bd) (l:List V):List V:=l.map fun p=>(wX b p.1 p.2,wY b p.1 p.2)
theorem placeL_len (b:Bd) (l:List V):(placeL b l).length=l.length:=by simp [placeL]
def placeR (b:Bd) (l:List V):List V:=if bodyE b l≠0 then [] else placeL b l

def RetPl (l:List V) (w:World) (e:Ending) (w':World):Prop:=∃ A n c,e = .returned (.slice A n c)∧Sl w' A n c l∧(l=[]→A=none)∧(∀ bx off,A=some ⟨bx,off,none⟩→w.heap.size≤bx)∧Below w.heap.size w w'
theorem keepOwn {w w':World} {B:Nat} {v:Value} {l:List V} (hb:Below w.heap.size w w') (h:Own w B v l):Own w' B v l:=h.below hb
theorem keepBdB {w w':World} {B g:Nat} {b:Bd} {A:Option Addr} {n c:Nat} (hb:Below B w w') (hg:g<B) (h:BdAt w g b A n c):BdAt w' g b A n c:=by
 have e:∀ j v,w.cell? ⟨g,j,none⟩=some v→w'.cell? ⟨g,j,none⟩=some v:=fun j v hv=>((bcell hb).1 _ _ hg).trans hv
 exact ⟨e _ _ h.c0,e _ _ h.c1,e _ _ h.c2,e _ _ h.c3,e _ _ h.c4,e _ _ h.c5,e _ _ h.c6,e _ _ h.c7,e _ _ h.c8,e _ _ h.c9,e _ _ h.c10,e _ _ h.c11,e _ _ h.c12,fun j=>((bcell hb).2 _ _ hg).trans (h.free j)⟩
theorem shapeE_zero {l:List V} (h:shapeE l=0):checkE l=0:=by
 unfold shapeE at h
 by_cases hc:checkE l=0
 ·exact hc
 ·rw [if_pos hc] at h;exact h
theorem rworld_calls (b:Bd) (A:Option Addr) (n c:Nat) (p q:Int) (h0:0≤b.ang) (h1:b.ang<4294967296) (w:World):Calls Tryz.prog 93 #[bodyV b A n c,vecV p q] w (Ret (vecV (wX b p q) (wY b p q)) w):=by
 obtain ⟨W,hW⟩:∃ W,W=((w.alloc (.cells #[.int .i64 b.px,.int .i64 b.py,.int .i64 b.vx,.int .i64 b.vy,.int .i64 b.ang,.int .i64 b.spin,.int .i64 b.mass,.int .i64 b.iner,.int .i64 b.bounce,.int .i64 b.rub,.slice A n c,.bool b.asleep,.int .i64 b.calm] 58)).alloc (.cells #[.int .i64 p,.int .i64 q] 27)).alloc (.cells #[.int .i64 0,.int .i64 0] 27):=⟨_,rfl⟩
 have HK0:=hid (show BdAt W w.heap.size b A n c by rw [hW];exact ((BdAt.here w b A n c _).alloc _).alloc _)
 have HZ0:=hid (show VZ W (w.heap.size+2) by rw [hW];have:=VZ.here ((w.alloc (.cells #[.int .i64 b.px,.int .i64 b.py,.int .i64 b.vx,.int .i64 b.vy,.int .i64 b.ang,.int .i64 b.spin,.int .i64 b.mass,.int .i64 b.iner,.int .i64 b.bounce,.int .i64 b.rub,.slice A n c,.bool b.asleep,.int .i64 b.calm] 58)).alloc (.cells #[.int .i64 p,.int .i64 q] 27)) 0 0 27;simpa using this)
 have hB0:Below w.heap.size w W:=by rw [hW];go_grown
 have p0:W.cell? ⟨w.heap.size+1,0,none⟩=some (.int .i64 p):=by rw [hW];go_simp
 have p1:W.cell? ⟨w.heap.size+1,1,none⟩=some (.int .i64 q):=by rw [hW];go_simp
 have HT:=hid (turn_calls p q b.ang h0 h1)
 obtain ⟨tx,htx⟩:∃ t,t=turnX p q b.ang:=⟨_,rfl⟩
 obtain ⟨ty,hty⟩:∃ t,t=turnY p q b.ang:=⟨_,rfl⟩
 rw [← htx,← hty] at HT
 have HX:Hid (wX b p q=addF tx b.px):=by show _=_;unfold wX;rw [htx]
 have HY:Hid (wY b p q=addF ty b.py):=by show _=_;unfold wY;rw [hty]
 clear htx hty h0 h1
 obtain ⟨k0,k1,k2,k3,k4,k5,k6,k7,k8,k9,k10,k11,k12,kf⟩:=HK0.out
 go_enter Tryz.func93,Tryz.ntmps93
 go_wp2_with fail
 rw [← hW]
 clear hW
 refine (HT.out _).mono ?_
 rintro e w1 ⟨rfl,hb1⟩
 obtain ⟨w2,hw2⟩:∃ w2,w2=w1.alloc (.cells #[.int .i64 tx,.int .i64 ty] 27):=⟨_,rfl⟩
 obtain ⟨gt,hgt⟩:∃ g,g=w1.heap.size:=⟨_,rfl⟩
 have hgl:w.heap.size+2<gt:=by rw [hgt];exact (keepVZ hb1 HZ0.out).lt
 have HK2:=hid (show BdAt w2 w.heap.size b A n c by rw [hw2];exact (keepBd hb1 HK0.out).alloc _)
 have HZ2:=hid (show VZ w2 (w.heap.size+2) by rw [hw2];exact (keepVZ hb1 HZ0.out).alloc _)
 have hB2:Below w.heap.size w w2:=by rw [hw2];exact (keepBelow hb1 hB0).alloc (keepBelow hb1 hB0).size _
 have t0:w2.cell? ⟨gt,0,none⟩=some (.int .i64 tx):=by rw [hw2,hgt];go_simp
 have t1:w2.cell? ⟨gt,1,none⟩=some (.int .i64 ty):=by rw [hw2,hgt];go_simp
 clear hb1 HK0 HZ0 hB0 p0 p1 HT k0 k1 k2 k3 k4 k5 k6 k7 k8 k9 k10 k11 k12 kf
 go_upto_region 2 with fail
 rw [← hw2,← hgt]
 clear hw2 hgt
 refine wp_region_noPanic ?_
 refine wp_region_U (S:=(S2 (fun w'=>BdAt w' w.heap.size b A n c∧VZ w' (w.heap.size+2)∧Below w.heap.size w w'∧w'.cell? ⟨gt,0,none⟩=some (.int .i64 tx)∧w'.cell? ⟨gt,1,none⟩=some (.int .i64 ty)))) (T:=(fun j=>[0,0,0,0,0,0,0,0,0,0,0,0,0,1].getD j 0)) (by kernel_rfl) (S2i0 ⟨HK2.out.drew,HZ2.out.drew,hB2.drew,t0,t1⟩) (fun hH=>?_)
 have hWr1:Weaker (S2 (fun w'=>BdAt w' w.heap.size b A n c∧VZ w' (w.heap.size+2)∧Below w.heap.size w w'∧w'.cell? ⟨gt,0,none⟩=some (.int .i64 tx)∧w'.cell? ⟨gt,1,none⟩=some (.int .i64 ty))):=weaker2 _
 refine Utn [(0,10),(1,11),(2,12),(3,13),(4,14),(6,16),(7,17),(8,18),(9,19),(10,20)] 4 0 0 (L':=?Lr1_1) hWr1 hH ?hyr1_1 ?_
 case hyr1_1=>((iterate 10 apply tkC;rfl;kernel_rfl;intro w' hSw;replace hSw:=S2o0 hSw;(try dsimp only at hSw);have q0:=hSw.1;have q1:=hSw.2.1;have q2:=hSw.2.2.1;have q3:=hSw.2.2.2.1;have q4:=hSw.2.2.2.2;obtain ⟨qa0_0,qa0_1,qa0_2,qa0_3,qa0_4,qa0_5,qa0_6,qa0_7,qa0_8,qa0_9,qa0_10,qa0_11,qa0_12,qa0_f⟩:=id q0;(try simp only [sB,sC]);go_simp;(try with_reducible rfl));exact tkN)
 simp only [sB,sC]
 refine U1 5 0 rfl (fun K hK=>?_)
 try clear hb
 go_simp
 (go_at_call 105;refine (fadd_calls tx b.px _).mono ?_;rintro e wn ⟨rfl,hb⟩)
 refine hK.out _ _ ?hsr1_11 (fun hH2=>?hrr1_11)
 case hsr1_11=>exact S2i0 (by have hG:=hH;replace hG:=S2o0 hG;(try dsimp only at hG);have q0:=hG.1;have q1:=hG.2.1;have q2:=hG.2.2.1;have q3:=hG.2.2.2.1;have q4:=hG.2.2.2.2;exact ⟨keepBd hb q0,keepVZ hb q1,keepBelow hb q2,keepCell hb q3,keepCell hb q4⟩)
 clear hK K hH
 have hH:=hH2
 clear hH2
 try simp only [Act.put,sA,sB,sC]
 refine U1 11 0 rfl (fun K hK=>?_)
 try clear hb
 go_simp
 (go_at_call 105;refine (fadd_calls ty b.py _).mono ?_;rintro e wn ⟨rfl,hb⟩)
 refine hK.out _ _ ?hsr1_12 (fun hH2=>?hrr1_12)
 case hsr1_12=>exact S2i0 (by have hG:=hH;replace hG:=S2o0 hG;(try dsimp only at hG);have q0:=hG.1;have q1:=hG.2.1;have q2:=hG.2.2.1;have q3:=hG.2.2.2.1;have q4:=hG.2.2.2.2;exact ⟨keepBd hb q0,keepVZ hb q1,keepBelow hb q2,keepCell hb q3,keepCell hb q4⟩)
 clear hK K hH
 have hH:=hH2
 clear hH2
 try simp only [Act.put,sA,sB,sC]
 refine Ut 12 22 1 0 0 (v:=?vr1_13) rfl hWr1 hH ?hyr1_13 ?_
 case hyr1_13=>(intro w' hSw;clear hSw;go_simp;try (with_reducible rfl))
 simp only [sB,sC]
 refine U1 13 1 rfl (fun K hK=>?_)
 have hG:=hH
 replace hG:=S2o0 hG;(try dsimp only at hG);have q0:=hG.1;have q1:=hG.2.1;have q2:=hG.2.2.1;have q3:=hG.2.2.2.1;have q4:=hG.2.2.2.2
 obtain ⟨⟨z0,z1,y0,y1⟩,yf⟩:=q1
 have hgt:=lt_of_cell q3
 go_simp
 refine hK.out _ _ ?hsr1_14 (fun hH2=>?hrr1_14)
 case hsr1_14=>exact S2i1
 clear hK K hH
 have hH:=hH2
 clear hH2
 try simp only [Act.put,sA,sB,sC]
 refine wpAnyU_done (by kernel_rfl) ?_ _ _
 refine NoPanic.normal ?_
 go_wp2
 refine bodyPost_ret (v:=vecV (addF tx b.px) (addF ty b.py)) (by simp [results,Tryz.results93,go_sem,y0,y1]) rfl ⟨by rw [HX.out,HY.out],by go_grown⟩
theorem bplace_calls (b:Bd) (A:Option Addr) (n c:Nat) (l:List V) (w:World) (hS:Sl w A n c l):Calls Tryz.prog 32 #[bodyV b A n c] w (RetPl (placeR b l) w):=by
 obtain ⟨W,hW⟩:∃ W,W=w.alloc (.cells #[.int .i64 b.px,.int .i64 b.py,.int .i64 b.vx,.int .i64 b.vy,.int .i64 b.ang,.int .i64 b.spin,.int .i64 b.mass,.int .i64 b.iner,.int .i64 b.bounce,.int .i64 b.rub,.slice A n c,.bool b.asleep,.int .i64 b.calm] 58):=⟨_,rfl⟩
 have HK0:=hid (show BdAt W w.heap.size b A n c by rw [hW];exact BdAt.here w b A n c _)
 have hB0:Below w.heap.size w W:=by rw [hW];go_grown
 have HS0:=hid (hS.below hB0)
 have HSW:=hid hS
 clear hS
 obtain ⟨k0,k1,k2,k3,k4,k5,k6,k7,k8,k9,k10,k11,k12,kf⟩:=HK0.out
 go_enter Tryz.func32,Tryz.ntmps32
 go_wp2_with fail
 rw [← hW]
 clear hW
 refine (bcheck_calls b A n c l _ HS0.out).mono ?_
 rintro e w0 ⟨rfl,hb0⟩
 have HK1:=hid (keepBd hb0 HK0.out)
 have HS1:=hid (keepSl hb0 HS0.out)
 have hB1:=keepBelow hb0 hB0
 clear k0 k1 k2 k3 k4 k5 k6 k7 k8 k9 k10 k11 k12 kf
 clear hb0 HK0 HS0 hB0
 by_cases hE:bodyE b l=0
 case neg =>
  have hne:(bodyE b l != 0)=true:=by simp [hE]
  have HR:Hid (placeR b l=[]):=by show _=_;unfold placeR;rw [if_pos hE]
  go_wp2
  go_returns
  exact ⟨none,0,0,rfl,by rw [HR.out];exact Sl.empty' _,fun _=>rfl,(fun bx off e=>by cases e),hB1⟩
 have HR:Hid (placeR b l=placeL b l):=by show _=_;unfold placeR;rw [if_neg (by simp [hE])]
 obtain ⟨hsh,hnu⟩:=bodyE_zero hE
 have hang:=(numE_zero hnu).2.2.2.1
 obtain ⟨h8,h3,_,_⟩:=checkE_zero (shapeE_zero hsh)
 have hn:=HS1.out.len
 subst hn
 rw [hE]
 clear hE hsh hnu
 obtain ⟨k0,k1,k2,k3,k4,k5,k6,k7,k8,k9,k10,k11,k12,kf⟩:=HK1.out
 go_wp2
 clear k0 k1 k2 k3 k4 k5 k6 k7 k8 k9 k10 k11 k12 kf
 go_loopw [3,12] (fun s i wr=>∃ k:Nat,k≤l.length∧i = .int .i64 k∧Own wr (w.heap.size+1) s (placeL b (l.take k))∧BdAt wr w.heap.size b A l.length c∧Below w.heap.size w wr) (fun _ i _=>l.length-(intOf i).toNat)
 case atStart=>exact ⟨0,Nat.zero_le _,rfl,Own.nil _ _,HK1.out,hB1⟩
 case round =>
  clear HK1 HS1 hB1
  obtain ⟨k,hk,rfl,hown,hbd,hB⟩:=hrel
  obtain ⟨wo,rfl⟩:∃ wo:World,wo=wr:=⟨_,rfl⟩
  obtain ⟨s,hs0,hown⟩:∃ s,s=_∧Own wo (w.heap.size+1) s (placeL b (l.take k)):=⟨_,rfl,hown⟩
  subst hs0
  have HO:=hid hown
  have HK:=hid hbd
  have HS:=hid (HSW.out.below hB)
  clear hown hbd
  by_cases hlt:k<l.length
  ·obtain ⟨ba, off, hA, hC⟩ := HS.out.at_ (by intro h; subst h; simp at hlt)
   subst hA
   have hx:=hC.x k hlt
   have hy:=hC.y k hlt
   have hbo:=hC.lt
   obtain ⟨wa,hwa⟩:∃ wa,wa=wo.alloc (.cells #[.int .i64 (px l k),.int .i64 (py l k)] 27):=⟨_,rfl⟩
   obtain ⟨gp,hgp⟩:∃ g,g=wo.heap.size:=⟨_,rfl⟩
   have hgl:w.heap.size<gp:=by rw [hgp];exact HK.out.lt
   have HK1:=hid (show BdAt wa w.heap.size b (some ⟨ba,off,none⟩) l.length c by rw [hwa];exact HK.out.alloc _)
   have HO1:=hid (show Own wa (w.heap.size+1) s (placeL b (l.take k)) by rw [hwa];exact HO.out.alloc _)
   have hB1:Below w.heap.size w wa:=by rw [hwa];exact hB.alloc hB.size _
   have p0:wa.cell? ⟨gp,0,none⟩=some (.int .i64 (px l k)):=by rw [hwa,hgp];go_simp
   have p1:wa.cell? ⟨gp,1,none⟩=some (.int .i64 (py l k)):=by rw [hwa,hgp];go_simp
   obtain ⟨tx,htx⟩:∃ t,t=turnX (px l k) (py l k) b.ang:=⟨_,rfl⟩
   obtain ⟨ty,hty⟩:∃ t,t=turnY (px l k) (py l k) b.ang:=⟨_,rfl⟩
   have HTC:=hid (turn_calls (px l k) (py l k) b.ang hang.1 (by omega))
   rw [← htx,← hty] at HTC
   have HTX:=hid htx
   have HTY:=hid hty
   clear hC HK HO HS hB htx hty
   go_upto_region 7 with fail
   rw [← hwa,← hgp]
   clear hwa hgp hx hy hbo
   refine wp_region_noPanic ?_
   refine wp_region_U (S:=(S2 (fun w'=>BdAt w' w.heap.size b (some ⟨ba,off,none⟩) l.length c∧Own w' (w.heap.size+1) s (placeL b (l.take k))∧w'.cell? ⟨gp,0,none⟩=some (.int .i64 (px l k))∧w'.cell? ⟨gp,1,none⟩=some (.int .i64 (py l k))∧Below w.heap.size w w'))) (T:=(fun j=>[0,0,0,0,0,0,0,0,0,1].getD j 0)) (by kernel_rfl) (S2i0 ⟨HK1.out.drew,HO1.out.drew,p0,p1,hB1.drew⟩) (fun hH=>?_)
   have hWr2:Weaker (S2 (fun w'=>BdAt w' w.heap.size b (some ⟨ba,off,none⟩) l.length c∧Own w' (w.heap.size+1) s (placeL b (l.take k))∧w'.cell? ⟨gp,0,none⟩=some (.int .i64 (px l k))∧w'.cell? ⟨gp,1,none⟩=some (.int .i64 (py l k))∧Below w.heap.size w w')):=weaker2 _
   refine Utn [(0,16),(1,17),(2,18),(3,19),(5,21),(6,22)] 5 0 0 (L':=?Lr2_1) hWr2 hH ?hyr2_1 ?_
   case hyr2_1=>((iterate 6 apply tkC;rfl;kernel_rfl;intro w' hSw;replace hSw:=S2o0 hSw;(try dsimp only at hSw);have q0:=hSw.1;have q1:=hSw.2.1;have q2:=hSw.2.2.1;have q3:=hSw.2.2.2.1;have q4:=hSw.2.2.2.2;obtain ⟨qa0_0,qa0_1,qa0_2,qa0_3,qa0_4,qa0_5,qa0_6,qa0_7,qa0_8,qa0_9,qa0_10,qa0_11,qa0_12,qa0_f⟩:=id q0;(try simp only [sB,sC]);go_simp;(try with_reducible rfl));exact tkN)
   simp only [sB,sC]
   refine U1 4 0 rfl (fun K hK=>?_)
   try clear hb
   go_simp
   (go_at_call 72;refine (HTC.out _).mono ?_;rintro e wn ⟨rfl,hb⟩)
   refine hK.out _ _ ?hsr2_7 (fun hH2=>?hrr2_7)
   case hsr2_7=>exact S2i0 (by have hG:=hH;replace hG:=S2o0 hG;(try dsimp only at hG);have q0:=hG.1;have q1:=hG.2.1;have q2:=hG.2.2.1;have q3:=hG.2.2.2.1;have q4:=hG.2.2.2.2;exact ⟨keepBd hb q0,keepOwn hb q1,keepCell hb q2,keepCell hb q3,keepBelow hb q4⟩)
   clear hK K hH
   have hH:=hH2
   clear hH2
   try simp only [Act.put,sA,sB,sC]
   refine U1 7 0 rfl (fun K hK=>?_)
   try clear hb
   go_simp
   (go_at_call 55;refine (vadd_calls tx ty b.px b.py _).mono ?_;rintro e wn ⟨rfl,hb⟩)
   refine hK.out _ _ ?hsr2_8 (fun hH2=>?hrr2_8)
   case hsr2_8=>exact S2i0 (by have hG:=hH;replace hG:=S2o0 hG;(try dsimp only at hG);have q0:=hG.1;have q1:=hG.2.1;have q2:=hG.2.2.1;have q3:=hG.2.2.2.1;have q4:=hG.2.2.2.2;exact ⟨keepBd hb q0,keepOwn hb q1,keepCell hb q2,keepCell hb q3,keepBelow hb q4⟩)
   clear hK K hH
   have hH:=hH2
   clear hH2
   try simp only [Act.put,sA,sB,sC]
   refine U1 8 0 rfl (fun K hK=>?_)
   try clear hb
   have hG:=hH
   replace hG:=S2o0 hG;(try dsimp only at hG);have q0:=hG.1;have q1:=hG.2.1;have q2:=hG.2.2.1;have q3:=hG.2.2.2.1;have q4:=hG.2.2.2.2
   go_simp
   refine hK.out _ _ ?hsr2_9 (fun hH2=>?hrr2_9)
   case hsr2_9=>exact S2i0 (by have hG:=hH;replace hG:=S2o0 hG;(try dsimp only at hG);have q0:=hG.1;have q1:=hG.2.1;have q2:=hG.2.2.1;have q3:=hG.2.2.2.1;have q4:=hG.2.2.2.2;exact ⟨q0.alloc _,q1.alloc _,keepCell Ba q2,keepCell Ba q3,q4.alloc q4.size _⟩)
   clear hK K hH
   have hH:=hH2
   clear hH2
   try simp only [Act.put,sA,sB,sC]
   have hT:Cells (wn.alloc (.cells #[.int .i64 (addF tx b.px),.int .i64 (addF ty b.py)] 27)) wn.heap.size 0 [(addF tx b.px,addF ty b.py)]:=cells_one (by go_simp) (by go_simp)
   obtain ⟨gT,hgT⟩:∃ g,g=wn.heap.size:=⟨_,rfl⟩
   have hlT:w.heap.size<gT:=by rw [hgT];exact q0.lt
   rw [← hgT] at hT
   try rw [← hgT]
   clear hgT q0 q1 q2 q3 q4
   generalize wn.alloc (.cells #[.int .i64 (addF tx b.px),.int .i64 (addF ty b.py)] 27)=wx8 at *
   refine U1 9 1 rfl (fun K hK=>?_)
   have hG:=hH
   replace hG:=S2o0 hG;(try dsimp only at hG);have q0:=hG.1;have q1:=hG.2.1;have q2:=hG.2.2.1;have q3:=hG.2.2.2.1;have q4:=hG.2.2.2.2
   have hbs:=q0.lt
   (refine step_append_vecs (by rfl) _ _ (by rfl) (w.heap.size+1) s (placeL b (l.take k)) (by rfl) q1 gT 0 1 1 [(addF tx b.px,addF ty b.py)] (by rfl) rfl hT (by rw [placeL_len,List.length_take,List.length_singleton];omega) (by omega) ?_;intro v' w1 ho1 hg1;have HO1:=hid ho1;have hb1:=Own.grown q1 hg1 (by omega);clear ho1 hg1)
   refine hK.out _ _ ?hsr2_10 (fun hH2=>?hrr2_10)
   case hsr2_10=>exact S2i1
   clear hK K hH
   have hH:=hH2
   clear hH2
   try simp only [Act.put,List.getElem_toArray,List.getElem_cons_succ,List.getElem_cons_zero,List.setIfInBounds_toArray,List.set_cons_zero,List.set_cons_succ]
   refine Ut 10 3 0 1 1 (v:=?vr2_11) rfl hWr2 hH ?hyr2_11 ?_
   case hyr2_11=>(intro w' hSw;clear hSw;go_simp;try (with_reducible rfl))
   simp only [sB,sC]
   refine wpAnyU_done (by kernel_rfl) ?_ _ _
   refine NoPanic.normal ?_
   have hBn:Below w.heap.size w w1:=q4.trans (hb1.mono (by omega))
   have HKn:=hid (keepBdB hb1 (by omega) q0)
   clear hH hG q0 q1 q2 q3 q4
   go_wp2
   go_roundw
   case rel =>
    refine ⟨k+1,hlt,by go_num,?_,HKn.out,hBn⟩
    have:=HO1.out
    rw [HTX.out,HTY.out] at this
    rw [List.take_succ_eq_append_getElem hlt,placeL,List.map_append,List.map_singleton,px_lt hlt]
    exact this
   case measure=>simp [intOf];omega
  ·have hge : l.length ≤ k := by omega
   obtain ⟨A',n',c',rfl,hs,hf⟩:=HO.out.sl
   have H2:Hid (Sl wo A' n' c' (placeL b l)):=by rwa [List.take_of_length_le hge] at hs
   have HF:=hid hf
   clear hs hf HO HK HS
   go_wp2
   go_returns
   exact ⟨_,_,_,rfl,by rw [HR.out];exact H2.out,fun h=>by rw [HR.out] at h;have:=congrArg List.length h;rw [placeL_len] at this;simp at this;subst this;simp at h3,(fun bx off e=>by have:=HF.out bx off e;omega),hB⟩
end
end Go.Proofs.YtiaoandbdgdecaaGreat
