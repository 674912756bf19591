/- Parts of a proof: contracts and laws. -/
import Derived.Test.YtodpincpofoiiaaGreatQI10
import Derived.Test.YtodpincpofoiiaaGreatQI19
import Derived.Test.YtodpincpofoiiaaGreatQI03
set_option maxRecDepth 100000
set_option maxHeartbeats 16000000
namespace Go.Proofs.YtodpincpofoiiaaGreat
section
set_option linter.unusedVariables false
set_option linter.unusedSimpArgs false
open Go.RowKit

structure BxAt (w : World) (g : Nat) (x y u v : Int) : Prop where
 c0:w.cell? ⟨g,0,none⟩=some (.int .i64 x)
 c1:w.cell? ⟨g,1,none⟩=some (.int .i64 y)
 c2:w.cell? ⟨g,2,none⟩=some (.int .i64 u)
 c3:w.cell? ⟨g,3,none⟩=some (.int .i64 v)
 free:∀ j,w.frozen? ⟨g,j,none⟩=false
theorem BxAt.lt {w:World} {g:Nat} {x y u v:Int} (h:BxAt w g x y u v):g<w.heap.size:=lt_of_cell h.c0
theorem keepBx {w w':World} {g:Nat} {x y u v:Int} (hb:Below w.heap.size w w') (h:BxAt w g x y u v):BxAt w' g x y u v :=
 ⟨keepCell hb h.c0,keepCell hb h.c1,keepCell hb h.c2,keepCell hb h.c3,fun j=>((bcell hb).2 _ _ h.lt).trans (h.free j)⟩
theorem B4.far {w:World} {g:Nat} (h:B4 w g) (k o:Nat) (v:Value) (hne:k≠g):B4 (w.setCell ⟨k,o,none⟩ v) g:=by
 obtain ⟨⟨x,y,z,u,h0,h1,h2,h3⟩,hf⟩:=h
 exact ⟨⟨x,y,z,u,far1 hne h0,far1 hne h1,far1 hne h2,far1 hne h3⟩,fun j=>by rw [World.frozen?_setCell];exact hf j⟩
theorem getD_xs {l:List V} {k:Nat} (h:k<l.length):(xsL l).getD k 0=px l k:=by simp [xsL,px,h]
theorem getD_ys {l:List V} {k:Nat} (h:k<l.length):(ysL l).getD k 0=py l k:=by simp [ysL,py,h]
theorem keepCs {w w':World} {b off:Nat} {l:List V} (hb:Below w.heap.size w w') (h:Cells w b off l):Cells w' b off l:=h.below hb
theorem Cells.drew' {w:World} {b off:Nat} {l:List V} (h:Cells w b off l):Cells w.drew b off l:=⟨h.lt,h.x,h.y⟩

def bndV (b:Bd) (l:List V):Value:=if bodyE b l≠0 then boxV 0 0 0 0 else boxV (minL (xsL (placeL b l))) (minL (ysL (placeL b l))) (maxL (xsL (placeL b l))) (maxL (ysL (placeL b l)))
theorem bbounds_calls (b:Bd) (A:Option Addr) (n c:Nat) (l:List V) (w:World) (hS:Sl w A n c l):Calls Tryz.prog 43 #[bodyV b A n c] w (Ret (bndV b l) w):=by
 obtain ⟨W,hW⟩:∃ W,W=(w.alloc (.cells #[.int .i64 b.px,.int .i64 b.py,.int .i64 b.vx,.int .i64 b.vy,.int .i64 b.ang,.int .i64 b.spin,.int .i64 b.mass,.int .i64 b.iner,.int .i64 b.bounce,.int .i64 b.rub,.slice A n c,.bool b.asleep,.int .i64 b.calm] 27)).alloc (.cells #[.int .i64 0,.int .i64 0,.int .i64 0,.int .i64 0] 83):=⟨_,rfl⟩
 have HK0:=hid (show BdAt W w.heap.size b A n c by rw [hW];exact (BdAt.here w b A n c _).alloc _)
 have HZ0:=hid (show B4 W (w.heap.size+1) by rw [hW];have:=B4.here (w.alloc (.cells #[.int .i64 b.px,.int .i64 b.py,.int .i64 b.vx,.int .i64 b.vy,.int .i64 b.ang,.int .i64 b.spin,.int .i64 b.mass,.int .i64 b.iner,.int .i64 b.bounce,.int .i64 b.rub,.slice A n c,.bool b.asleep,.int .i64 b.calm] 27)) 0 0 0 0 83;simpa using this)
 have hB0:Below w.heap.size w W:=by rw [hW];go_grown
 have HS0:=hid (hS.below hB0)
 clear hS
 obtain ⟨k0,k1,k2,k3,k4,k5,k6,k7,k8,k9,k10,k11,k12,kf⟩:=HK0.out
 go_enter Tryz.func43,Tryz.ntmps43
 go_wp2_with fail
 rw [← hW]
 clear hW
 refine (bplace_calls b A n c l _ HS0.out).mono ?_
 rintro e w1 ⟨A1,n1,c1,rfl,hs1,hnil,_,hb1⟩
 have HZ1:=hid (keepB4 hb1 HZ0.out)
 have hB1:=keepBelow hb1 hB0
 have hcmp:∀ w':World,(binOp .eql 25 (.slice A1 n1 c1) (.slice none 0 0)).run Tryz.prog w' = .ok (.bool A1.isNone) w':=fun w'=>Lib.run_eql_slice_nil w' 25 _ A1 n1 c1 0 0 Tryz.underlying25
 clear k0 k1 k2 k3 k4 k5 k6 k7 k8 k9 k10 k11 k12 kf
 clear HK0 HZ0 hB0 HS0 hb1
 by_cases hE:bodyE b l=0
 case neg =>
  have hA:A1=none:=hnil (by unfold placeR;rw [if_pos hE])
  subst hA
  have HR:Hid (bndV b l=boxV 0 0 0 0):=by show _=_;unfold bndV;rw [if_pos hE]
  obtain ⟨⟨z0,z1,z2,z3,y0,y1,y2,y3⟩,yf⟩:=HZ1.out
  clear hs1 hnil hE HZ1
  go_wp2
  refine bodyPost_ret (v:=boxV 0 0 0 0) (by simp [results,Tryz.results43,go_sem,y0,y1,y2,y3]) rfl ⟨by rw [HR.out],by go_grown⟩
 have HR:Hid (bndV b l=boxV (minL (xsL (placeL b l))) (minL (ysL (placeL b l))) (maxL (xsL (placeL b l))) (maxL (ysL (placeL b l)))):=by show _=_;unfold bndV;rw [if_neg (by simp [hE])]
 have h3:3≤l.length∧l.length≤8:=by
  obtain ⟨hsh,hnu⟩:=bodyE_zero hE
  obtain ⟨h8,h3,_,_⟩:=checkE_zero (shapeE_zero hsh)
  exact ⟨h3,h8⟩
 have hpl:placeR b l=placeL b l:=by unfold placeR;rw [if_neg (by simp [hE])]
 rw [hpl] at hs1
 obtain ⟨L,hL⟩:∃ L,L=placeL b l:=⟨_,rfl⟩
 have hLl:L.length=l.length:=by rw [hL,placeL_len]
 rw [← hL] at hs1 HR
 clear hnil hpl hE hL
 have hn:=hs1.len
 subst hn
 have hcap:=hs1.cap
 have hbig:=hs1.big
 obtain ⟨ba,off,hA,hC⟩:=hs1.at_ (by intro h;subst h;simp at hLl;omega)
 subst hA
 have hx0:=hC.x 0 (by omega)
 have hy0:=hC.y 0 (by omega)
 rw [Nat.zero_mul,Nat.add_zero] at hx0 hy0
 have e1:(0:Int)<(L.length:Int):=by omega
 have e2:(1:Int)≤(L.length:Int):=by omega
 have e3:(1:Int)≤(c1:Int):=by omega
 have e4:¬ c1=1:=by omega
 have e5:0<L.length:=by omega
 have e6:1≤L.length:=by omega
 have e7:1≤c1:=by omega
 have e8:L.length≤c1:=hcap
 have HL8:Hid (L.length≤8):=by show _≤_;omega
 clear hLl h3
 go_upto_region 4 with fail
 have HC1:=hid hC
 go_cut [4] from 12 to 18 (fun t wx=>∃ gT:Nat,t = .pointer (some ⟨gT,0,none⟩)∧w.heap.size+1<gT∧ba<gT∧BxAt wx gT (px L 0) (py L 0) (px L 0) (py L 0)∧B4 wx (w.heap.size+1)∧Cells wx ba off L∧Below w.heap.size w wx)
 case first =>
  refine wp_region_noPanic ?_
  refine wp_region_U (S:=(S2 (fun w'=>w'.cell? ⟨ba,off,none⟩=some (.int .i64 (px L 0))∧w'.cell? ⟨ba,off+1,none⟩=some (.int .i64 (py L 0))∧B4 w' (w.heap.size+1)∧Cells w' ba off L∧Below w.heap.size w w'))) (T:=(fun j=>[0,0,0,0,0,0,0,0,1].getD j 0)) (by kernel_rfl) (S2i0 ⟨hx0,hy0,HZ1.out.drew,HC1.out.drew',hB1.drew⟩) (fun hH=>?_)
  have hWr1:Weaker (S2 (fun w'=>w'.cell? ⟨ba,off,none⟩=some (.int .i64 (px L 0))∧w'.cell? ⟨ba,off+1,none⟩=some (.int .i64 (py L 0))∧B4 w' (w.heap.size+1)∧Cells w' ba off L∧Below w.heap.size w w')):=weaker2 _
  refine Utn [(0,12),(1,13),(2,14),(3,15),(4,16),(5,17),(6,18)] 2 0 0 (L':=?Lr1_1) hWr1 hH ?hyr1_1 ?_
  case hyr1_1=>((iterate 7 apply tkC;rfl;kernel_rfl;intro w' hSw;replace hSw:=S2o0 hSw;(try dsimp only at hSw);have q0:=hSw.1;have q1:=hSw.2.1;have q2:=hSw.2.2.1;have q3:=hSw.2.2.2.1;have q4:=hSw.2.2.2.2;(try simp only [sB,sC]);go_simp;(try with_reducible rfl));exact tkN)
  simp only [sB,sC]
  refine U1 7 0 rfl (fun K hK=>?_)
  try clear hb
  have hG:=hH
  replace hG:=S2o0 hG;(try dsimp only at hG);have q0:=hG.1;have q1:=hG.2.1;have q2:=hG.2.2.1;have q3:=hG.2.2.2.1;have q4:=hG.2.2.2.2
  go_simp
  refine hK.out _ _ ?hsr1_8 (fun hH2=>?hrr1_8)
  case hsr1_8=>exact S2i0 (by have hG:=hH;replace hG:=S2o0 hG;(try dsimp only at hG);have q0:=hG.1;have q1:=hG.2.1;have q2:=hG.2.2.1;have q3:=hG.2.2.2.1;have q4:=hG.2.2.2.2;exact ⟨keepCell Ba q0,keepCell Ba q1,q2.alloc _,keepCs Ba q3,q4.alloc q4.size _⟩)
  clear hK K hH
  have hH:=hH2
  clear hH2
  try simp only [Act.put,sA,sB,sC]
  have hT:B4 ((w1.alloc (.cells #[.int .i64 0,.int .i64 0,.int .i64 0,.int .i64 0] 83)).drew) w1.heap.size:=B4.drew (B4.here _ _ _ _ _ _)
  obtain ⟨gT,hgT⟩:∃ g,g=w1.heap.size:=⟨_,rfl⟩
  have hlT:w.heap.size+1<gT∧ba<gT:=by rw [hgT];exact ⟨q2.lt,lt_of_cell q0⟩
  rw [← hgT] at hT
  try rw [← hgT]
  clear hgT q0 q1 q2 q3 q4
  generalize (w1.alloc (.cells #[.int .i64 0,.int .i64 0,.int .i64 0,.int .i64 0] 83)).drew=wx7 at *
  refine U1 8 1 rfl (fun K hK=>?_)
  have hG:=hH
  replace hG:=S2o0 hG;(try dsimp only at hG);have q0:=hG.1;have q1:=hG.2.1;have q2:=hG.2.2.1;have q3:=hG.2.2.2.1;have q4:=hG.2.2.2.2
  obtain ⟨⟨z0,z1,z2,z3,y0,y1,y2,y3⟩,yf⟩:=hT
  obtain ⟨hl1,hl2⟩:=hlT
  go_simp
  refine hK.out _ _ ?hsr1_9 (fun hH2=>?hrr1_9)
  case hsr1_9=>exact S2i1
  clear hK K hH
  have hH:=hH2
  clear hH2
  try simp only [Act.put,sA,sB,sC]
  refine wpAnyU_done (by kernel_rfl) ?_ _ _
  refine NoPanic.normal ?_
  go_wp2_with fail
  go_meet
  refine ⟨gT,rfl,hl1,hl2,⟨by go_simp,by go_simp,by go_simp,by go_simp,fun j=>by rw [World.frozen?_setCell,World.frozen?_setCell,World.frozen?_setCell,World.frozen?_setCell];exact yf j⟩,(((q2.far _ _ _ (by omega)).far _ _ _ (by omega)).far _ _ _ (by omega)).far _ _ _ (by omega),(((q3.grown (grown_setCell _ gT _ _) (by omega)).grown (grown_setCell _ gT _ _) (by omega)).grown (grown_setCell _ gT _ _) (by omega)).grown (grown_setCell _ gT _ _) (by omega),by go_grown⟩
 case rest =>
  obtain ⟨gT,rfl,hgT,hgb,hbx,hb4,hcl,hBc⟩:=hcut
  have HX:=hid hbx
  have HZ:=hid hb4
  have HC:=hid hcl
  clear hbx hb4 hcl HZ1 hB1 hx0 hy0 hC hs1 HC1
  go_wp2
  obtain ⟨m,hm⟩:∃ m,m=L.length-1:=⟨_,rfl⟩
  rw [← hm]
  have HM:Hid (L.length=m+1):=by show _=_;omega
  have hm8:m≤8:=by have:=HL8.out;omega
  clear hm hcmp e1 e2 e3 e4 e5 e6 e7 e8
  go_loopw [22] (fun i wr=>∃ k:Nat,k≤m∧i = .int .i64 k∧BxAt wr gT (minTo (xsL L) k) (minTo (ysL L) k) (maxTo (xsL L) k) (maxTo (ysL L) k)∧B4 wr (w.heap.size+1)∧Cells wr ba off L∧Below w.heap.size w wr) (fun i _=>m-(intOf i).toNat)
  case atStart =>
   refine ⟨0,Nat.zero_le _,rfl,?_,HZ.out,HC.out,hBc⟩
   have e0:0<L.length:=by have:=HM.out;omega
   have x0:(xsL L).getD 0 0=px L 0:=getD_xs e0
   have y0:(ysL L).getD 0 0=py L 0:=getD_ys e0
   simp only [minTo,maxTo,x0,y0]
   exact HX.out
  case round =>
   clear HX HZ HC hBc
   obtain ⟨k,hk,rfl,hbx,hb4,hcl,hB⟩:=hrel
   obtain ⟨wo,rfl⟩:∃ wo:World,wo=wr:=⟨_,rfl⟩
   have HX:=hid hbx
   have HZ:=hid hb4
   have HC:=hid hcl
   clear hbx hb4 hcl
   by_cases hlt:k<m
   ·have hk1 : k + 1 < L.length := by have := HM.out; omega
    have hx:wo.cell? ⟨ba,off+2+k*2,none⟩=some (.int .i64 (px L (k+1))):=by have:=HC.out.x (k+1) hk1;rwa [show off+(k+1)*2=off+2+k*2 by omega] at this
    have hy:wo.cell? ⟨ba,off+2+k*2+1,none⟩=some (.int .i64 (py L (k+1))):=by have:=HC.out.y (k+1) hk1;rwa [show off+(k+1)*2+1=off+2+k*2+1 by omega] at this
    have hbo:=HC.out.lt
    obtain ⟨wa,hwa⟩:∃ wa,wa=wo.alloc (.cells #[.int .i64 (px L (k+1)),.int .i64 (py L (k+1))] 24):=⟨_,rfl⟩
    obtain ⟨gp,hgp⟩:∃ g,g=wo.heap.size:=⟨_,rfl⟩
    have hgl:gT<gp:=by rw [hgp];exact HX.out.lt
    have hbA:Below wo.heap.size wo wa:=by rw [hwa];exact (Below.refl _ _).alloc (Nat.le_refl _) _
    have HX1:=hid (keepBx hbA HX.out)
    have HZ1:=hid (keepB4 hbA HZ.out)
    have HC1:=hid (keepCs hbA HC.out)
    have hB1:=keepBelow hbA hB
    have p0:wa.cell? ⟨gp,0,none⟩=some (.int .i64 (px L (k+1))):=by rw [hwa,hgp];go_simp
    have p1:wa.cell? ⟨gp,1,none⟩=some (.int .i64 (py L (k+1))):=by rw [hwa,hgp];go_simp
    obtain ⟨u,hu⟩:∃ u,u=px L (k+1):=⟨_,rfl⟩
    obtain ⟨v,hv⟩:∃ v,v=py L (k+1):=⟨_,rfl⟩
    obtain ⟨a1,ha1⟩:∃ a,a=minTo (xsL L) k:=⟨_,rfl⟩
    obtain ⟨a2,ha2⟩:∃ a,a=minTo (ysL L) k:=⟨_,rfl⟩
    obtain ⟨a3,ha3⟩:∃ a,a=maxTo (xsL L) k:=⟨_,rfl⟩
    obtain ⟨a4,ha4⟩:∃ a,a=maxTo (ysL L) k:=⟨_,rfl⟩
    obtain ⟨q1,hq1⟩:∃ q,q=mnI a1 u:=⟨_,rfl⟩
    obtain ⟨q2,hq2⟩:∃ q,q=mnI a2 v:=⟨_,rfl⟩
    obtain ⟨q3,hq3⟩:∃ q,q=mxI a3 u:=⟨_,rfl⟩
    obtain ⟨q4,hq4⟩:∃ q,q=mxI a4 v:=⟨_,rfl⟩
    have HQ1:Hid (minTo (xsL L) (k+1)=q1):=by show _=_;rw [minTo,getD_xs hk1,hq1,ha1,hu]
    have HQ2:Hid (minTo (ysL L) (k+1)=q2):=by show _=_;rw [minTo,getD_ys hk1,hq2,ha2,hv]
    have HQ3:Hid (maxTo (xsL L) (k+1)=q3):=by show _=_;rw [maxTo,getD_xs hk1,hq3,ha3,hu]
    have HQ4:Hid (maxTo (ysL L) (k+1)=q4):=by show _=_;rw [maxTo,getD_ys hk1,hq4,ha4,hv]
    have hr1:∀ (ts:Array TypeId) (t:TypeId) (w:World),(Builtin.min_ ts t #[.int .i64 a1,.int .i64 u]).run Tryz.prog w = .ok (.int .i64 q1) w:=fun ts t w=>by rw [run_min_int2,hq1];rfl
    have hr2:∀ (ts:Array TypeId) (t:TypeId) (w:World),(Builtin.min_ ts t #[.int .i64 a2,.int .i64 v]).run Tryz.prog w = .ok (.int .i64 q2) w:=fun ts t w=>by rw [run_min_int2,hq2];rfl
    have hr3:∀ (ts:Array TypeId) (t:TypeId) (w:World),(Builtin.max_ ts t #[.int .i64 a3,.int .i64 u]).run Tryz.prog w = .ok (.int .i64 q3) w:=fun ts t w=>by rw [run_max_int2,hq3];rfl
    have hr4:∀ (ts:Array TypeId) (t:TypeId) (w:World),(Builtin.max_ ts t #[.int .i64 a4,.int .i64 v]).run Tryz.prog w = .ok (.int .i64 q4) w:=fun ts t w=>by rw [run_max_int2,hq4];rfl
    rw [← ha1,← ha2,← ha3,← ha4] at HX1
    have bx0:=HX1.out.c0
    have bx1:=HX1.out.c1
    have bx2:=HX1.out.c2
    have bx3:=HX1.out.c3
    have bxf:=HX1.out.free
    clear hq1 hq2 hq3 hq4 ha1 ha2 ha3 ha4 HX HZ HC hB hbA
    go_upto_region 8 with fail
    rw [← hwa,← hgp]
    rw [← hu] at p0
    rw [← hv] at p1
    clear hwa hgp hx hy hbo hu hv
    have n1:¬ gp=gT:=by omega
    have n2:¬ gT=gp:=by omega
    go_wp2
    have HXn:Hid (BxAt ((((wa.setCell ⟨gT,0,none⟩ (.int .i64 q1)).setCell ⟨gT,1,none⟩ (.int .i64 q2)).setCell ⟨gT,2,none⟩ (.int .i64 q3)).setCell ⟨gT,3,none⟩ (.int .i64 q4)) gT q1 q2 q3 q4) :=
     ⟨by go_simp,by go_simp,by go_simp,by go_simp,fun j=>by rw [World.frozen?_setCell,World.frozen?_setCell,World.frozen?_setCell,World.frozen?_setCell];exact bxf j⟩
    have HZn:=hid ((((HZ1.out.far gT 0 (.int .i64 q1) (by omega)).far gT 1 (.int .i64 q2) (by omega)).far gT 2 (.int .i64 q3) (by omega)).far gT 3 (.int .i64 q4) (by omega))
    have HCn:=hid ((((HC1.out.grown (grown_setCell _ gT 0 (.int .i64 q1)) (by omega)).grown (grown_setCell _ gT 1 (.int .i64 q2)) (by omega)).grown (grown_setCell _ gT 2 (.int .i64 q3)) (by omega)).grown (grown_setCell _ gT 3 (.int .i64 q4)) (by omega))
    have hBn:Below w.heap.size w ((((wa.setCell ⟨gT,0,none⟩ (.int .i64 q1)).setCell ⟨gT,1,none⟩ (.int .i64 q2)).setCell ⟨gT,2,none⟩ (.int .i64 q3)).setCell ⟨gT,3,none⟩ (.int .i64 q4)):=by go_grown
    clear bx0 bx1 bx2 bx3 bxf p0 p1 hr1 hr2 hr3 hr4 HX1 HZ1 HC1
    go_roundw
    case rel=>exact ⟨k+1,hlt,by go_num,by rw [HQ1.out,HQ2.out,HQ3.out,HQ4.out];exact HXn.out,HZn.out,HCn.out,hBn⟩
    case measure=>simp [intOf];omega
   ·have hke : k = m := by omega
    subst hke
    have hlen:∀ l:List V,(xsL l).length-1=l.length-1:=fun l=>by rw [xsL_len]
    have HRR:Hid (bndV b l=boxV (minTo (xsL L) k) (minTo (ysL L) k) (maxTo (xsL L) k) (maxTo (ysL L) k)):=by
     show _=_
     rw [HR.out]
     unfold minL maxL
     rw [xsL_len,ysL_len,show L.length-1=k by have:=HM.out;omega]
    generalize minTo (xsL L) k=a1 at *
    generalize minTo (ysL L) k=a2 at *
    generalize maxTo (xsL L) k=a3 at *
    generalize maxTo (ysL L) k=a4 at *
    have bx0:=HX.out.c0
    have bx1:=HX.out.c1
    have bx2:=HX.out.c2
    have bx3:=HX.out.c3
    obtain ⟨⟨z0,z1,z2,z3,y0,y1,y2,y3⟩,yf⟩:=HZ.out
    clear HX HZ HC hlen HR
    go_wp2
    refine bodyPost_ret (v:=boxV a1 a2 a3 a4) (by simp [results,Tryz.results43,go_sem,y0,y1,y2,y3]) rfl ⟨by rw [HRR.out],by go_grown⟩
end
end Go.Proofs.YtodpincpofoiiaaGreat
