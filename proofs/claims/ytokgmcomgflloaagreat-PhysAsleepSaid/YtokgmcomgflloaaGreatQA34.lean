/- Parts of a proof: contracts and laws. -/
import Derived.Test.YtokgmcomgflloaaGreatQA08
import Derived.Test.YtokgmcomgflloaaGreatQA13
import Derived.Test.YtokgmcomgflloaaGreatQA02
import Derived.Test.YtokgmcomgflloaaGreatQA27
import Derived.Test.YtokgmcomgflloaaGreatQA33
import Derived.Laws.StructEq
set_option maxRecDepth 100000
set_option maxHeartbeats 16000000
namespace Go.Proofs.YtokgmcomgflloaaGreat
section
set_option linter.unusedVariables false
set_option linter.unusedSimpArgs false
open Go.RowKit
variable {w0 w w':World}

structure Gq (w : World) (g : Nat) (x y u v : Int) : Prop where
 c0:w.cell? ⟨g,0,none⟩=some (.int .i64 x)
 c1:w.cell? ⟨g,1,none⟩=some (.int .i64 y)
 c2:w.cell? ⟨g,2,none⟩=some (.int .i64 u)
 c3:w.cell? ⟨g,3,none⟩=some (.int .i64 v)
 free:∀ j,w.frozen? ⟨g,j,none⟩=false
theorem Gq.lt {g:Nat} {x y u v:Int} (h:Gq w g x y u v):g<w.heap.size:=lt_of_cell h.c0
theorem OC {g:Nat} {x y u v:Int} (hb:Below w.heap.size w w') (h:Gq w g x y u v):Gq w' g x y u v :=
 ⟨keepCell hb h.c0,keepCell hb h.c1,keepCell hb h.c2,keepCell hb h.c3,fun j=>((dF hb).2 _ _ h.lt).trans (h.free j)⟩
theorem B4.far {g:Nat} (h:B4 w g) (k o:Nat) (v:Value) (hne:k≠g):B4 (w.setCell ⟨k,o,none⟩ v) g:=by
 obtain ⟨⟨x,y,z,u,h0,h1,h2,h3⟩,hf⟩:=h;exact ⟨⟨x,y,z,u,aY hne h0,aY hne h1,aY hne h2,aY hne h3⟩,fun j=>by rw [World.frozen?_setCell];exact hf j⟩
theorem BR {l:List V} {k:Nat} (h:k<l.length):(wK l).getD k 0=px l k:=by simp [wK,px,h]
theorem AV {l:List V} {k:Nat} (h:k<l.length):(xG l).getD k 0=py l k:=by simp [xG,py,h]
theorem JL {b off:Nat} {l:List V} (hb:Below w.heap.size w w') (h:Cells w b off l):Cells w' b off l:=h.below hb
theorem Cells.drew' {b off:Nat} {l:List V} (h:Cells w b off l):Cells w.drew b off l:=⟨h.lt,h.x,h.y⟩

def yQ (b:Bd) (l:List V):Value:=if aT b l≠0 then EG 0 0 0 0 else EG (Av (wK (dO b l))) (Av (xG (dO b l))) (BP (wK (dO b l))) (BP (xG (dO b l)))
theorem mM (b:Bd) (A:Option Addr) (n c:Nat) (l:List V) (w:World) (hS:Sl w A n c l):Calls Tryz.prog 28 #[dK b A n c] w (dG (yQ b l) w):=by
 obtain ⟨W,hW⟩:∃ W,W=(w.alloc (.cells #[.int .i64 b.px,.int .i64 b.py,.int .i64 b.vx,.int .i64 b.vy,.int .i64 b.ang,.int .i64 b.spin,.int .i64 b.mass,.int .i64 b.iner,.int .i64 b.bounce,.int .i64 b.rub,.slice A n c,.bool b.asleep,.int .i64 b.calm] 27)).alloc (.cells #[.int .i64 0,.int .i64 0,.int .i64 0,.int .i64 0] 64):=⟨_,rfl⟩;have HK0:=hid (show aL W w.heap.size b A n c by rw [hW];exact (aL.here w b A n c _).alloc _);have HZ0:=hid (show B4 W (w.heap.size+1) by rw [hW];have:=B4.here (w.alloc (.cells #[.int .i64 b.px,.int .i64 b.py,.int .i64 b.vx,.int .i64 b.vy,.int .i64 b.ang,.int .i64 b.spin,.int .i64 b.mass,.int .i64 b.iner,.int .i64 b.bounce,.int .i64 b.rub,.slice A n c,.bool b.asleep,.int .i64 b.calm] 27)) 0 0 0 0 64;simpa using this);have hB0:Below w.heap.size w W:=by rw [hW];go_grown
 have HS0:=hid (hS.below hB0);clear hS;obtain ⟨k0,k1,k2,k3,k4,k5,k6,k7,k8,k9,k10,k11,k12,kf⟩:=HK0.out
 go_enter Tryz.func28,Tryz.ntmps28
 go_wp2_with fail
 rw [← hW];clear hW;refine (oF b A n c l _ HS0.out).mono ?_;rintro e w1 ⟨A1,n1,c1,rfl,hs1,hnil,_,hb1⟩;have HZ1:=hid (Fe hb1 HZ0.out);have hB1:=aj hb1 hB0;have hcmp:∀ w':World,(binOp .eql 25 (.slice A1 n1 c1) (.slice none 0 0)).run Tryz.prog w' = .ok (.bool A1.isNone) w':=fun w'=>Lib.run_eql_slice_nil w' 25 _ A1 n1 c1 0 0 Tryz.underlying25
 clear k0 k1 k2 k3 k4 k5 k6 k7 k8 k9 k10 k11 k12 kf;clear HK0 HZ0 hB0 HS0 hb1
 by_cases hE:aT b l=0
 case neg =>
  have hA:A1=none:=hnil (by unfold mP;rw [if_pos hE]);subst hA;have HR:Hid (yQ b l=EG 0 0 0 0):=by show _=_;unfold yQ;rw [if_pos hE]
  obtain ⟨⟨z0,z1,z2,z3,y0,y1,y2,y3⟩,yf⟩:=HZ1.out;clear hs1 hnil hE HZ1;go_wp2;refine bodyPost_ret (v:=EG 0 0 0 0) (by simp [results,Tryz.results28,go_sem,y0,y1,y2,y3]) rfl ⟨by rw [HR.out],by go_grown⟩
 have HR:Hid (yQ b l=EG (Av (wK (dO b l))) (Av (xG (dO b l))) (BP (wK (dO b l))) (BP (xG (dO b l)))):=by show _=_;unfold yQ;rw [if_neg (by simp [hE])]
 have h3:3≤l.length∧l.length≤8:=by
  obtain ⟨hsh,hnu⟩:=bJ hE;obtain ⟨h8,h3,_,_⟩:=bI (gY hsh);exact ⟨h3,h8⟩
 have hpl:mP b l=dO b l:=by unfold mP;rw [if_neg (by simp [hE])]
 rw [hpl] at hs1;obtain ⟨L,hL⟩:∃ L,L=dO b l:=⟨_,rfl⟩;have hLl:L.length=l.length:=by rw [hL,oM]
 rw [← hL] at hs1 HR;clear hnil hpl hE hL;have hn:=hs1.len;subst hn;have hcap:=hs1.cap;have hbig:=hs1.big;obtain ⟨ba,off,hA,hC⟩:=hs1.at_ (by intro h;subst h;simp at hLl;omega);subst hA;have hx0:=hC.x 0 (by omega);have hy0:=hC.y 0 (by omega);rw [Nat.zero_mul,Nat.add_zero] at hx0 hy0;have e1:(0:Int)<(L.length:Int):=by omega
 have e2:(1:Int)≤(L.length:Int):=by omega
 have e3:(1:Int)≤(c1:Int):=by omega
 have e4:¬ c1=1:=by omega
 have e5:0<L.length:=by omega
 have e6:1≤L.length:=by omega
 have e7:1≤c1:=by omega
 have e8:L.length≤c1:=hcap;have HL8:Hid (L.length≤8):=by show _≤_;omega
 clear hLl h3
 go_upto_region 4 with fail
 have HC1:=hid hC
 go_cut [4] from 12 to 18 (fun t wx=>∃ gT:Nat,t = .pointer (some ⟨gT,0,none⟩)∧w.heap.size+1<gT∧ba<gT∧Gq wx gT (px L 0) (py L 0) (px L 0) (py L 0)∧B4 wx (w.heap.size+1)∧Cells wx ba off L∧Below w.heap.size w wx)
 case first =>
  refine wp_region_noPanic ?_;refine au (S:=(S2 (fun w'=>w'.cell? ⟨ba,off,none⟩=some (.int .i64 (px L 0))∧w'.cell? ⟨ba,off+1,none⟩=some (.int .i64 (py L 0))∧B4 w' (w.heap.size+1)∧Cells w' ba off L∧Below w.heap.size w w'))) (T:=(fun j=>[0,0,0,0,0,0,0,0,1].getD j 0)) (by kernel_rfl) (aC ⟨hx0,hy0,HZ1.out.drew,HC1.out.drew',hB1.drew⟩) (fun hH=>?_);have hWr1:aH (S2 (fun w'=>w'.cell? ⟨ba,off,none⟩=some (.int .i64 (px L 0))∧w'.cell? ⟨ba,off+1,none⟩=some (.int .i64 (py L 0))∧B4 w' (w.heap.size+1)∧Cells w' ba off L∧Below w.heap.size w w')):=aK _;refine dn [(0,12),(1,13),(2,14),(3,15),(4,16),(5,17),(6,18)] 2 0 0 (L':=?Lr1_1) hWr1 hH ?hyr1_1 ?_
  case hyr1_1=>((iterate 7 apply dA;rfl;kernel_rfl;intro w' hSw;replace hSw:=aA hSw;(try dsimp only at hSw);have q0:=hSw.1;have q1:=hSw.2.1;have q2:=hSw.2.2.1;have q3:=hSw.2.2.2.1;have q4:=hSw.2.2.2.2;(try simp only [sB,sC]);go_simp;(try with_reducible rfl));exact dw)
  simp only [sB,sC];refine U1 7 0 rfl (fun K hK=>?_)
  try clear hb
  have hG:=hH;replace hG:=aA hG;(try dsimp only at hG);have q0:=hG.1;have q1:=hG.2.1;have q2:=hG.2.2.1;have q3:=hG.2.2.2.1;have q4:=hG.2.2.2.2;go_simp;refine hK.out _ _ ?hsr1_8 (fun hH2=>?hrr1_8)
  case hsr1_8=>exact aC (by have hG:=hH;replace hG:=aA hG;(try dsimp only at hG);have q0:=hG.1;have q1:=hG.2.1;have q2:=hG.2.2.1;have q3:=hG.2.2.2.1;have q4:=hG.2.2.2.2;exact ⟨keepCell Ba q0,keepCell Ba q1,q2.alloc _,JL Ba q3,q4.alloc q4.size _⟩)
  clear hK K hH;have hH:=hH2;clear hH2
  try simp only [Act.put,sA,sB,sC]
  have hT:B4 ((w1.alloc (.cells #[.int .i64 0,.int .i64 0,.int .i64 0,.int .i64 0] 64)).drew) w1.heap.size:=B4.drew (B4.here _ _ _ _ _ _);obtain ⟨gT,hgT⟩:∃ g,g=w1.heap.size:=⟨_,rfl⟩;have hlT:w.heap.size+1<gT∧ba<gT:=by rw [hgT];exact ⟨q2.lt,lt_of_cell q0⟩
  rw [← hgT] at hT
  try rw [← hgT]
  clear hgT q0 q1 q2 q3 q4;generalize (w1.alloc (.cells #[.int .i64 0,.int .i64 0,.int .i64 0,.int .i64 0] 64)).drew=wx7 at *
  refine U1 8 1 rfl (fun K hK=>?_);have hG:=hH;replace hG:=aA hG;(try dsimp only at hG);have q0:=hG.1;have q1:=hG.2.1;have q2:=hG.2.2.1;have q3:=hG.2.2.2.1;have q4:=hG.2.2.2.2;obtain ⟨⟨z0,z1,z2,z3,y0,y1,y2,y3⟩,yf⟩:=hT;obtain ⟨hl1,hl2⟩:=hlT;go_simp;refine hK.out _ _ ?hsr1_9 (fun hH2=>?hrr1_9)
  case hsr1_9=>exact dY
  clear hK K hH;have hH:=hH2;clear hH2
  try simp only [Act.put,sA,sB,sC]
  refine ak (by kernel_rfl) ?_ _ _;refine NoPanic.normal ?_
  go_wp2_with fail
  go_meet
  refine ⟨gT,rfl,hl1,hl2,⟨by go_simp,by go_simp,by go_simp,by go_simp,fun j=>by rw [World.frozen?_setCell,World.frozen?_setCell,World.frozen?_setCell,World.frozen?_setCell];exact yf j⟩,(((q2.far _ _ _ (by omega)).far _ _ _ (by omega)).far _ _ _ (by omega)).far _ _ _ (by omega),(((q3.grown (aN _ gT _ _) (by omega)).grown (aN _ gT _ _) (by omega)).grown (aN _ gT _ _) (by omega)).grown (aN _ gT _ _) (by omega),by go_grown⟩
 case rest =>
  obtain ⟨gT,rfl,hgT,hgb,hbx,hb4,hcl,hBc⟩:=hcut;have HX:=hid hbx;have HZ:=hid hb4;have HC:=hid hcl;clear hbx hb4 hcl HZ1 hB1 hx0 hy0 hC hs1 HC1;go_wp2;obtain ⟨m,hm⟩:∃ m,m=L.length-1:=⟨_,rfl⟩;rw [← hm];have HM:Hid (L.length=m+1):=by show _=_;omega
  have hm8:m≤8:=by have:=HL8.out;omega
  clear hm hcmp e1 e2 e3 e4 e5 e6 e7 e8
  go_loopw [22] (fun i wr=>∃ k:Nat,k≤m∧i = .int .i64 k∧Gq wr gT (lC (wK L) k) (lC (xG L) k) (lK (wK L) k) (lK (xG L) k)∧B4 wr (w.heap.size+1)∧Cells wr ba off L∧Below w.heap.size w wr) (fun i _=>m-(intOf i).toNat)
  case atStart =>
   refine ⟨0,Nat.zero_le _,rfl,?_,HZ.out,HC.out,hBc⟩;have e0:0<L.length:=by have:=HM.out;omega
   have x0:(wK L).getD 0 0=px L 0:=BR e0;have y0:(xG L).getD 0 0=py L 0:=AV e0;simp only [lC,lK,x0,y0];exact HX.out
  case round =>
   clear HX HZ HC hBc;obtain ⟨k,hk,rfl,hbx,hb4,hcl,hB⟩:=hrel;obtain ⟨wo,rfl⟩:∃ wo:World,wo=wr:=⟨_,rfl⟩;have HX:=hid hbx;have HZ:=hid hb4;have HC:=hid hcl;clear hbx hb4 hcl
   by_cases hlt:k<m
   ·have hk1 : k + 1 < L.length := by have := HM.out; omega
    have hx:wo.cell? ⟨ba,off+2+k*2,none⟩=some (.int .i64 (px L (k+1))):=by have:=HC.out.x (k+1) hk1;rwa [show off+(k+1)*2=off+2+k*2 by omega] at this
    have hy:wo.cell? ⟨ba,off+2+k*2+1,none⟩=some (.int .i64 (py L (k+1))):=by have:=HC.out.y (k+1) hk1;rwa [show off+(k+1)*2+1=off+2+k*2+1 by omega] at this
    have hbo:=HC.out.lt;obtain ⟨wa,hwa⟩:∃ wa,wa=wo.alloc (.cells #[.int .i64 (px L (k+1)),.int .i64 (py L (k+1))] 24):=⟨_,rfl⟩;obtain ⟨gp,hgp⟩:∃ g,g=wo.heap.size:=⟨_,rfl⟩;have hgl:gT<gp:=by rw [hgp];exact HX.out.lt
    have hbA:Below wo.heap.size wo wa:=by rw [hwa];exact (Below.refl _ _).alloc (Nat.le_refl _) _
    have HX1:=hid (OC hbA HX.out);have HZ1:=hid (Fe hbA HZ.out);have HC1:=hid (JL hbA HC.out);have hB1:=aj hbA hB;have p0:wa.cell? ⟨gp,0,none⟩=some (.int .i64 (px L (k+1))):=by rw [hwa,hgp];go_simp
    have p1:wa.cell? ⟨gp,1,none⟩=some (.int .i64 (py L (k+1))):=by rw [hwa,hgp];go_simp
    obtain ⟨u,hu⟩:∃ u,u=px L (k+1):=⟨_,rfl⟩;obtain ⟨v,hv⟩:∃ v,v=py L (k+1):=⟨_,rfl⟩;obtain ⟨a1,ha1⟩:∃ a,a=lC (wK L) k:=⟨_,rfl⟩;obtain ⟨a2,ha2⟩:∃ a,a=lC (xG L) k:=⟨_,rfl⟩;obtain ⟨a3,ha3⟩:∃ a,a=lK (wK L) k:=⟨_,rfl⟩;obtain ⟨a4,ha4⟩:∃ a,a=lK (xG L) k:=⟨_,rfl⟩;obtain ⟨q1,hq1⟩:∃ q,q=P8 a1 u:=⟨_,rfl⟩;obtain ⟨q2,hq2⟩:∃ q,q=P8 a2 v:=⟨_,rfl⟩;obtain ⟨q3,hq3⟩:∃ q,q=Qa a3 u:=⟨_,rfl⟩;obtain ⟨q4,hq4⟩:∃ q,q=Qa a4 v:=⟨_,rfl⟩;have HQ1:Hid (lC (wK L) (k+1)=q1):=by show _=_;rw [lC,BR hk1,hq1,ha1,hu]
    have HQ2:Hid (lC (xG L) (k+1)=q2):=by show _=_;rw [lC,AV hk1,hq2,ha2,hv]
    have HQ3:Hid (lK (wK L) (k+1)=q3):=by show _=_;rw [lK,BR hk1,hq3,ha3,hu]
    have HQ4:Hid (lK (xG L) (k+1)=q4):=by show _=_;rw [lK,AV hk1,hq4,ha4,hv]
    have hr1:∀ (ts:Array TypeId) (t:TypeId) (w:World),(Builtin.min_ ts t #[.int .i64 a1,.int .i64 u]).run Tryz.prog w = .ok (.int .i64 q1) w:=fun ts t w=>by rw [run_min_int2,hq1];rfl
    have hr2:∀ (ts:Array TypeId) (t:TypeId) (w:World),(Builtin.min_ ts t #[.int .i64 a2,.int .i64 v]).run Tryz.prog w = .ok (.int .i64 q2) w:=fun ts t w=>by rw [run_min_int2,hq2];rfl
    have hr3:∀ (ts:Array TypeId) (t:TypeId) (w:World),(Builtin.max_ ts t #[.int .i64 a3,.int .i64 u]).run Tryz.prog w = .ok (.int .i64 q3) w:=fun ts t w=>by rw [run_max_int2,hq3];rfl
    have hr4:∀ (ts:Array TypeId) (t:TypeId) (w:World),(Builtin.max_ ts t #[.int .i64 a4,.int .i64 v]).run Tryz.prog w = .ok (.int .i64 q4) w:=fun ts t w=>by rw [run_max_int2,hq4];rfl
    rw [← ha1,← ha2,← ha3,← ha4] at HX1;have bx0:=HX1.out.c0;have bx1:=HX1.out.c1;have bx2:=HX1.out.c2;have bx3:=HX1.out.c3;have bxf:=HX1.out.free;clear hq1 hq2 hq3 hq4 ha1 ha2 ha3 ha4 HX HZ HC hB hbA
    go_upto_region 8 with fail
    rw [← hwa,← hgp];rw [← hu] at p0;rw [← hv] at p1;clear hwa hgp hx hy hbo hu hv;have n1:¬ gp=gT:=by omega
    have n2:¬ gT=gp:=by omega
    go_wp2
    have HXn:Hid (Gq ((((wa.setCell ⟨gT,0,none⟩ (.int .i64 q1)).setCell ⟨gT,1,none⟩ (.int .i64 q2)).setCell ⟨gT,2,none⟩ (.int .i64 q3)).setCell ⟨gT,3,none⟩ (.int .i64 q4)) gT q1 q2 q3 q4) :=
     ⟨by go_simp,by go_simp,by go_simp,by go_simp,fun j=>by rw [World.frozen?_setCell,World.frozen?_setCell,World.frozen?_setCell,World.frozen?_setCell];exact bxf j⟩
    have HZn:=hid ((((HZ1.out.far gT 0 (.int .i64 q1) (by omega)).far gT 1 (.int .i64 q2) (by omega)).far gT 2 (.int .i64 q3) (by omega)).far gT 3 (.int .i64 q4) (by omega));have HCn:=hid ((((HC1.out.grown (aN _ gT 0 (.int .i64 q1)) (by omega)).grown (aN _ gT 1 (.int .i64 q2)) (by omega)).grown (aN _ gT 2 (.int .i64 q3)) (by omega)).grown (aN _ gT 3 (.int .i64 q4)) (by omega));have hBn:Below w.heap.size w ((((wa.setCell ⟨gT,0,none⟩ (.int .i64 q1)).setCell ⟨gT,1,none⟩ (.int .i64 q2)).setCell ⟨gT,2,none⟩ (.int .i64 q3)).setCell ⟨gT,3,none⟩ (.int .i64 q4)):=by go_grown
    clear bx0 bx1 bx2 bx3 bxf p0 p1 hr1 hr2 hr3 hr4 HX1 HZ1 HC1;go_roundw
    case rel=>exact ⟨k+1,hlt,by go_num,by rw [HQ1.out,HQ2.out,HQ3.out,HQ4.out];exact HXn.out,HZn.out,HCn.out,hBn⟩
    case measure=>simp [intOf];omega
   ·have hke : k = m := by omega
    subst hke;have hlen:∀ l:List V,(wK l).length-1=l.length-1:=fun l=>by rw [G6]
    have HRR:Hid (yQ b l=EG (lC (wK L) k) (lC (xG L) k) (lK (wK L) k) (lK (xG L) k)):=by
     show _=_;rw [HR.out];unfold Av BP;rw [G6,MR,show L.length-1=k by have:=HM.out;omega]
    generalize lC (wK L) k=a1 at *
    generalize lC (xG L) k=a2 at *
    generalize lK (wK L) k=a3 at *
    generalize lK (xG L) k=a4 at *
    have bx0:=HX.out.c0;have bx1:=HX.out.c1;have bx2:=HX.out.c2;have bx3:=HX.out.c3;obtain ⟨⟨z0,z1,z2,z3,y0,y1,y2,y3⟩,yf⟩:=HZ.out;clear HX HZ HC hlen HR;go_wp2;refine bodyPost_ret (v:=EG a1 a2 a3 a4) (by simp [results,Tryz.results28,go_sem,y0,y1,y2,y3]) rfl ⟨by rw [HRR.out],by go_grown⟩
theorem Hy:(Tryz.prog.info? 64).map (fun i=>(i.zero,i.size,i.bytes))=some (some (.agg #[.int .i64 0,.int .i64 0,.int .i64 0,.int .i64 0]),4,32):=by kernel_rfl
theorem JI:IY dP 62 64 32:=⟨Tryz.underlying62,by obtain ⟨i0,hi,hz0,hz1,hz2⟩:=info_parts Hy;exact ⟨i0,_,hi,hz0,hz1,hz2,rfl⟩⟩
theorem yF {b:Nat} {p:Bx} (h0:w.cell? ⟨b,0,none⟩=some (.int .i64 p.1.1)) (h1:w.cell? ⟨b,1,none⟩=some (.int .i64 p.1.2)) (h2:w.cell? ⟨b,2,none⟩=some (.int .i64 p.2.1)) (h3:w.cell? ⟨b,3,none⟩=some (.int .i64 p.2.2)):aJ dP w b 0 [p] :=
 ⟨lt_of_cell h0,fun j hj m v hv=>by
  obtain rfl:j=0:=by simpa using hj
  match m,hv with
  | 0,hv=>have e:some (Value.int .i64 p.1.1)=some v:=hv;cases e;simpa [dP] using h0
  | 1,hv=>have e:some (Value.int .i64 p.1.2)=some v:=hv;cases e;simpa [dP] using h1
  | 2,hv=>have e:some (Value.int .i64 p.2.1)=some v:=hv;cases e;simpa [dP] using h2
  | 3,hv=>have e:some (Value.int .i64 p.2.2)=some v:=hv;cases e;simpa [dP] using h3
  | m+4,hv=>simp [dP] at hv⟩
theorem FZ (args:Array Value) (w:World):(callFunc 83 args).run Tryz.prog w = .ok (.enter 83 args) w:=by kernel_rfl
theorem zo (gL:Nat) (A:Option Addr) (n c:Nat) (L:List BE) (p:Nat × Nat) (h1:p.1<L.length) (h2:p.2<L.length) (w:World) (o0:w.cell? ⟨gL,0,none⟩=some (.slice A n c)) (hS:iH w A n c L) :
  Calls Tryz.prog 83 #[.agg #[.int .i64 (p.1:Nat),.int .i64 (p.2:Nat)],.pointer (some ⟨gL,0,none⟩)] w (dG (.bool (kG L p)) w):=by
 have hn:=hS.sl.len;subst hn;have hgl:=lt_of_cell o0;obtain ⟨b,off,rfl,hC⟩:=hS.sl.at_ (by intro h;subst h;simp at h1);obtain ⟨i,k⟩:=p;dsimp only at h1 h2 ⊢;obtain ⟨x,hx⟩:∃ x,x=L[i]:=⟨_,rfl⟩;obtain ⟨y,hy⟩:∃ y,y=L[k]:=⟨_,rfl⟩;obtain ⟨x0,x1,x2,x3,x4,x5,x6,x7,x8,x9,x10,x11,x12⟩:=dD hC h1 hx;obtain ⟨y0,y1,y2,y3,y4,y5,y6,y7,y8,y9,y10,y11,y12⟩:=dD hC h2 hy;have hR:Hid (kG L (i,k)=(decide (x.b.mass=0) && decide (y.b.mass=0))):=by show _=_;unfold kG;rw [EA h1,EA h2,hx,hy]
 have hbl:=hC.lt;have hi':(i:Int)<(L.length:Int):=by omega
 have hk':(k:Int)<(L.length:Int):=by omega
 clear x0 x1 x2 x3 x4 x5 x7 x8 x9 x10 x11 x12 y0 y1 y2 y3 y4 y5 y7 y8 y9 y10 y11 y12 hx hy hS hC;generalize kG L (i,k)=z at *
 by_cases hm:x.b.mass=0
 ·by_cases hm2 : y.b.mass = 0
  ·have HR : Hid (z = true) := by show _ = _; rw [hR.out]; simp [hm, hm2]
   rw [hm] at x6;rw [hm2] at y6;clear hR hm hm2
   go_enter Tryz.func83,Tryz.ntmps83
   go_wp2
   go_returns
   exact bR (by rw [HR.out];try simp) (by go_grown)
  ·have HR : Hid (z = false) := by show _ = _; rw [hR.out]; simp [hm2]
   have hq:(y.b.mass == 0)=false:=by simp [hm2]
   rw [hm] at x6;clear hR hm hm2
   go_enter Tryz.func83,Tryz.ntmps83
   go_wp2
   go_returns
   exact bR (by rw [HR.out];try simp) (by go_grown)
 ·have HR : Hid (z = false) := by show _ = _; rw [hR.out]; simp [hm]
  have hq:(x.b.mass == 0)=false:=by simp [hm]
  clear hR hm
  go_enter Tryz.func83,Tryz.ntmps83
  go_wp2
  go_returns
  exact bR (by rw [HR.out];try simp) (by go_grown)

structure KW (w0 : World) (gb : Nat) (hd : Value) (s : Value) (o : List Bx) (w : World) : Prop where
 cb:w.cell? ⟨gb,0,none⟩=some hd
 own:aU dP 64 w (gb+1) s o
 bel:Below w0.heap.size w0 w
 le:w0.heap.size≤gb
theorem KW.keep {gb:Nat} {hd s:Value} {o:List Bx} {w w':World} (hb:Below w.heap.size w w') (h:KW w0 gb hd s o w):KW w0 gb hd s o w':=⟨keepCell hb h.cb,h.own.below hb,aj hb h.bel,h.le⟩
theorem KW.app {gb:Nat} {hd s s':Value} {o o':List Bx} {w w':World} (h:KW w0 gb hd s o w) (ho:aU dP 64 w' (gb+1) s' o') (hg:w.grownBy w' s.ownBlock):KW w0 gb hd s' o' w' :=
 ⟨hg.cell h.cb (h.own.ne (Nat.lt_succ_self gb)),ho,h.bel.grown hg h.bel.size (fun k hk=>by have:=(h.own.lt hk).1;have:=h.le;omega),h.le⟩

def yJ (L:List BE):List (Nat × Nat):=if aZ L=0 then iW L else []
def JQ (L:List BE) (w:World) (e:Ending) (w':World):Prop:=∃ A n c,e = .returned (.tuple #[.slice A n c,.int .i64 (aZ L)])∧dW bW w' A n c (yJ L)∧Below w.heap.size w w'
theorem NW {b:Bd} {l:List V} {x:BE} (hx:x.b=b) (hl:x.l=l) (h:aT b l=0):yQ b l = .agg #[.int .i64 (bxB x).1.1,.int .i64 (bxB x).1.2,.int .i64 (bxB x).2.1,.int .i64 (bxB x).2.2]:=by
 subst hx hl;unfold yQ;rw [if_neg (by simp [h])];rfl
theorem rY (A:Option Addr) (n c:Nat) (L:List BE) (w:World) (hS:iH w A n c L):Calls Tryz.prog 31 #[.slice A n c] w (JQ L w):=by
 have hn:=hS.sl.len;subst hn;have HS:=hid hS;have hcap:=hS.sl.cap;have hbig:=hS.sl.big;obtain ⟨gL,hgL⟩:∃ g,g=w.heap.size:=⟨_,rfl⟩;obtain ⟨W,hW⟩:∃ W,W=w.alloc (.cells #[.slice A L.length c] 29):=⟨_,rfl⟩;have hBW:Below w.heap.size w W:=by rw [hW];go_grown
 have HK0:Hid (KW w gL (.slice A L.length c) (.slice none 0 0) [] W):=⟨by rw [hW,hgL];go_simp,aU.nil _ _ _ _,hBW,by omega⟩;have hcb:=HK0.out.cb;have HCK:=hid (nL A L.length c L W (hS.below hBW));clear hS hBW
 go_enter Tryz.func31,Tryz.ntmps31
 go_upto_region 1 with fail
 rw [← hW,← hgL];clear hW hgL
 go_wp2_with fail
 refine HCK.out.mono ?_;rintro e w1 ⟨rfl,hb⟩;replace HK0:=hid (HK0.out.keep hb);clear HCK hb hcb;have hcb:=HK0.out.cb
 by_cases hE:aZ L=0
 case neg =>
  have HR:Hid (JQ L w (.returned (.tuple #[.slice none 0 0,.int .i64 (aZ L)])) w1):=⟨none,0,0,rfl,by unfold yJ;rw [if_neg hE];exact dW.nil _ _,HK0.out.bel⟩;have hne:(aZ L != 0)=true:=by simp [hE]
  clear HK0;generalize aZ L=z at *
  go_wp2;refine bodyPost_ret (v:=.tuple #[.slice none 0 0,.int .i64 z]) (by simp [results,Tryz.results31,go_sem]) rfl HR.out
 have HEZ:=hid hE;obtain ⟨h64,hval⟩:=eY hE;have HVAL:=hid hval;rw [hE];clear hE hval;have HN0:Hid ((L.take 0).map bxB=[]):=rfl;go_wp2
 go_loopw [5,15] (fun s j wr=>∃ k:Nat,k≤L.length∧j = .int .i64 k∧KW w gL (.slice A L.length c) s ((L.take k).map bxB) wr) (fun _ j _=>L.length-(intOf j).toNat)
 case atStart=>exact ⟨0,Nat.zero_le _,rfl,HK0.out⟩
 case round =>
  clear HK0 HN0 hcb;obtain ⟨k,hk,rfl,hkw⟩:=hrel;obtain ⟨wo,rfl⟩:∃ wo:World,wo=wr:=⟨_,rfl⟩;have HK:=hid hkw
  by_cases hlt:k<L.length
  ·obtain ⟨x, hx⟩ : ∃ x, x = L[k] := ⟨_, rfl⟩;have hlt':(k:Int)<(L.length:Int):=by omega
   have hwk:IntKind.i64.wrap ((k:Int)+1)=(k:Int)+1:=IntWalk.i64_in _ (by omega);have hmem:x ∈ L:=by rw [hx];exact List.getElem_mem hlt
   have HSO:=HS.out.below hkw.bel;obtain ⟨b,off,rfl,hC⟩:=HSO.sl.at_ (by intro h;subst h;simp at hlt);obtain ⟨x0,x1,x2,x3,x4,x5,x6,x7,x8,x9,x10,x11,x12⟩:=dD hC hlt hx;have hbl:=hC.lt;have HT:Hid ((L.take (k+1)).map bxB=(L.take k).map bxB ++ [bxB x]):=by show _=_;rw [List.take_succ_eq_append_getElem hlt,List.map_append,hx];rfl
   have HTL:Hid (((L.take k).map bxB).length≤64):=by show _≤_;rw [List.length_map,List.length_take];omega
   obtain ⟨wp,hwp⟩:∃ w',w'=wo.alloc (.cells #[.int .i64 x.b.px,.int .i64 x.b.py,.int .i64 x.b.vx,.int .i64 x.b.vy,.int .i64 x.b.ang,.int .i64 x.b.spin,.int .i64 x.b.mass,.int .i64 x.b.iner,.int .i64 x.b.bounce,.int .i64 x.b.rub,.slice x.A x.n x.c,.bool x.b.asleep,.int .i64 x.b.calm] 27):=⟨_,rfl⟩;obtain ⟨gp,hgp⟩:∃ g,g=wo.heap.size:=⟨_,rfl⟩;have hbp:Below wo.heap.size wo wp:=by rw [hwp];go_grown
   have HP:=hid (HK.out.keep hbp);have HBD:=hid (mM x.b x.A x.n x.c x.l wp ((HSO.co x hmem).below hbp));rw [NW rfl rfl (HVAL.out x hmem)] at HBD;obtain ⟨⟨⟨z0,z1⟩,z2,z3⟩,hbx⟩:∃ q,bxB x=q:=⟨_,rfl⟩;rw [hbx] at HT HBD;dsimp only at HBD;have p0:wp.cell? ⟨gp,0,none⟩=some (.int .i64 x.b.px):=by rw [hwp,hgp];go_simp
   have p1:wp.cell? ⟨gp,1,none⟩=some (.int .i64 x.b.py):=by rw [hwp,hgp];go_simp
   have p2:wp.cell? ⟨gp,2,none⟩=some (.int .i64 x.b.vx):=by rw [hwp,hgp];go_simp
   have p3:wp.cell? ⟨gp,3,none⟩=some (.int .i64 x.b.vy):=by rw [hwp,hgp];go_simp
   have p4:wp.cell? ⟨gp,4,none⟩=some (.int .i64 x.b.ang):=by rw [hwp,hgp];go_simp
   have p5:wp.cell? ⟨gp,5,none⟩=some (.int .i64 x.b.spin):=by rw [hwp,hgp];go_simp
   have p6:wp.cell? ⟨gp,6,none⟩=some (.int .i64 x.b.mass):=by rw [hwp,hgp];go_simp
   have p7:wp.cell? ⟨gp,7,none⟩=some (.int .i64 x.b.iner):=by rw [hwp,hgp];go_simp
   have p8:wp.cell? ⟨gp,8,none⟩=some (.int .i64 x.b.bounce):=by rw [hwp,hgp];go_simp
   have p9:wp.cell? ⟨gp,9,none⟩=some (.int .i64 x.b.rub):=by rw [hwp,hgp];go_simp
   have p10:wp.cell? ⟨gp,10,none⟩=some (.slice x.A x.n x.c):=by rw [hwp,hgp];go_simp
   have p11:wp.cell? ⟨gp,11,none⟩=some (.bool x.b.asleep):=by rw [hwp,hgp];go_simp
   have p12:wp.cell? ⟨gp,12,none⟩=some (.int .i64 x.b.calm):=by rw [hwp,hgp];go_simp
   generalize (L.take k).map bxB=o at *
   clear hC hkw hbp hmem HSO hx hbx HK
   go_upto_region 8 with fail
   rw [← hwp,← hgp];clear hwp hgp x0 x1 x2 x3 x4 x5 x6 x7 x8 x9 x10 x11 x12 hbl
   go_wp2_with fail
   refine HBD.out.mono ?_;rintro e w2 ⟨rfl,hb2⟩;replace HP:=hid (HP.out.keep hb2);clear hb2 HBD p0 p1 p2 p3 p4 p5 p6 p7 p8 p9 p10 p11 p12
   go_wp2_with (at_builtin;refine dS JI rfl _ _ rfl (gL+1) _ _ rfl (HP.out.own.alloc _) w2.heap.size 0 1 1 [((z0,z1),(z2,z3))] rfl rfl (yF (by go_simp) (by go_simp) (by go_simp) (by go_simp)) (by have:=HTL.out;simp;omega) (by have:=HTL.out;simp;omega) (by have:=lt_of_cell HP.out.cb;simp;omega) ?_;intro v' w7 ho1 hg1 hat;have HP7:=hid ((HP.out.keep Ba).app ho1 hg1);clear ho1 hg1 hat)
   clear HP;go_roundw
   case rel=>exact ⟨k+1,hlt,by go_num,by rw [HT.out];exact HP7.out⟩
   case measure=>simp [intOf];omega
  ·have hke : k = L.length := by omega
   subst hke;obtain ⟨sA,sn,sc,hse,hsl,-⟩:=hkw.own.sl;rw [List.take_length] at hsl;have HSP:=hid (sK sA sn sc (L.map bxB) wo hsl (by rw [List.length_map];omega));subst hse;have hbel:=hkw.bel;have HBEL:=hid hbel;have hcb:=hkw.cb;have hle:=hkw.le;clear HK hkw hsl
   go_wp2_with fail
   refine HSP.out.mono ?_;rintro e w3 ⟨s3,rfl,ho3,hb3⟩;have HB3:Hid (Below w.heap.size w w3):=aj hb3 HBEL.out;have hcb3:=keepCell hb3 hcb;have hgl3:gL<wo.heap.size:=lt_of_cell hcb
   have HDEL:=hid (D5 83 (.pointer (some ⟨gL,0,none⟩)) (fun p=>kG L p) FZ s3 (jd (L.map bxB)) wo.heap.size w3 ho3 hb3.size (by
    have h1:=(Ie (L.map bxB));rw [List.length_map] at h1;have h2:=Nat.mul_le_mul h64 h64
    omega) (fun p hp w' hb=>by
    obtain ⟨m1,m2,-⟩:=nJ.1 hp;rw [List.length_map] at m2;have hB':Below w.heap.size w w':=HB3.out.trans (hb.mono HBEL.out.size)
    exact zo gL A L.length c L p (by omega) m2 w' (((dF hb).1 _ _ hgl3).trans hcb3) (HS.out.below hB')))
   have HB3':=HB3;clear HSP hb3 hcb ho3 hbel
   go_wp2_with fail
   refine HDEL.out.mono ?_;rintro e w4 ⟨A4,n4,c4,rfl,hs4,hb4⟩;have HR:Hid (JQ L w (.returned (.tuple #[.slice A4 n4 c4,.int .i64 0])) w4):=⟨A4,n4,c4,by rw [HEZ.out],by unfold yJ;rw [if_pos HEZ.out];exact hs4,HB3.out.trans (hb4.mono HBEL.out.size)⟩;clear HDEL hs4 hb4 HB3 HB3' hcb3;go_wp2;refine bodyPost_ret (v:=.tuple #[.slice A4 n4 c4,.int .i64 0]) (by simp [results,Tryz.results31,go_sem]) rfl HR.out
structure Vb (w : World) (g : Nat) : Prop where
 c:(∃ v,w.cell? ⟨g,0,none⟩=some v)∧(∃ v,w.cell? ⟨g,1,none⟩=some v)∧(∃ v,w.cell? ⟨g,2,none⟩=some v)∧∃ v,w.cell? ⟨g,3,none⟩=some v
 f:∀ j,w.frozen? ⟨g,j,none⟩=false
theorem xg {g:Nat} (hb:Below w.heap.size w w') (h:Vb w g):Vb w' g:=by
 obtain ⟨⟨⟨v0,h0⟩,⟨v1,h1⟩,⟨v2,h2⟩,⟨v3,h3⟩⟩,hf⟩:=h;exact ⟨⟨⟨v0,keepCell hb h0⟩,⟨v1,keepCell hb h1⟩,⟨v2,keepCell hb h2⟩,⟨v3,keepCell hb h3⟩⟩,fun j=>((dF hb).2 _ _ (lt_of_cell h0)).trans (hf j)⟩
def Ec (a b:Bx):Bx:=if jD a=false∧jD b=false then ((0,0),(0,0)) else if jD a=false then b else if jD b=false then a else ((min a.1.1 b.1.1,min a.1.2 b.1.2),(max a.2.1 b.2.1,max a.2.2 b.2.2))
theorem Ef (a1 a2 a3 a4 b1 b2 b3 b4:Int) (w:World):Calls Tryz.prog 120 #[Js ((a1,a2),(a3,a4)),Js ((b1,b2),(b3,b4))] w (dG (Js (Ec ((a1,a2),(a3,a4)) ((b1,b2),(b3,b4)))) w):=by
 have HJ:Hid (Ec ((a1,a2),(a3,a4)) ((b1,b2),(b3,b4))=if jD ((a1,a2),(a3,a4))=false∧jD ((b1,b2),(b3,b4))=false then ((0,0),(0,0)) else if jD ((a1,a2),(a3,a4))=false then ((b1,b2),(b3,b4)) else if jD ((b1,b2),(b3,b4))=false then ((a1,a2),(a3,a4)) else ((min a1 b1,min a2 b2),(max a3 b3,max a4 b4))):=rfl;have HVA:=hid (nY a1 a2 a3 a4);have HVB:=hid (nY b1 b2 b3 b4);generalize Ec ((a1,a2),(a3,a4)) ((b1,b2),(b3,b4))=J at *
 generalize jD ((a1,a2),(a3,a4))=va at *
 generalize jD ((b1,b2),(b3,b4))=vb at *
 obtain ⟨W,hW⟩:∃ W,W=((w.alloc (.cells #[.int .i64 a1,.int .i64 a2,.int .i64 a3,.int .i64 a4] 64)).alloc (.cells #[.int .i64 b1,.int .i64 b2,.int .i64 b3,.int .i64 b4] 64)).alloc (.cells #[.int .i64 0,.int .i64 0,.int .i64 0,.int .i64 0] 64):=⟨_,rfl⟩;have ca0:W.cell? ⟨w.heap.size,0,none⟩=some (.int .i64 a1):=by rw [hW];go_simp
 have ca1:W.cell? ⟨w.heap.size,1,none⟩=some (.int .i64 a2):=by rw [hW];go_simp
 have ca2:W.cell? ⟨w.heap.size,2,none⟩=some (.int .i64 a3):=by rw [hW];go_simp
 have ca3:W.cell? ⟨w.heap.size,3,none⟩=some (.int .i64 a4):=by rw [hW];go_simp
 have cb0:W.cell? ⟨w.heap.size+1,0,none⟩=some (.int .i64 b1):=by rw [hW];go_simp
 have cb1:W.cell? ⟨w.heap.size+1,1,none⟩=some (.int .i64 b2):=by rw [hW];go_simp
 have cb2:W.cell? ⟨w.heap.size+1,2,none⟩=some (.int .i64 b3):=by rw [hW];go_simp
 have cb3:W.cell? ⟨w.heap.size+1,3,none⟩=some (.int .i64 b4):=by rw [hW];go_simp
 have hB:Below w.heap.size w W:=by rw [hW];go_grown
 obtain ⟨g,hg⟩:∃ g,g=w.heap.size+2:=⟨_,rfl⟩;have HG:=hid hg
 have HZ:Hid (Vb W g):=by
  show Vb _ _;rw [hW,hg];exact ⟨⟨⟨.int .i64 0,by go_simp⟩,⟨.int .i64 0,by go_simp⟩,⟨.int .i64 0,by go_simp⟩,⟨.int .i64 0,by go_simp⟩⟩,fun j=>by go_simp⟩
 go_enter Tryz.func120,Tryz.ntmps120
 go_wp2_with fail
 rw [← hW];clear hW hg;refine (HVA.out _).mono ?_;rintro e v0 ⟨rfl,hb0⟩;replace ca0:=keepCell hb0 ca0;replace ca1:=keepCell hb0 ca1;replace ca2:=keepCell hb0 ca2;replace ca3:=keepCell hb0 ca3;replace cb0:=keepCell hb0 cb0;replace cb1:=keepCell hb0 cb1;replace cb2:=keepCell hb0 cb2;replace cb3:=keepCell hb0 cb3;replace HZ:=hid (xg hb0 HZ.out);replace hB:=aj hb0 hB;clear hb0
 cases va with
 | false =>
  go_wp2_with fail
  refine (HVB.out _).mono ?_;rintro e v1 ⟨rfl,hb1⟩;replace ca0:=keepCell hb1 ca0;replace ca1:=keepCell hb1 ca1;replace ca2:=keepCell hb1 ca2;replace ca3:=keepCell hb1 ca3;replace cb0:=keepCell hb1 cb0;replace cb1:=keepCell hb1 cb1;replace cb2:=keepCell hb1 cb2;replace cb3:=keepCell hb1 cb3;replace HZ:=hid (xg hb1 HZ.out);replace hB:=aj hb1 hB;clear hb1
  cases vb with
  | false =>
   have HR:Hid (J=((0,0),(0,0))):=by show _=_;rw [HJ.out];simp
   clear HJ;obtain ⟨⟨⟨y0,z0⟩,⟨y1,z1⟩,⟨y2,z2⟩,⟨y3,z3⟩⟩,zf⟩:=HZ.out;obtain rfl:g=w.heap.size+1+1:=HG.out;have hn1:¬ w.heap.size=w.heap.size+1+1:=by omega
   have hn2:¬ w.heap.size+1=w.heap.size+1+1:=by omega
   have hgl:=lt_of_cell z0;have hwg:w.heap.size≤w.heap.size+1+1:=by omega
   clear HVA HVB HZ;go_wp2;refine bodyPost_ret (v:=Js ((0,0),(0,0))) (by simp [results,Tryz.results120,go_sem,z0,z1,z2,z3]) rfl ⟨by rw [HR.out],by go_grown⟩
  | true =>
   have HR:Hid (J=((b1,b2),(b3,b4))):=by show _=_;rw [HJ.out];simp
   clear HJ
   go_wp2_with fail
   refine (HVA.out _).mono ?_;rintro e v2 ⟨rfl,hb2⟩;replace ca0:=keepCell hb2 ca0;replace ca1:=keepCell hb2 ca1;replace ca2:=keepCell hb2 ca2;replace ca3:=keepCell hb2 ca3;replace cb0:=keepCell hb2 cb0;replace cb1:=keepCell hb2 cb1;replace cb2:=keepCell hb2 cb2;replace cb3:=keepCell hb2 cb3;replace HZ:=hid (xg hb2 HZ.out);replace hB:=aj hb2 hB;clear hb2;obtain ⟨⟨⟨y0,z0⟩,⟨y1,z1⟩,⟨y2,z2⟩,⟨y3,z3⟩⟩,zf⟩:=HZ.out;obtain rfl:g=w.heap.size+1+1:=HG.out;have hn1:¬ w.heap.size=w.heap.size+1+1:=by omega
   have hn2:¬ w.heap.size+1=w.heap.size+1+1:=by omega
   have hgl:=lt_of_cell z0;have hwg:w.heap.size≤w.heap.size+1+1:=by omega
   clear HVA HVB HZ;go_wp2;refine bodyPost_ret (v:=Js ((b1,b2),(b3,b4))) (by simp [results,Tryz.results120,go_sem,z0,z1,z2,z3]) rfl ⟨by rw [HR.out],by go_grown⟩
 | true =>
  go_wp2_with fail
  refine (HVA.out _).mono ?_;rintro e v3 ⟨rfl,hb3⟩;replace ca0:=keepCell hb3 ca0;replace ca1:=keepCell hb3 ca1;replace ca2:=keepCell hb3 ca2;replace ca3:=keepCell hb3 ca3;replace cb0:=keepCell hb3 cb0;replace cb1:=keepCell hb3 cb1;replace cb2:=keepCell hb3 cb2;replace cb3:=keepCell hb3 cb3;replace HZ:=hid (xg hb3 HZ.out);replace hB:=aj hb3 hB;clear hb3
  go_wp2_with fail
  refine (HVB.out _).mono ?_;rintro e v4 ⟨rfl,hb4⟩;replace ca0:=keepCell hb4 ca0;replace ca1:=keepCell hb4 ca1;replace ca2:=keepCell hb4 ca2;replace ca3:=keepCell hb4 ca3;replace cb0:=keepCell hb4 cb0;replace cb1:=keepCell hb4 cb1;replace cb2:=keepCell hb4 cb2;replace cb3:=keepCell hb4 cb3;replace HZ:=hid (xg hb4 HZ.out);replace hB:=aj hb4 hB;clear hb4
  cases vb with
  | false =>
   have HR:Hid (J=((a1,a2),(a3,a4))):=by show _=_;rw [HJ.out];simp
   clear HJ;obtain ⟨⟨⟨y0,z0⟩,⟨y1,z1⟩,⟨y2,z2⟩,⟨y3,z3⟩⟩,zf⟩:=HZ.out;obtain rfl:g=w.heap.size+1+1:=HG.out;have hn1:¬ w.heap.size=w.heap.size+1+1:=by omega
   have hn2:¬ w.heap.size+1=w.heap.size+1+1:=by omega
   have hgl:=lt_of_cell z0;have hwg:w.heap.size≤w.heap.size+1+1:=by omega
   clear HVA HVB HZ;go_wp2;refine bodyPost_ret (v:=Js ((a1,a2),(a3,a4))) (by simp [results,Tryz.results120,go_sem,z0,z1,z2,z3]) rfl ⟨by rw [HR.out],by go_grown⟩
  | true =>
   have HR:Hid (J=((min a1 b1,min a2 b2),(max a3 b3,max a4 b4))):=by show _=_;rw [HJ.out];simp
   clear HJ;obtain ⟨⟨⟨y0,z0⟩,⟨y1,z1⟩,⟨y2,z2⟩,⟨y3,z3⟩⟩,zf⟩:=HZ.out;obtain rfl:g=w.heap.size+1+1:=HG.out;have hn1:¬ w.heap.size=w.heap.size+1+1:=by omega
   have hn2:¬ w.heap.size+1=w.heap.size+1+1:=by omega
   have hgl:=lt_of_cell z0;have hwg:w.heap.size≤w.heap.size+1+1:=by omega
   clear HVA HVB HZ;go_wp2;refine bodyPost_ret (v:=Js ((min a1 b1,min a2 b2),(max a3 b3,max a4 b4))) (by simp [results,Tryz.results120,go_sem,z0,z1,z2,z3]) rfl ⟨by rw [HR.out],by go_grown⟩
theorem aJ.pair {b off:Nat} {l:List (Nat × Nat)} (h:aJ bW w b off l) {i:Nat} (hi:i<l.length) :
  w.cell? ⟨b,off+i*2,none⟩=some (.int .i64 (l[i].1:Nat))∧w.cell? ⟨b,off+i*2+1,none⟩=some (.int .i64 (l[i].2:Nat)):=⟨h.at_ i hi 0 _ rfl,h.at_ i hi 1 _ rfl⟩
end
end Go.Proofs.YtokgmcomgflloaaGreat
