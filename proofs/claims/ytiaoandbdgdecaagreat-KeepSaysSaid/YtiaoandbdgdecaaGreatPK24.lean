/- Parts of a proof: contracts and laws. -/
import Derived.Test.YtiaoandbdgdecaaGreatPK22
import Derived.Test.YtiaoandbdgdecaaGreatPK23
import Derived.Test.YtiaoandbdgdecaaGreatPK17
import Derived.Test.YtiaoandbdgdecaaGreatPK04
set_option maxRecDepth 100000
set_option maxHeartbeats 16000000
namespace Go.Proofs.YtiaoandbdgdecaaGreat
section
set_option linter.unusedVariables false
set_option linter.unusedSimpArgs false
open Go.RowKit

def dptZ (l:List V) (i:Nat) (p q:Int):Int:=nrmX l i*(px l i-p)+nrmY l i*(py l i-q)
def rdpZ (l:List V) (i:Nat) (p q:Int):Int:=overQ (dptZ l i p q) (lenZ (nrmX l i) (nrmY l i))
theorem bcmp_zero (z:Int) (h1 : -170141183460469231731687303715884105728≤z) (h2:z<170141183460469231731687303715884105728) (w:World) :
  Calls Tryz.prog 132 #[bigV z,.agg #[.int .u32 0,.int .u32 0,.int .u32 0,.int .u32 0,.int .u32 0,.int .u32 0,.int .u32 0,.int .u32 0]] w (Ret (.int .i64 (cmpZ z 0)) w):=by
 have h:=bcmp_calls z 0 h1 h2 (by omega) (by omega) w
 rwa [bigV_zero] at h
theorem rdepth_calls (A:Option Addr) (n c:Nat) (l:List V) (i:Nat) (p q:Int) (w:World) (hS:Sl w A n c l) (hw:allWithin 65536000 l=true) (h3:3≤l.length) (h8:l.length≤8) (hi:i<l.length) (hpq:withinB 65536000 p q=true) :
  Calls Tryz.prog 102 #[.slice A n c,.int .i64 i,vecV p q] w (Ret (.tuple #[.int .i64 (rdpZ l i p q),.bool (decide (0≤dptZ l i p q))]) w):=by
 have hn:=hS.len
 subst hn
 obtain ⟨b,off,rfl,hC⟩:=hS.at_ (by intro h;subst h;simp at hi)
 have hl0:¬ l=[]:=by intro h;rw [h] at hi;simp at hi
 have hlt':(i:Int)<(l.length:Int):=by omega
 obtain ⟨a1,a2,a3,a4⟩:=withinB_iff.1 (allWithin_at hw hi)
 obtain ⟨b1,b2,b3,b4⟩:=withinB_iff.1 hpq
 obtain ⟨bn1,bn2⟩:=nrm_bd hw hi
 have HOUT:Hid (∀ w',Below w.heap.size w w'→Calls Tryz.prog 98 #[.slice (some ⟨b,off,none⟩) l.length c,.int .i64 i] w' (Ret (vecV (nrmX l i) (nrmY l i)) w')):=fun w' h=>out_calls _ _ _ l i w' (hS.below h) hw h3 h8 hi
 have HCC:Hid (∀ w',Below w.heap.size w w'→w'.cell? ⟨b,off+i*2,none⟩=some (.int .i64 (px l i))∧w'.cell? ⟨b,off+i*2+1,none⟩=some (.int .i64 (py l i))):=fun w' h=>⟨(hC.below h).x i hi,(hC.below h).y i hi⟩
 have HDZ:Hid (dptZ l i p q=nrmX l i*(px l i-p)+nrmY l i*(py l i-q)∧rdpZ l i p q=overQ (dptZ l i p q) (lenZ (nrmX l i) (nrmY l i))):=⟨rfl,rfl⟩
 obtain ⟨rz,hrz⟩:∃ z,z=rdpZ l i p q:=⟨_,rfl⟩
 obtain ⟨dz,hdz⟩:∃ z,z=dptZ l i p q:=⟨_,rfl⟩
 rw [← hrz,← hdz] at HDZ ⊢
 clear hS hC hw hrz hdz hpq
 have u1:wrap64 (px l i-p)=px l i-p:=wrap64_id (by omega) (by omega)
 have u2:wrap64 (py l i-q)=py l i-q:=wrap64_id (by omega) (by omega)
 have HSB:=hid (sub_calls (px l i) (py l i) p q)
 rw [u1,u2] at HSB
 clear u1 u2
 generalize nrmX l i=nx at *
 generalize nrmY l i=ny at *
 generalize px l i=x1 at *
 generalize py l i=y1 at *
 obtain ⟨D,hD⟩:∃ D,D=nx*(x1-p)+ny*(y1-q):=⟨_,rfl⟩
 have m1:=mul_bd (x:=nx) (y:=x1-p) (M:=131072000) (N:=131072000) (by omega) (by omega) (by omega) (by omega)
 have m2:=mul_bd (x:=ny) (y:=y1-q) (M:=131072000) (N:=131072000) (by omega) (by omega) (by omega) (by omega)
 have HDT:=hid (rdot_calls nx ny (x1-p) (y1-q) (by omega) (by omega) (by omega) (by omega))
 rw [← hD] at HDT HDZ
 have hDb : -34359738368000000≤D∧D≤34359738368000000:=by omega
 have q1:=mul_bd (x:=nx) (y:=nx) (M:=131072000) (N:=131072000) (by omega) (by omega) (by omega) (by omega)
 have q2:=mul_bd (x:=ny) (y:=ny) (M:=131072000) (N:=131072000) (by omega) (by omega) (by omega) (by omega)
 have s1:=sq_nonneg nx
 have s2:=sq_nonneg ny
 have v1:IntKind.i64.wrap (nx*nx)=nx*nx:=IntWalk.i64_in _ (by omega)
 have v2:IntKind.i64.wrap (ny*ny)=ny*ny:=IntWalk.i64_in _ (by omega)
 have v3:IntKind.i64.wrap (nx*nx+ny*ny)=nx*nx+ny*ny:=IntWalk.i64_in _ (by omega)
 have HRT:Hid (∀ w,Calls Tryz.prog 146 #[.int .i64 (nx*nx+ny*ny)] w (Ret (.int .i64 (lenZ nx ny)) w)):=fun w=>rroot_calls (nx*nx+ny*ny) (by omega) (by omega) w
 obtain ⟨L,hL⟩:∃ L,L=lenZ nx ny:=⟨_,rfl⟩
 have bl:=len_bd (x:=nx) (y:=ny) (by omega) (by omega)
 rw [← hL] at HRT HDZ bl
 have HOV:=hid (bover_calls D L (by omega) (by omega) (by omega) (by omega))
 have HCZ:=hid (bcmp_zero D (by omega) (by omega))
 have HGE:Hid (decide (0≤D)=decide (0≤cmpZ D 0)):=by
  show _=_
  have:=cmpZ_nonneg (a:=D) (b:=0)
  rcases Decidable.em (0≤D) with g | g
  ·rw [decide_eq_true g,decide_eq_true (this.2 g)]
  ·rw [decide_eq_false g,decide_eq_false (fun k=>g (this.1 k))]
 clear m1 m2 q1 q2 s1 s2 hD hL bl
 go_enter Tryz.func102,Tryz.ntmps102
 obtain ⟨g5,hg5⟩:∃ g,g=w.heap.size:=⟨_,rfl⟩
 obtain ⟨w1,hw1⟩:∃ w1,w1=w.alloc (.cells #[.int .i64 p,.int .i64 q] 27):=⟨_,rfl⟩
 have p0:w1.cell? ⟨g5,0,none⟩=some (.int .i64 p):=by rw [hw1,hg5];go_simp
 have p1:w1.cell? ⟨g5,1,none⟩=some (.int .i64 q):=by rw [hw1,hg5];go_simp
 have hBw:Below w.heap.size w w1:=by rw [hw1];go_grown
 have hg5w:w.heap.size≤g5:=by omega
 go_wp2_with fail
 rw [← hw1,← hg5]
 clear hw1 hg5
 refine (HOUT.out _ hBw).mono ?_
 rintro e w2 ⟨rfl,hb2⟩
 replace p0:=keepCell hb2 p0
 replace p1:=keepCell hb2 p1
 have hB2:=keepBelow hb2 hBw
 obtain ⟨g8,hg8⟩:∃ g,g=w2.heap.size:=⟨_,rfl⟩
 obtain ⟨W,hW⟩:∃ W,W=w2.alloc (.cells #[.int .i64 nx,.int .i64 ny] 27):=⟨_,rfl⟩
 have n0:W.cell? ⟨g8,0,none⟩=some (.int .i64 nx):=by rw [hW,hg8];go_simp
 have n1:W.cell? ⟨g8,1,none⟩=some (.int .i64 ny):=by rw [hW,hg8];go_simp
 replace p0:W.cell? ⟨g5,0,none⟩=some (.int .i64 p):=by rw [hW];exact keepCell Ba p0
 replace p1:W.cell? ⟨g5,1,none⟩=some (.int .i64 q):=by rw [hW];exact keepCell Ba p1
 have hB0:Below w.heap.size w W:=by rw [hW];exact hB2.alloc hB2.size _
 have hg8w:w.heap.size≤g8:=by rw [hg8];exact hB2.size
 obtain ⟨xi,yi⟩:=HCC.out W hB0
 clear hb2 hB2 hBw HOUT HCC
 go_upto_region 2 with fail
 rw [← hW,← hg8]
 clear hW hg8
 go_cut [9] from 15 to 22 (fun t wx=>∃ gT:Nat,t = .pointer (some ⟨gT,0,none⟩)∧Blk8 wx gT (digs D)∧wx.cell? ⟨g8,0,none⟩=some (.int .i64 nx)∧wx.cell? ⟨g8,1,none⟩=some (.int .i64 ny)∧Below w.heap.size w wx)
 case first =>
  refine wp_region_noPanic ?_
  refine wp_region_U (S:=(S2 (fun w'=>w'.cell? ⟨g8,0,none⟩=some (.int .i64 nx)∧w'.cell? ⟨g8,1,none⟩=some (.int .i64 ny)∧w'.cell? ⟨b,off+i*2,none⟩=some (.int .i64 (x1))∧w'.cell? ⟨b,off+i*2+1,none⟩=some (.int .i64 (y1))∧w'.cell? ⟨g5,0,none⟩=some (.int .i64 p)∧w'.cell? ⟨g5,1,none⟩=some (.int .i64 q)∧Below w.heap.size w w'))) (T:=(fun j=>[0,0,0,0,0,0,0,0,0,1].getD j 0)) (by kernel_rfl) (S2i0 ⟨n0,n1,xi,yi,p0,p1,hB0.drew⟩) (fun hH=>?_)
  have hWr1:Weaker (S2 (fun w'=>w'.cell? ⟨g8,0,none⟩=some (.int .i64 nx)∧w'.cell? ⟨g8,1,none⟩=some (.int .i64 ny)∧w'.cell? ⟨b,off+i*2,none⟩=some (.int .i64 (x1))∧w'.cell? ⟨b,off+i*2+1,none⟩=some (.int .i64 (y1))∧w'.cell? ⟨g5,0,none⟩=some (.int .i64 p)∧w'.cell? ⟨g5,1,none⟩=some (.int .i64 q)∧Below w.heap.size w w')):=weaker2 _
  refine Utn [(0,15),(1,16),(2,17),(3,18),(4,19),(5,20)] 4 0 0 (L':=?Lr1_1) hWr1 hH ?hyr1_1 ?_
  case hyr1_1=>((iterate 6 apply tkC;rfl;kernel_rfl;intro w' hSw;replace hSw:=S2o0 hSw;(try dsimp only at hSw);have q0:=hSw.1;have q1:=hSw.2.1;have q2:=hSw.2.2.1;have q3:=hSw.2.2.2.1;have q4:=hSw.2.2.2.2.1;have q5:=hSw.2.2.2.2.2.1;have q6:=hSw.2.2.2.2.2.2;(try simp only [sB,sC]);go_simp;(try with_reducible rfl));exact tkN)
  simp only [sB,sC]
  refine Ur [6,8] ?_
  refine Uc 0 rfl (fun K hK=>?_) ?_
  ·try clear hb
   go_simp
   (go_at_call 101;refine (HSB.out _).mono ?_;rintro e wn ⟨rfl,hb⟩;try (replace hT:=keepBlk hb hT))
   refine hK.out _ _ ?hsr1_7 (fun hH2=>?hrr1_7)
   case hsr1_7=>exact S2i0 (by have hG:=hH;replace hG:=S2o0 hG;(try dsimp only at hG);have q0:=hG.1;have q1:=hG.2.1;have q2:=hG.2.2.1;have q3:=hG.2.2.2.1;have q4:=hG.2.2.2.2.1;have q5:=hG.2.2.2.2.2.1;have q6:=hG.2.2.2.2.2.2;exact ⟨keepCell hb q0,keepCell hb q1,keepCell hb q2,keepCell hb q3,keepCell hb q4,keepCell hb q5,keepBelow hb q6⟩)
   clear hK K hH
   have hH:=hH2
   clear hH2
   try simp only [Act.put,sA,sB,sC]
   refine Ur [7,8] ?_
   refine Uc 0 rfl (fun K hK=>?_) ?_
   ·try clear hb
    go_simp
    (go_at_call 140;refine (HDT.out _).mono ?_;rintro e wn ⟨rfl,hb⟩;try (replace hT:=keepBlk hb hT))
    refine hK.out _ _ ?hsr1_8 (fun hH2=>?hrr1_8)
    case hsr1_8=>exact S2i0 (by have hG:=hH;replace hG:=S2o0 hG;(try dsimp only at hG);have q0:=hG.1;have q1:=hG.2.1;have q2:=hG.2.2.1;have q3:=hG.2.2.2.1;have q4:=hG.2.2.2.2.1;have q5:=hG.2.2.2.2.2.1;have q6:=hG.2.2.2.2.2.2;exact ⟨keepCell hb q0,keepCell hb q1,keepCell hb q2,keepCell hb q3,keepCell hb q4,keepCell hb q5,keepBelow hb q6⟩)
    clear hK K hH
    have hH:=hH2
    clear hH2
    try simp only [Act.put,sA,sB,sC]
    refine U1 8 0 rfl (fun K hK=>?_)
    try clear hb
    have hG:=hH
    replace hG:=S2o0 hG;(try dsimp only at hG);have q0:=hG.1;have q1:=hG.2.1;have q2:=hG.2.2.1;have q3:=hG.2.2.2.1;have q4:=hG.2.2.2.2.1;have q5:=hG.2.2.2.2.2.1;have q6:=hG.2.2.2.2.2.2
    go_simp
    refine hK.out _ _ ?hsr1_9 (fun hH2=>?hrr1_9)
    case hsr1_9=>exact S2i0 (by have hG:=hH;replace hG:=S2o0 hG;(try dsimp only at hG);have q0:=hG.1;have q1:=hG.2.1;have q2:=hG.2.2.1;have q3:=hG.2.2.2.1;have q4:=hG.2.2.2.2.1;have q5:=hG.2.2.2.2.2.1;have q6:=hG.2.2.2.2.2.2;exact ⟨keepCell Ba q0,keepCell Ba q1,keepCell Ba q2,keepCell Ba q3,keepCell Ba q4,keepCell Ba q5,q6.alloc q6.size _⟩)
    clear hK K hH
    have hH:=hH2
    clear hH2
    try simp only [Act.put,sA,sB,sC]
    have hT:Blk8 (wn.alloc (.cells #[.int .u32 0,.int .u32 0,.int .u32 0,.int .u32 0,.int .u32 0,.int .u32 0,.int .u32 0,.int .u32 0] 168)) wn.heap.size (fun _=>0):=Blk8.fresh rfl
    obtain ⟨gT,hgT⟩:∃ g,g=wn.heap.size:=⟨_,rfl⟩
    have hlT:g8<gT:=by rw [hgT];exact lt_of_cell q0
    rw [← hgT] at hT
    try rw [← hgT]
    clear hgT q0 q1 q2 q3 q4 q5 q6
    generalize wn.alloc (.cells #[.int .u32 0,.int .u32 0,.int .u32 0,.int .u32 0,.int .u32 0,.int .u32 0,.int .u32 0,.int .u32 0] 168)=wx8 at *
    refine U1 9 1 rfl (fun K hK=>?_)
    have hG:=hH
    replace hG:=S2o0 hG;(try dsimp only at hG);have q0:=hG.1;have q1:=hG.2.1;have q2:=hG.2.2.1;have q3:=hG.2.2.2.1;have q4:=hG.2.2.2.2.1;have q5:=hG.2.2.2.2.2.1;have q6:=hG.2.2.2.2.2.2
    have HT9:=hid hT
    obtain ⟨z0,z1,z2,z3,z4,z5,z6,z7⟩:=Blk8.all hT
    have zf:=hT.free
    have hle:w.heap.size≤gT:=by omega
    have hne:¬ gT=g8:=by omega
    go_simp
    refine hK.out _ _ ?hsr1_10 (fun hH2=>?hrr1_10)
    case hsr1_10=>exact S2i1
    clear hK K hH
    have hH:=hH2
    clear hH2
    try simp only [Act.put,sA,sB,sC]
    refine wpAnyU_done (by kernel_rfl) ?_ _ _
    refine NoPanic.normal ?_
    go_wp2_with fail
    go_meet
    refine ⟨gT,rfl,HT9.out.sets8,by go_simp,by go_simp,by go_grown⟩
   refine Uc 0 rfl (fun K hK=>?_) ?_
   ·try clear hb
    have hG:=hH
    replace hG:=S2o0 hG;(try dsimp only at hG);have q0:=hG.1;have q1:=hG.2.1;have q2:=hG.2.2.1;have q3:=hG.2.2.2.1;have q4:=hG.2.2.2.2.1;have q5:=hG.2.2.2.2.2.1;have q6:=hG.2.2.2.2.2.2
    go_simp
    refine hK.out _ _ ?hsr1_11 (fun hH2=>?hrr1_11)
    case hsr1_11=>exact S2i0 (by have hG:=hH;replace hG:=S2o0 hG;(try dsimp only at hG);have q0:=hG.1;have q1:=hG.2.1;have q2:=hG.2.2.1;have q3:=hG.2.2.2.1;have q4:=hG.2.2.2.2.1;have q5:=hG.2.2.2.2.2.1;have q6:=hG.2.2.2.2.2.2;exact ⟨keepCell Ba q0,keepCell Ba q1,keepCell Ba q2,keepCell Ba q3,keepCell Ba q4,keepCell Ba q5,q6.alloc q6.size _⟩)
    clear hK K hH
    have hH:=hH2
    clear hH2
    try simp only [Act.put,sA,sB,sC]
    have hT:Blk8 (wn.alloc (.cells #[.int .u32 0,.int .u32 0,.int .u32 0,.int .u32 0,.int .u32 0,.int .u32 0,.int .u32 0,.int .u32 0] 168)) wn.heap.size (fun _=>0):=Blk8.fresh rfl
    obtain ⟨gT,hgT⟩:∃ g,g=wn.heap.size:=⟨_,rfl⟩
    have hlT:g8<gT:=by rw [hgT];exact lt_of_cell q0
    rw [← hgT] at hT
    try rw [← hgT]
    clear hgT q0 q1 q2 q3 q4 q5 q6
    generalize wn.alloc (.cells #[.int .u32 0,.int .u32 0,.int .u32 0,.int .u32 0,.int .u32 0,.int .u32 0,.int .u32 0,.int .u32 0] 168)=wx8 at *
    refine U1 7 0 rfl (fun K hK=>?_)
    try clear hb
    go_simp
    (go_at_call 140;refine (HDT.out _).mono ?_;rintro e wn ⟨rfl,hb⟩;try (replace hT:=keepBlk hb hT))
    refine hK.out _ _ ?hsr1_12 (fun hH2=>?hrr1_12)
    case hsr1_12=>exact S2i0 (by have hG:=hH;replace hG:=S2o0 hG;(try dsimp only at hG);have q0:=hG.1;have q1:=hG.2.1;have q2:=hG.2.2.1;have q3:=hG.2.2.2.1;have q4:=hG.2.2.2.2.1;have q5:=hG.2.2.2.2.2.1;have q6:=hG.2.2.2.2.2.2;exact ⟨keepCell hb q0,keepCell hb q1,keepCell hb q2,keepCell hb q3,keepCell hb q4,keepCell hb q5,keepBelow hb q6⟩)
    clear hK K hH
    have hH:=hH2
    clear hH2
    try simp only [Act.put,sA,sB,sC]
    refine U1 9 1 rfl (fun K hK=>?_)
    have hG:=hH
    replace hG:=S2o0 hG;(try dsimp only at hG);have q0:=hG.1;have q1:=hG.2.1;have q2:=hG.2.2.1;have q3:=hG.2.2.2.1;have q4:=hG.2.2.2.2.1;have q5:=hG.2.2.2.2.2.1;have q6:=hG.2.2.2.2.2.2
    have HT9:=hid hT
    obtain ⟨z0,z1,z2,z3,z4,z5,z6,z7⟩:=Blk8.all hT
    have zf:=hT.free
    have hle:w.heap.size≤gT:=by omega
    have hne:¬ gT=g8:=by omega
    go_simp
    refine hK.out _ _ ?hsr1_13 (fun hH2=>?hrr1_13)
    case hsr1_13=>exact S2i1
    clear hK K hH
    have hH:=hH2
    clear hH2
    try simp only [Act.put,sA,sB,sC]
    refine wpAnyU_done (by kernel_rfl) ?_ _ _
    refine NoPanic.normal ?_
    go_wp2_with fail
    go_meet
    refine ⟨gT,rfl,HT9.out.sets8,by go_simp,by go_simp,by go_grown⟩
   exact AllReadyU.nil
  refine Uc 0 rfl (fun K hK=>?_) ?_
  ·try clear hb
   have hG:=hH
   replace hG:=S2o0 hG;(try dsimp only at hG);have q0:=hG.1;have q1:=hG.2.1;have q2:=hG.2.2.1;have q3:=hG.2.2.2.1;have q4:=hG.2.2.2.2.1;have q5:=hG.2.2.2.2.2.1;have q6:=hG.2.2.2.2.2.2
   go_simp
   refine hK.out _ _ ?hsr1_14 (fun hH2=>?hrr1_14)
   case hsr1_14=>exact S2i0 (by have hG:=hH;replace hG:=S2o0 hG;(try dsimp only at hG);have q0:=hG.1;have q1:=hG.2.1;have q2:=hG.2.2.1;have q3:=hG.2.2.2.1;have q4:=hG.2.2.2.2.1;have q5:=hG.2.2.2.2.2.1;have q6:=hG.2.2.2.2.2.2;exact ⟨keepCell Ba q0,keepCell Ba q1,keepCell Ba q2,keepCell Ba q3,keepCell Ba q4,keepCell Ba q5,q6.alloc q6.size _⟩)
   clear hK K hH
   have hH:=hH2
   clear hH2
   try simp only [Act.put,sA,sB,sC]
   have hT:Blk8 ((W.alloc (.cells #[.int .u32 0,.int .u32 0,.int .u32 0,.int .u32 0,.int .u32 0,.int .u32 0,.int .u32 0,.int .u32 0] 168)).drew) W.heap.size (fun _=>0):=Blk8.drew (Blk8.fresh rfl)
   obtain ⟨gT,hgT⟩:∃ g,g=W.heap.size:=⟨_,rfl⟩
   have hlT:g8<gT:=by rw [hgT];exact lt_of_cell q0
   rw [← hgT] at hT
   try rw [← hgT]
   clear hgT q0 q1 q2 q3 q4 q5 q6
   generalize (W.alloc (.cells #[.int .u32 0,.int .u32 0,.int .u32 0,.int .u32 0,.int .u32 0,.int .u32 0,.int .u32 0,.int .u32 0] 168)).drew=wx8 at *
   refine U1 6 0 rfl (fun K hK=>?_)
   try clear hb
   go_simp
   (go_at_call 101;refine (HSB.out _).mono ?_;rintro e wn ⟨rfl,hb⟩;try (replace hT:=keepBlk hb hT))
   refine hK.out _ _ ?hsr1_15 (fun hH2=>?hrr1_15)
   case hsr1_15=>exact S2i0 (by have hG:=hH;replace hG:=S2o0 hG;(try dsimp only at hG);have q0:=hG.1;have q1:=hG.2.1;have q2:=hG.2.2.1;have q3:=hG.2.2.2.1;have q4:=hG.2.2.2.2.1;have q5:=hG.2.2.2.2.2.1;have q6:=hG.2.2.2.2.2.2;exact ⟨keepCell hb q0,keepCell hb q1,keepCell hb q2,keepCell hb q3,keepCell hb q4,keepCell hb q5,keepBelow hb q6⟩)
   clear hK K hH
   have hH:=hH2
   clear hH2
   try simp only [Act.put,sA,sB,sC]
   refine U1 7 0 rfl (fun K hK=>?_)
   try clear hb
   go_simp
   (go_at_call 140;refine (HDT.out _).mono ?_;rintro e wn ⟨rfl,hb⟩;try (replace hT:=keepBlk hb hT))
   refine hK.out _ _ ?hsr1_16 (fun hH2=>?hrr1_16)
   case hsr1_16=>exact S2i0 (by have hG:=hH;replace hG:=S2o0 hG;(try dsimp only at hG);have q0:=hG.1;have q1:=hG.2.1;have q2:=hG.2.2.1;have q3:=hG.2.2.2.1;have q4:=hG.2.2.2.2.1;have q5:=hG.2.2.2.2.2.1;have q6:=hG.2.2.2.2.2.2;exact ⟨keepCell hb q0,keepCell hb q1,keepCell hb q2,keepCell hb q3,keepCell hb q4,keepCell hb q5,keepBelow hb q6⟩)
   clear hK K hH
   have hH:=hH2
   clear hH2
   try simp only [Act.put,sA,sB,sC]
   refine U1 9 1 rfl (fun K hK=>?_)
   have hG:=hH
   replace hG:=S2o0 hG;(try dsimp only at hG);have q0:=hG.1;have q1:=hG.2.1;have q2:=hG.2.2.1;have q3:=hG.2.2.2.1;have q4:=hG.2.2.2.2.1;have q5:=hG.2.2.2.2.2.1;have q6:=hG.2.2.2.2.2.2
   have HT9:=hid hT
   obtain ⟨z0,z1,z2,z3,z4,z5,z6,z7⟩:=Blk8.all hT
   have zf:=hT.free
   have hle:w.heap.size≤gT:=by omega
   have hne:¬ gT=g8:=by omega
   go_simp
   refine hK.out _ _ ?hsr1_17 (fun hH2=>?hrr1_17)
   case hsr1_17=>exact S2i1
   clear hK K hH
   have hH:=hH2
   clear hH2
   try simp only [Act.put,sA,sB,sC]
   refine wpAnyU_done (by kernel_rfl) ?_ _ _
   refine NoPanic.normal ?_
   go_wp2_with fail
   go_meet
   refine ⟨gT,rfl,HT9.out.sets8,by go_simp,by go_simp,by go_grown⟩
  exact AllReadyU.nil
 case rest =>
  obtain ⟨gD,rfl,hD,n0',n1',hB1⟩:=hcut
  clear xi yi p0 p1 n0 n1 hB0 HSB HDT
  go_upto_region 3 with fail
  refine wp_region_noPanic ?_
  refine wp_region_U (S:=(S2 (fun w'=>Blk8 w' (gD) (digs D)∧w'.cell? ⟨g8,0,none⟩=some (.int .i64 nx)∧w'.cell? ⟨g8,1,none⟩=some (.int .i64 ny)∧Below w.heap.size w w'))) (T:=(fun _=>0)) (by kernel_rfl) (S2i0 ⟨hD.drew,n0',n1',hB1.drew⟩) (fun hH=>?_)
  have hWr2:Weaker (S2 (fun w'=>Blk8 w' (gD) (digs D)∧w'.cell? ⟨g8,0,none⟩=some (.int .i64 nx)∧w'.cell? ⟨g8,1,none⟩=some (.int .i64 ny)∧Below w.heap.size w w')):=weaker2 _
  refine Utn [(0,24),(1,25),(2,26),(3,27),(4,28),(5,29),(6,30),(7,31),(8,32),(9,33),(10,34),(11,35)] 7 0 0 (L':=?Lr2_1) hWr2 hH ?hyr2_1 ?_
  case hyr2_1=>((iterate 12 apply tkC;rfl;kernel_rfl;intro w' hSw;replace hSw:=S2o0 hSw;(try dsimp only at hSw);have q0:=hSw.1;have q1:=hSw.2.1;have q2:=hSw.2.2.1;have q3:=hSw.2.2.2;obtain ⟨qa0_0,qa0_1,qa0_2,qa0_3,qa0_4,qa0_5,qa0_6,qa0_7⟩:=Blk8.all q0;(try simp only [sB,sC]);go_simp;(try with_reducible rfl));exact tkN)
  simp only [sB,sC]
  refine U1 12 0 rfl (fun K hK=>?_)
  try clear hb
  go_simp
  (go_at_call 146;refine (HRT.out _).mono ?_;rintro e wn ⟨rfl,hb⟩)
  refine hK.out _ _ ?hsr2_13 (fun hH2=>?hrr2_13)
  case hsr2_13=>exact S2i0 (by have hG:=hH;replace hG:=S2o0 hG;(try dsimp only at hG);have q0:=hG.1;have q1:=hG.2.1;have q2:=hG.2.2.1;have q3:=hG.2.2.2;exact ⟨keepBlk hb q0,keepCell hb q1,keepCell hb q2,keepBelow hb q3⟩)
  clear hK K hH
  have hH:=hH2
  clear hH2
  try simp only [Act.put,sA,sB,sC]
  refine U1 13 0 rfl (fun K hK=>?_)
  try clear hb
  go_simp
  (go_at_call 145;refine (HOV.out _).mono ?_;rintro e wn ⟨rfl,hb⟩)
  refine hK.out _ _ ?hsr2_14 (fun hH2=>?hrr2_14)
  case hsr2_14=>exact S2i0 (by have hG:=hH;replace hG:=S2o0 hG;(try dsimp only at hG);have q0:=hG.1;have q1:=hG.2.1;have q2:=hG.2.2.1;have q3:=hG.2.2.2;exact ⟨keepBlk hb q0,keepCell hb q1,keepCell hb q2,keepBelow hb q3⟩)
  clear hK K hH
  have hH:=hH2
  clear hH2
  try simp only [Act.put,sA,sB,sC]
  refine Utn [(14,23),(15,38),(16,39),(17,10),(18,11)] 0 0 0 (L':=?Lr2_15) hWr2 hH ?hyr2_15 ?_
  case hyr2_15=>((iterate 5 apply tkC;rfl;kernel_rfl;intro w' hSw;clear hSw;(try simp only [sB,sC]);go_simp;(try with_reducible rfl));exact tkN)
  simp only [sB,sC]
  refine wpAnyU_done (by kernel_rfl) ?_ _ _
  refine NoPanic.normal ?_
  clear hWr2
  replace hH:=S2o0 hH
  (try dsimp only at hH)
  have q0:=hH.1
  have q1:=hH.2.1
  have q2:=hH.2.2.1
  have q3:=hH.2.2.2
  obtain ⟨qa0_0,qa0_1,qa0_2,qa0_3,qa0_4,qa0_5,qa0_6,qa0_7⟩:=Blk8.all q0
  clear hH hb hD n0' n1' hB1 HRT HOV v1 v2 v3 q0 q1 q2
  go_wp2_with fail
  refine (HCZ.out _).mono ?_
  rintro e w9 ⟨rfl,hb9⟩
  have hB9:=keepBelow hb9 q3
  have HE:=hid (And.intro HDZ.out.1 HDZ.out.2)
  clear q3 hb9 HCZ HDZ qa0_0 qa0_1 qa0_2 qa0_3 qa0_4 qa0_5 qa0_6 qa0_7
  generalize hcz:cmpZ D 0=cz at *
  have HG:=hid HGE.out
  clear HGE hcz
  go_wp2
  refine bodyPost_ret (v:=.tuple #[.int .i64 (overQ D L),.bool (decide (0≤cz))]) (by simp [results,Tryz.results102,go_sem]) rfl ⟨by rw [HE.out.2,HE.out.1,HG.out],hB9⟩
end
end Go.Proofs.YtiaoandbdgdecaaGreat
