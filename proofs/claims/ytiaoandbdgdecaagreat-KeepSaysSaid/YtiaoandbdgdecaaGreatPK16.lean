/- Parts of a proof: contracts and laws. -/
import Derived.Test.YtiaoandbdgdecaaGreatPK08
import Derived.BigQuiet
import Derived.Test.YtiaoandbdgdecaaGreatPK04
set_option maxRecDepth 100000
set_option maxHeartbeats 16000000
namespace Go.Proofs.YtiaoandbdgdecaaGreat
section
set_option linter.unusedVariables false
set_option linter.unusedSimpArgs false
open Go.RowKit

def nrmX (l:List V) (i:Nat):Int:=py l ((i+1) % l.length)-py l i
def nrmY (l:List V) (i:Nat):Int:=px l i-px l ((i+1) % l.length)
theorem nrm_bd {l:List V} (hw:allWithin 65536000 l=true) {i:Nat} (hi:i<l.length):(-131072000≤nrmX l i∧nrmX l i≤131072000)∧(-131072000≤nrmY l i∧nrmY l i≤131072000):=by
 have h1:=withinB_iff.1 (allWithin_at hw hi)
 have h2:=withinB_iff.1 (allWithin_at hw (Nat.mod_lt (i+1) (show 0<l.length by omega)))
 unfold nrmX nrmY
 omega
theorem normal_calls (A:Option Addr) (n c:Nat) (l:List V) (i:Nat) (w:World) (hS:Sl w A n c l) (hw:allWithin 65536000 l=true) (h3:3≤l.length) (h8:l.length≤8) (hi:i<l.length) :
  Calls Tryz.prog 62 #[.slice A n c,.int .i64 i] w (Ret (vecV (nrmX l i) (nrmY l i)) w):=by
 have hn:=hS.len
 subst hn
 obtain ⟨b,off,rfl,hC⟩:=hS.at_ (by intro h;subst h;simp at hi)
 obtain ⟨j,hje⟩:∃ j,j=(i+1) % l.length:=⟨_,rfl⟩
 have hj:j<l.length:=by rw [hje];exact Nat.mod_lt _ (by omega)
 have hji:((i:Int)+1) % (l.length:Int)=(j:Int):=by rw [hje];simp
 have hji2:(((i:Int)+1) % (l.length:Int)).toNat=j:=by omega
 have hji3:((i:Int)+1) % (l.length:Int)<(l.length:Int):=by omega
 have hji4:0≤((i:Int)+1) % (l.length:Int):=by omega
 have hwk:IntKind.i64.wrap ((i:Int)+1)=(i:Int)+1:=IntWalk.i64_in _ (by omega)
 have htm:((i:Int)+1).tmod (l.length:Int)=(j:Int):=by rw [Int.tmod_eq_emod_of_nonneg (by omega)];exact hji
 have hl0:¬ l=[]:=by intro h;rw [h] at hi;simp at hi
 have hlt':(i:Int)<(l.length:Int):=by omega
 have hneg:¬ ((i:Int)<0):=by omega
 have hnge:¬ ((l.length:Int)≤(i:Int)):=by omega
 have hnge2:¬ l.length≤i:=by omega
 have hjl:(j:Int)<(l.length:Int):=by omega
 obtain ⟨a1,a2,a3,a4⟩:=withinB_iff.1 (allWithin_at hw hi)
 obtain ⟨b1,b2,b3,b4⟩:=withinB_iff.1 (allWithin_at hw hj)
 obtain ⟨W,hW⟩:∃ W,W=w.alloc (.cells #[.int .i64 0,.int .i64 0] 27):=⟨_,rfl⟩
 have HZ0:=hid (show VZ W w.heap.size by rw [hW];exact VZ.here _ _ _ _)
 have hB0:Below w.heap.size w W:=by rw [hW];go_grown
 have hCW:=hC.below hB0
 have xi:=hCW.x i hi
 have yi:=hCW.y i hi
 have xj:=hCW.x j hj
 have yj:=hCW.y j hj
 have HN:Hid (nrmX l i=py l j-py l i∧nrmY l i=px l i-px l j):=by show _∧_;unfold nrmX nrmY;rw [← hje];exact ⟨rfl,rfl⟩
 have u1:IntKind.i64.wrap (py l j-py l i)=py l j-py l i:=IntWalk.i64_in _ (by omega)
 have u2:IntKind.i64.wrap (px l i-px l j)=px l i-px l j:=IntWalk.i64_in _ (by omega)
 clear hS hC hje hw hCW
 go_enter Tryz.func62,Tryz.ntmps62
 go_upto_region 3 with fail
 rw [← hW]
 clear hW
 go_cut [5,6] from 16 to 27 (fun t u wx=>∃ gT gU:Nat,t = .pointer (some ⟨gT,0,none⟩)∧u = .pointer (some ⟨gU,0,none⟩)∧wx.cell? ⟨gT,0,none⟩=some (.int .i64 (px l i))∧wx.cell? ⟨gT,1,none⟩=some (.int .i64 (py l i))∧wx.cell? ⟨gU,0,none⟩=some (.int .i64 (px l j))∧wx.cell? ⟨gU,1,none⟩=some (.int .i64 (py l j))∧w.heap.size<gT∧w.heap.size<gU∧VZ wx w.heap.size∧Below w.heap.size w wx)
 case first =>
  refine wp_region_noPanic ?_
  refine wp_region_U (S:=(S3 (fun w'=>w'.cell? ⟨b,off+i*2,none⟩=some (.int .i64 (px l i))∧w'.cell? ⟨b,off+i*2+1,none⟩=some (.int .i64 (py l i))∧w'.cell? ⟨b,off+j*2,none⟩=some (.int .i64 (px l j))∧w'.cell? ⟨b,off+j*2+1,none⟩=some (.int .i64 (py l j))∧VZ w' w.heap.size∧Below w.heap.size w w') (fun w'=>w'.cell? ⟨b,off+j*2,none⟩=some (.int .i64 (px l j))∧w'.cell? ⟨b,off+j*2+1,none⟩=some (.int .i64 (py l j))))) (T:=(fun j=>[0,0,0,0,0,0,0,0,0,0,0,0,0,0,1,2].getD j 0)) (by kernel_rfl) (S3i0 ⟨xi,yi,xj,yj,HZ0.out.drew,hB0.drew⟩) (fun hH=>?_)
  have hWr1:Weaker (S3 (fun w'=>w'.cell? ⟨b,off+i*2,none⟩=some (.int .i64 (px l i))∧w'.cell? ⟨b,off+i*2+1,none⟩=some (.int .i64 (py l i))∧w'.cell? ⟨b,off+j*2,none⟩=some (.int .i64 (px l j))∧w'.cell? ⟨b,off+j*2+1,none⟩=some (.int .i64 (py l j))∧VZ w' w.heap.size∧Below w.heap.size w w') (fun w'=>w'.cell? ⟨b,off+j*2,none⟩=some (.int .i64 (px l j))∧w'.cell? ⟨b,off+j*2+1,none⟩=some (.int .i64 (py l j)))):=weaker3 (fun _ ⟨q0,q1,q2,q3,q4,q5⟩=>⟨q2,q3⟩)
  refine Utn [(0,16),(1,17),(2,18),(3,19)] 12 0 0 (L':=?Lr1_1) hWr1 hH ?hyr1_1 ?_
  case hyr1_1=>((iterate 4 apply tkC;rfl;kernel_rfl;intro w' hSw;replace hSw:=S3o0 hSw;(try dsimp only at hSw);have q0:=hSw.1;have q1:=hSw.2.1;have q2:=hSw.2.2.1;have q3:=hSw.2.2.2.1;have q4:=hSw.2.2.2.2.1;have q5:=hSw.2.2.2.2.2;(try simp only [sB,sC]);go_simp;(try with_reducible rfl));exact tkN)
  simp only [sB,sC]
  refine Utn [(4,20),(5,21),(6,22),(7,23),(8,24),(9,25),(10,26),(11,27)] 4 1 0 (L':=?Lr1_5) hWr1 hH ?hyr1_5 ?_
  case hyr1_5=>((iterate 8 apply tkC;rfl;kernel_rfl;intro w' hSw;replace hSw:=S3o1 hSw;(try dsimp only at hSw);have q2:=hSw.1;have q3:=hSw.2;(try simp only [sB,sC]);go_simp;(try with_reducible rfl));exact tkN)
  simp only [sB,sC]
  refine Ur [12,13] ?_
  refine Uc 0 rfl (fun K hK=>?_) ?_
  ·try clear hb
   have hG:=hH
   replace hG:=S3o0 hG;(try dsimp only at hG);have q0:=hG.1;have q1:=hG.2.1;have q2:=hG.2.2.1;have q3:=hG.2.2.2.1;have q4:=hG.2.2.2.2.1;have q5:=hG.2.2.2.2.2
   go_simp
   refine hK.out _ _ ?hsr1_13 (fun hH2=>?hrr1_13)
   case hsr1_13=>exact S3i0 (by have hG:=hH;replace hG:=S3o0 hG;(try dsimp only at hG);have q0:=hG.1;have q1:=hG.2.1;have q2:=hG.2.2.1;have q3:=hG.2.2.2.1;have q4:=hG.2.2.2.2.1;have q5:=hG.2.2.2.2.2;exact ⟨keepCell Ba q0,keepCell Ba q1,keepCell Ba q2,keepCell Ba q3,q4.alloc _,q5.alloc q5.size _⟩)
   clear hK K hH
   have hH:=hH2
   clear hH2
   try simp only [Act.put,sA,sB,sC]
   have hT:VZ ((W.alloc (.cells #[.int .i64 0,.int .i64 0] 27)).drew) W.heap.size:=VZ.drew (VZ.here _ _ _ _)
   obtain ⟨gT,hgT⟩:∃ g,g=W.heap.size:=⟨_,rfl⟩
   have hlT:w.heap.size<gT∧b<gT:=by rw [hgT];exact ⟨q4.lt,lt_of_cell q0⟩
   rw [← hgT] at hT
   try rw [← hgT]
   clear hgT q0 q1 q2 q3 q4 q5
   generalize (W.alloc (.cells #[.int .i64 0,.int .i64 0] 27)).drew=wx12 at *
   refine U1 13 0 rfl (fun K hK=>?_)
   try clear hb
   have hG:=hH
   replace hG:=S3o0 hG;(try dsimp only at hG);have q0:=hG.1;have q1:=hG.2.1;have q2:=hG.2.2.1;have q3:=hG.2.2.2.1;have q4:=hG.2.2.2.2.1;have q5:=hG.2.2.2.2.2
   have hZT:=VZ.lt hT
   go_simp
   refine hK.out _ _ ?hsr1_14 (fun hH2=>?hrr1_14)
   case hsr1_14=>exact S3i0 (by have hG:=hH;replace hG:=S3o0 hG;(try dsimp only at hG);have q0:=hG.1;have q1:=hG.2.1;have q2:=hG.2.2.1;have q3:=hG.2.2.2.1;have q4:=hG.2.2.2.2.1;have q5:=hG.2.2.2.2.2;exact ⟨keepCell Ba q0,keepCell Ba q1,keepCell Ba q2,keepCell Ba q3,q4.alloc _,q5.alloc q5.size _⟩)
   clear hK K hH
   have hH:=hH2
   clear hH2
   try simp only [Act.put,sA,sB,sC]
   have hU:VZ (wx12.alloc (.cells #[.int .i64 0,.int .i64 0] 27)) wx12.heap.size:=VZ.here _ _ _ _
   replace hT:=keepVZ ((Below.refl _ _).alloc (Nat.le_refl _) (.cells #[.int .i64 0,.int .i64 0] 27)) hT
   obtain ⟨gU,hgU⟩:∃ g,g=wx12.heap.size:=⟨_,rfl⟩
   have hlU:w.heap.size<gU∧b<gU∧gT<gU:=by rw [hgU];exact ⟨q4.lt,lt_of_cell q0,hZT⟩
   rw [← hgU] at hU
   try rw [← hgU]
   clear hgU q0 q1 q2 q3 q4 q5
   generalize wx12.alloc (.cells #[.int .i64 0,.int .i64 0] 27)=wx13 at *
   refine U1 14 1 rfl (fun K hK=>?_)
   have hG:=hH
   replace hG:=S3o0 hG;(try dsimp only at hG);have q0:=hG.1;have q1:=hG.2.1;have q2:=hG.2.2.1;have q3:=hG.2.2.2.1;have q4:=hG.2.2.2.2.1;have q5:=hG.2.2.2.2.2
   have HT:=hid hT
   have HU:=hid hU
   obtain ⟨⟨z0,z1,y0,y1⟩,yf⟩:=hT
   obtain ⟨⟨u0,u1,v0,v1⟩,uf⟩:=hU
   have hbT:¬ gT=b:=by omega
   go_simp
   refine hK.out _ _ ?hsr1_15 (fun hH2=>?hrr1_15)
   case hsr1_15=>exact S3i1 ⟨by go_simp,by go_simp⟩
   clear hK K hH
   have hH:=hH2
   clear hH2
   try simp only [Act.put,sA,sB,sC]
   refine U1 15 2 rfl (fun K hK=>?_)
   go_simp
   refine hK.out _ _ ?hsr1_16 (fun hH2=>?hrr1_16)
   case hsr1_16=>exact S3i2
   clear hK K hH
   have hH:=hH2
   clear hH2
   try simp only [Act.put,sA,sB,sC]
   refine wpAnyU_done (by kernel_rfl) ?_ _ _
   refine NoPanic.normal ?_
   have hne:¬ gT=gU:=by omega
   have hne2:¬ gU=gT:=by omega
   go_wp2_with fail
   go_meet
   refine ⟨gT,gU,rfl,rfl,by go_simp,by go_simp,by go_simp,by go_simp,by omega,by omega,(((q4.set _ _).set _ _).set _ _).set _ _,by go_grown⟩
  refine Uc 0 rfl (fun K hK=>?_) ?_
  ·try clear hb
   have hG:=hH
   replace hG:=S3o0 hG;(try dsimp only at hG);have q0:=hG.1;have q1:=hG.2.1;have q2:=hG.2.2.1;have q3:=hG.2.2.2.1;have q4:=hG.2.2.2.2.1;have q5:=hG.2.2.2.2.2
   go_simp
   refine hK.out _ _ ?hsr1_17 (fun hH2=>?hrr1_17)
   case hsr1_17=>exact S3i0 (by have hG:=hH;replace hG:=S3o0 hG;(try dsimp only at hG);have q0:=hG.1;have q1:=hG.2.1;have q2:=hG.2.2.1;have q3:=hG.2.2.2.1;have q4:=hG.2.2.2.2.1;have q5:=hG.2.2.2.2.2;exact ⟨keepCell Ba q0,keepCell Ba q1,keepCell Ba q2,keepCell Ba q3,q4.alloc _,q5.alloc q5.size _⟩)
   clear hK K hH
   have hH:=hH2
   clear hH2
   try simp only [Act.put,sA,sB,sC]
   have hU:VZ ((W.alloc (.cells #[.int .i64 0,.int .i64 0] 27)).drew) W.heap.size:=VZ.drew (VZ.here _ _ _ _)
   obtain ⟨gU,hgU⟩:∃ g,g=W.heap.size:=⟨_,rfl⟩
   have hlU:w.heap.size<gU∧b<gU:=by rw [hgU];exact ⟨q4.lt,lt_of_cell q0⟩
   rw [← hgU] at hU
   try rw [← hgU]
   clear hgU q0 q1 q2 q3 q4 q5
   generalize (W.alloc (.cells #[.int .i64 0,.int .i64 0] 27)).drew=wx13 at *
   refine U1 12 0 rfl (fun K hK=>?_)
   try clear hb
   have hG:=hH
   replace hG:=S3o0 hG;(try dsimp only at hG);have q0:=hG.1;have q1:=hG.2.1;have q2:=hG.2.2.1;have q3:=hG.2.2.2.1;have q4:=hG.2.2.2.2.1;have q5:=hG.2.2.2.2.2
   have hZU:=VZ.lt hU
   go_simp
   refine hK.out _ _ ?hsr1_18 (fun hH2=>?hrr1_18)
   case hsr1_18=>exact S3i0 (by have hG:=hH;replace hG:=S3o0 hG;(try dsimp only at hG);have q0:=hG.1;have q1:=hG.2.1;have q2:=hG.2.2.1;have q3:=hG.2.2.2.1;have q4:=hG.2.2.2.2.1;have q5:=hG.2.2.2.2.2;exact ⟨keepCell Ba q0,keepCell Ba q1,keepCell Ba q2,keepCell Ba q3,q4.alloc _,q5.alloc q5.size _⟩)
   clear hK K hH
   have hH:=hH2
   clear hH2
   try simp only [Act.put,sA,sB,sC]
   have hT:VZ (wx13.alloc (.cells #[.int .i64 0,.int .i64 0] 27)) wx13.heap.size:=VZ.here _ _ _ _
   replace hU:=keepVZ ((Below.refl _ _).alloc (Nat.le_refl _) (.cells #[.int .i64 0,.int .i64 0] 27)) hU
   obtain ⟨gT,hgT⟩:∃ g,g=wx13.heap.size:=⟨_,rfl⟩
   have hlT:w.heap.size<gT∧b<gT∧gU<gT:=by rw [hgT];exact ⟨q4.lt,lt_of_cell q0,hZU⟩
   rw [← hgT] at hT
   try rw [← hgT]
   clear hgT q0 q1 q2 q3 q4 q5
   generalize wx13.alloc (.cells #[.int .i64 0,.int .i64 0] 27)=wx12 at *
   refine U1 14 1 rfl (fun K hK=>?_)
   have hG:=hH
   replace hG:=S3o0 hG;(try dsimp only at hG);have q0:=hG.1;have q1:=hG.2.1;have q2:=hG.2.2.1;have q3:=hG.2.2.2.1;have q4:=hG.2.2.2.2.1;have q5:=hG.2.2.2.2.2
   have HT:=hid hT
   have HU:=hid hU
   obtain ⟨⟨z0,z1,y0,y1⟩,yf⟩:=hT
   obtain ⟨⟨u0,u1,v0,v1⟩,uf⟩:=hU
   have hbT:¬ gT=b:=by omega
   go_simp
   refine hK.out _ _ ?hsr1_19 (fun hH2=>?hrr1_19)
   case hsr1_19=>exact S3i1 ⟨by go_simp,by go_simp⟩
   clear hK K hH
   have hH:=hH2
   clear hH2
   try simp only [Act.put,sA,sB,sC]
   refine U1 15 2 rfl (fun K hK=>?_)
   go_simp
   refine hK.out _ _ ?hsr1_20 (fun hH2=>?hrr1_20)
   case hsr1_20=>exact S3i2
   clear hK K hH
   have hH:=hH2
   clear hH2
   try simp only [Act.put,sA,sB,sC]
   refine wpAnyU_done (by kernel_rfl) ?_ _ _
   refine NoPanic.normal ?_
   have hne:¬ gT=gU:=by omega
   have hne2:¬ gU=gT:=by omega
   go_wp2_with fail
   go_meet
   refine ⟨gT,gU,rfl,rfl,by go_simp,by go_simp,by go_simp,by go_simp,by omega,by omega,(((q4.set _ _).set _ _).set _ _).set _ _,by go_grown⟩
  exact AllReadyU.nil
 case rest =>
  obtain ⟨gT,gU,rfl,rfl,c0,c1,d0,d1,hg1,hg2,hz,hB⟩:=hcut
  obtain ⟨⟨z0,z1,y0,y1⟩,yf⟩:=hz
  generalize px l i=x1 at *
  generalize py l i=x2 at *
  generalize px l j=x3 at *
  generalize py l j=x4 at *
  clear HZ0 hB0 xi yi xj yj
  go_wp2
  refine bodyPost_ret (v:=vecV (x4-x2) (x1-x3)) (by simp [results,Tryz.results62,go_sem,y0,y1]) rfl ⟨by rw [HN.out.1,HN.out.2],by go_grown⟩

def rootB (n : Int) : Nat → Int → Int
 | 0,a=>a
 | k+1,a=>if (a+2 ^ k)*(a+2 ^ k)≤n then rootB n k (a+2 ^ k) else rootB n k a
def rootZ (n:Int):Int:=rootB n 64 0
theorem rootB_spec (n:Int):∀ (k:Nat) (a:Int),0≤a→a*a≤n→n<(a+2 ^ k)*(a+2 ^ k)→0≤rootB n k a∧rootB n k a*rootB n k a≤n∧n<(rootB n k a+1)*(rootB n k a+1):=by
 intro k
 induction k with
 | zero=>intro a h0 h1 h2;exact ⟨h0,h1,by simpa [rootB] using h2⟩
 | succ k ih =>
  intro a h0 h1 h2
  have hp:(0:Int)<2 ^ k:=Int.pow_pos (by omega)
  have e:(2:Int) ^ (k+1)=2 ^ k+2 ^ k:=by rw [Int.pow_succ];omega
  unfold rootB
  split
  ·rename_i h;exact ih _ (by omega) h (by rw [e] at h2;rwa [show a+2 ^ k+2 ^ k=a+(2 ^ k+2 ^ k) by omega])
  ·rename_i h;exact ih _ h0 h1 (by omega)
theorem rootZ_spec {n:Int} (h0:0≤n) (h1:n<340282366920938463463374607431768211456):0≤rootZ n∧rootZ n*rootZ n≤n∧n<(rootZ n+1)*(rootZ n+1) :=
 rootB_spec n 64 0 (by omega) (by omega) (by
  have e:((0:Int)+2 ^ 64)*(0+2 ^ 64)=340282366920938463463374607431768211456:=by decide
  rw [e];exact h1)
theorem sq_lt {r s:Int} (h0:0≤r) (h:r<s):(r+1)*(r+1)≤s*s:=Int.mul_le_mul (by omega) (by omega) (by omega) (by omega)
theorem rootZ_eq {n r:Int} (h0:0≤n) (hn:n<340282366920938463463374607431768211456) (hr:0≤r) (h1:r*r≤n) (h2:n<(r+1)*(r+1)):rootZ n=r:=by
 obtain ⟨s0,s1,s2⟩:=rootZ_spec h0 hn
 rcases Int.lt_trichotomy (rootZ n) r with h | h | h
 ·have:=sq_lt s0 h;omega
 ·exact h
 ·have:=sq_lt hr h;omega
theorem root_calls (n:Int) (h0:0≤n) (h1:n<4611686018427387904) (w:World):Calls Tryz.prog 119 #[.int .i64 n] w (Ret (.int .i64 (rootZ n)) w):=by
 go_enter Tryz.func119,Tryz.ntmps119
 go_wp2
 go_loopw [3,4] (fun a b wr=>∃ lo hi:Int,a = .int .i64 lo∧b = .int .i64 hi∧0≤lo∧lo<hi∧hi≤2147483648∧lo*lo≤n∧n<hi*hi∧Below w.heap.size w wr) (fun a b _=>(intOf b-intOf a).toNat)
 case atStart=>exact ⟨0,2147483648,rfl,rfl,by omega,by omega,by omega,by omega,by omega,Below.refl _ _⟩
 case round =>
  obtain ⟨lo,hi,rfl,rfl,b0,b1,b2,s1,s2,hB⟩:=hrel
  obtain ⟨wo,rfl⟩:∃ wo:World,wo=wr:=⟨_,rfl⟩
  have w1:IntKind.i64.wrap (hi-lo)=hi-lo:=IntWalk.i64_in _ (by omega)
  by_cases hgt:1<hi-lo
  ·obtain ⟨m, hm⟩ : ∃ m, m = (lo + hi) / 2 := ⟨_, rfl⟩
   have w2:IntKind.i64.wrap (lo+hi)=lo+hi:=IntWalk.i64_in _ (by omega)
   have w3:(lo+hi).tdiv 2=m:=by rw [Int.tdiv_eq_ediv_of_nonneg (by omega),hm]
   have w4:IntKind.i64.wrap m=m:=IntWalk.i64_in _ (by omega)
   have q:=mul_bd (x:=m) (y:=m) (M:=2147483648) (N:=2147483648) (by omega) (by omega) (by omega) (by omega)
   have w5:IntKind.i64.wrap (m*m)=m*m:=IntWalk.i64_in _ (by omega)
   have hm1:lo<m:=by omega
   have hm2:m<hi:=by omega
   clear hm
   by_cases hle:m*m≤n
   ·go_wp2
    go_roundw
    case rel=>exact ⟨m,hi,rfl,rfl,by omega,by omega,b2,hle,s2,hB⟩
    case measure=>simp [intOf];omega
   ·go_wp2
    go_roundw
    case rel=>exact ⟨lo,m,rfl,rfl,by omega,by omega,by omega,s1,by omega,hB⟩
    case measure=>simp [intOf];omega
  ·have he : hi = lo + 1 := by omega
   have HR:Hid (rootZ n=lo):=rootZ_eq h0 (by omega) b0 s1 (by rw [he] at s2;exact s2)
   clear s1 s2
   go_wp2
   go_returns
   exact ret_int HR.out.symm hB

def lenZ (x y:Int):Int:=rootZ (x*x+y*y)
theorem slength_calls (x y:Int) (hx : -1073741824≤x∧x≤1073741824) (hy : -1073741824≤y∧y≤1073741824) (w:World):Calls Tryz.prog 69 #[vecV x y] w (Ret (.int .i64 (lenZ x y)) w):=by
 have m1:=mul_bd (x:=x) (y:=x) (M:=1073741824) (N:=1073741824) (by omega) (by omega) (by omega) (by omega)
 have m2:=mul_bd (x:=y) (y:=y) (M:=1073741824) (N:=1073741824) (by omega) (by omega) (by omega) (by omega)
 have p1:0≤x*x:=by have:=Int.mul_self_le_mul_self (show (0:Int)≤0 by omega) (show (0:Int)≤0 by omega);exact (by rcases Int.le_total 0 x with h | h;exact Int.mul_nonneg h h;exact Int.mul_nonneg_of_nonpos_of_nonpos h h)
 have p2:0≤y*y:=by rcases Int.le_total 0 y with h | h;exact Int.mul_nonneg h h;exact Int.mul_nonneg_of_nonpos_of_nonpos h h
 have w1:IntKind.i64.wrap (x*x)=x*x:=IntWalk.i64_in _ (by omega)
 have w2:IntKind.i64.wrap (y*y)=y*y:=IntWalk.i64_in _ (by omega)
 have w3:IntKind.i64.wrap (x*x+y*y)=x*x+y*y:=IntWalk.i64_in _ (by omega)
 have HR:=hid (root_calls (x*x+y*y) (by omega) (by omega))
 obtain ⟨q,hq⟩:∃ q,q=lenZ x y:=⟨_,rfl⟩
 unfold lenZ at hq
 rw [← hq] at HR
 have HQ:Hid (lenZ x y=q):=hq.symm
 rw [HQ.out]
 clear hq m1 m2 p1 p2
 go_enter Tryz.func69,Tryz.ntmps69
 go_wp2_with fail
 refine (HR.out _).mono ?_
 rintro e w1 ⟨rfl,hb1⟩
 go_wp2
 go_returns
 exact ret_int rfl (((Below.refl w.heap.size w).alloc (Nat.le_refl _) _).trans (hb1.mono (by simp)))
end
end Go.Proofs.YtiaoandbdgdecaaGreat
namespace Go.Proofs.YtiaoandbdgdecaaGreat
section
set_option linter.unusedVariables false
set_option linter.unusedSimpArgs false
open Go.RowKit

def bitK : Nat → Nat
 | 0=>0
 | k+1=>2 ^ k
theorem bitK_half (k:Nat):2 ^ k / 2=bitK k:=by
 cases k with
 | zero=>rfl
 | succ k=>rw [Nat.pow_succ];show _=2 ^ k;omega
theorem or_bit (q k:Nat):(q*(2*2 ^ k)) ||| 2 ^ k=q*(2*2 ^ k)+2 ^ k:=by
 have h:=Nat.two_pow_add_eq_or_of_lt (i:=k+1) (b:=2 ^ k) (by rw [Nat.pow_succ];have:=Nat.two_pow_pos k;omega) q
 rw [show (2:Nat) ^ (k+1)=2*2 ^ k by rw [Nat.pow_succ];omega,Nat.mul_comm] at h
 exact h.symm
theorem froot_calls (hi lo:Int) (h0:0≤hi) (h1:hi<18446744073709551616) (l0:0≤lo) (l1:lo<18446744073709551616) (w:World) :
  Calls Tryz.prog 192 #[.int .u64 hi,.int .u64 lo] w (Ret (.int .u64 (rootZ (hi*18446744073709551616+lo))) w):=by
 obtain ⟨n,hn⟩:∃ n,n=hi*18446744073709551616+lo:=⟨_,rfl⟩
 rw [← hn]
 go_enter Tryz.func192,Tryz.ntmps192
 go_wp2
 go_loopw [5,6] (fun o b wr=>∃ (k q:Nat),k≤64∧o = .int .u64 ((q*2 ^ k:Nat):Int)∧b = .int .u64 ((bitK k:Nat):Int)∧q*2 ^ k+2 ^ k≤18446744073709551616∧rootB n k ((q*2 ^ k:Nat):Int)=rootZ n∧Below w.heap.size w wr) (fun _ b _=>(intOf b).toNat)
 case atStart=>exact ⟨64,0,by omega,by simp,by simp [bitK],by decide,by simp [rootZ],Below.refl _ _⟩
 case round =>
  obtain ⟨k,q,hk,rfl,rfl,hle,hroot,hB⟩:=hrel
  obtain ⟨wo,rfl⟩:∃ wo:World,wo=wr:=⟨_,rfl⟩
  have HR:=hid hroot
  clear hroot
  cases k with
  | zero =>
   have e0:((bitK 0:Nat):Int)=0:=rfl
   have HQ:Hid (rootZ n=((q*2 ^ 0:Nat):Int)):=by show _=_;rw [← HR.out];rfl
   generalize ((q*2 ^ 0:Nat):Int)=a at *
   rw [e0]
   clear HR hle
   go_wp2
   go_returns
   exact ret_int HQ.out.symm hB
  | succ k =>
   obtain ⟨P,hP⟩:∃ P,P=2 ^ k:=⟨_,rfl⟩
   have hp0:0<P:=by rw [hP];exact Nat.two_pow_pos k
   have e2:2 ^ (k+1)=2*P:=by rw [Nat.pow_succ,hP];omega
   have eb:bitK (k+1)=P:=by rw [hP];rfl
   have ehalf:P / 2=bitK k:=by rw [hP];exact bitK_half k
   have eor:=or_bit q k
   rw [← hP] at eor
   rw [e2] at hle HR ⊢
   rw [eb]
   obtain ⟨a,ha⟩:∃ a,a=q*(2*P):=⟨_,rfl⟩
   rw [← ha] at hle HR eor ⊢
   have hor:bits .or .u64 (a:Int) (P:Int)=((a+P:Nat):Int):=by rw [bits_or_u64_nat a P (by omega) (by omega),eor]
   obtain ⟨x,hx⟩:∃ x:Int,x=((a+P:Nat):Int):=⟨_,rfl⟩
   rw [← hx] at hor
   have hx0:0≤x:=by omega
   have hx1:x<18446744073709551616:=by omega
   obtain ⟨z,hz⟩:∃ z,z=x*x:=⟨_,rfl⟩
   have hz0:0≤z:=by rw [hz];exact Int.mul_nonneg hx0 hx0
   have HM:=hid (mul64_int x x hx0 hx1 hx0 hx1)
   rw [← hz] at HM
   have HS:Hid (rootB n (k+1) (a:Int)=if z≤n then rootB n k x else rootB n k (a:Int)):=by
    show _=_
    have ex:(a:Int)+2 ^ k=x:=by rw [hx,hP];simp
    rw [rootB,ex,← hz]
   have hpos:(0:Int)<(P:Int):=by omega
   have hsh:(P:Int) / 2=((bitK k:Nat):Int):=by rw [← ehalf];omega
   have hA:a=2*q*2 ^ k:=by rw [ha,hP,Nat.mul_comm q,Nat.mul_comm 2 q];rw [Nat.mul_comm (2*2 ^ k) q,Nat.mul_comm q 2,Nat.mul_assoc 2 q,Nat.mul_left_comm]
   have hAX:a+P=(2*q+1)*2 ^ k:=by rw [Nat.add_mul,Nat.one_mul,← hA,hP]
   have HK:=hid (And.intro hA hAX)
   have HX:=hid hx
   have hdq:z / 18446744073709551616<hi∨(z / 18446744073709551616=hi∧z % 18446744073709551616≤lo)↔z≤n:=by omega
   clear hA hAX hx hz eor ehalf e2 eb ha hP
   go_wp2_with fail
   refine (HM.out _).mono ?_
   rintro e w2 ⟨rfl,rfl⟩
   obtain ⟨h,hh⟩:∃ h,h=z / 18446744073709551616:=⟨_,rfl⟩
   obtain ⟨t,ht⟩:∃ t,t=z % 18446744073709551616:=⟨_,rfl⟩
   rw [← hh,← ht] at hdq ⊢
   by_cases hzn:z≤n
   ·have hc := hdq.2 hzn
    have HX1:Hid (x=(((2*q+1)*2 ^ k:Nat):Int)):=by show _=_;rw [← HK.out.2,HX.out]
    have HR1:Hid (rootB n k (((2*q+1)*2 ^ k:Nat):Int)=rootZ n):=by show _=_;rw [← HX1.out,← HR.out,HS.out,if_pos hzn]
    have HL1:Hid ((2*q+1)*2 ^ k+2 ^ k≤18446744073709551616):=by
     show _≤_
     have e:=HK.out.2
     have e2:2 ^ k=P:=by
      have e1:=HK.out.1
      have:a+P=2*q*2 ^ k+2 ^ k:=by rw [e,Nat.add_mul,Nat.one_mul]
      omega
     omega
    clear hdq hzn HK HR HS HM
    rcases hc with hlt | ⟨heq,hle2⟩
    ·clear hh ht
     go_wp2
     go_roundw
     case rel=>exact ⟨k,2*q+1,by omega,by rw [HX1.out],rfl,HL1.out,HR1.out,hB⟩
     case measure=>simp [intOf];omega
    ·have e1 : ¬ h < hi := by omega
     have e2:(h == hi)=true:=by simp [heq]
     clear hh ht heq
     go_wp2
     go_roundw
     case rel=>exact ⟨k,2*q+1,by omega,by rw [HX1.out],rfl,HL1.out,HR1.out,hB⟩
     case measure=>simp [intOf];omega
   ·have hc : ¬ (h < hi ∨ (h = hi ∧ t ≤ lo)) := fun g => hzn (hdq.1 g)
    have HX1:Hid ((a:Int)=((2*q*2 ^ k:Nat):Int)):=by show _=_;rw [← HK.out.1]
    have HR1:Hid (rootB n k ((2*q*2 ^ k:Nat):Int)=rootZ n):=by show _=_;rw [← HX1.out,← HR.out,HS.out,if_neg hzn]
    have HL1:Hid (2*q*2 ^ k+2 ^ k≤18446744073709551616):=by
     show _≤_
     have e1:=HK.out.1
     have e:a+P=2*q*2 ^ k+2 ^ k:=by rw [HK.out.2,Nat.add_mul,Nat.one_mul]
     omega
    have e1:¬ h<hi:=fun g=>hc (.inl g)
    clear hdq hzn HK HR HS HM hor
    by_cases heq:h=hi
    ·have e2 : (h == hi) = true := by simp [heq]
     have e3:¬ t≤lo:=fun g=>hc (.inr ⟨heq,g⟩)
     clear hh ht heq hc
     go_wp2
     go_roundw
     case rel=>exact ⟨k,2*q,by omega,by rw [HX1.out],rfl,HL1.out,HR1.out,hB⟩
     case measure=>simp [intOf];omega
    ·have e2 : (h == hi) = false := by simp [heq]
     clear hh ht heq hc
     go_wp2
     go_roundw
     case rel=>exact ⟨k,2*q,by omega,by rw [HX1.out],rfl,HL1.out,HR1.out,hB⟩
     case measure=>simp [intOf];omega

theorem vmag_calls (a:Int) (h1 : -4611686018427387904≤a) (h2:a≤4611686018427387904) (w:World):Calls Tryz.prog 156 #[.int .i64 a] w (Ret (.int .u64 (absZ a)) w):=by
 have w1:IntKind.i64.wrap (-a) = -a:=IntWalk.i64_in _ (by omega)
 obtain ⟨x,hx⟩:∃ x,x=absZ a:=⟨_,rfl⟩
 have bx:0≤x∧x≤4611686018427387904:=by rw [hx];unfold absZ;split <;> omega
 have hrun:∀ (ts:Array TypeId) (t:TypeId) (w:World),(Builtin.max_ ts t #[.int .i64 a,.int .i64 (-a)]).run Tryz.prog w = .ok (.int .i64 x) w:=fun ts t w=>by
  rw [run_max_int2,show (if -a > a then -a else a)=absZ a by unfold absZ;split <;> split <;> omega,hx]
 have w2:IntKind.u64.wrap x=x:=IntWalk.u64_in _ (by omega)
 rw [← hx]
 clear hx
 go_enter Tryz.func156,Tryz.ntmps156
 go_wp2
 go_returns
 exact ret_int rfl (Below.refl _ _)
theorem absZ_sq (a:Int):absZ a*absZ a=a*a:=by unfold absZ;split;exact Int.neg_mul_neg a a;rfl
theorem sq_nonneg (a:Int):0≤a*a:=by rcases Int.le_total 0 a with h | h;exact Int.mul_nonneg h h;exact Int.mul_nonneg_of_nonpos_of_nonpos h h
theorem vlength_calls (x y:Int) (hx : -4398046511104≤x∧x≤4398046511104) (hy : -4398046511104≤y∧y≤4398046511104) (w:World):Calls Tryz.prog 157 #[.int .i64 x,.int .i64 y] w (Ret (.int .i64 (lenZ x y)) w):=by
 have HMX:=hid (vmag_calls x (by omega) (by omega))
 have HMY:=hid (vmag_calls y (by omega) (by omega))
 obtain ⟨mx,hmx⟩:∃ m,m=absZ x:=⟨_,rfl⟩
 obtain ⟨my,hmy⟩:∃ m,m=absZ y:=⟨_,rfl⟩
 have bx:0≤mx∧mx≤4398046511104:=by rw [hmx];unfold absZ;split <;> omega
 have bY:0≤my∧my≤4398046511104:=by rw [hmy];unfold absZ;split <;> omega
 obtain ⟨A,hA⟩:∃ A,A=x*x:=⟨_,rfl⟩
 obtain ⟨B,hB⟩:∃ B,B=y*y:=⟨_,rfl⟩
 have HX:=hid (mul64_int mx mx (by omega) (by omega) (by omega) (by omega))
 have HY:=hid (mul64_int my my (by omega) (by omega) (by omega) (by omega))
 rw [show mx*mx=A by rw [hmx,hA,absZ_sq]] at HX
 rw [show my*my=B by rw [hmy,hB,absZ_sq]] at HY
 have b1:=mul_bd (x:=x) (y:=x) (M:=4398046511104) (N:=4398046511104) (by omega) (by omega) (by omega) (by omega)
 have b2:=mul_bd (x:=y) (y:=y) (M:=4398046511104) (N:=4398046511104) (by omega) (by omega) (by omega) (by omega)
 have p1:=sq_nonneg x
 have p2:=sq_nonneg y
 rw [← hA] at b1 p1
 rw [← hB] at b2 p2
 have HL:Hid (lenZ x y=rootZ (A+B)):=by show _=_;unfold lenZ;rw [hA,hB]
 rw [← hmx] at HMX
 rw [← hmy] at HMY
 clear hmx hmy hA hB
 obtain ⟨r,hr⟩:∃ r,r=rootZ (A+B):=⟨_,rfl⟩
 obtain ⟨r0,r1,r2⟩:=rootZ_spec (n:=A+B) (by omega) (by omega)
 rw [← hr] at r0 r1 r2
 have rb:r≤8796093022208:=by
  rcases Int.lt_or_le 8796093022208 r with h | h
  ·have := Int.mul_le_mul (show 8796093022209 ≤ r by omega) (show 8796093022209 ≤ r by omega) (by omega) (by omega)
   omega
  ·exact h
 obtain ⟨a1,ha1⟩:∃ a,a=A / 18446744073709551616:=⟨_,rfl⟩
 obtain ⟨a0,ha0⟩:∃ a,a=A % 18446744073709551616:=⟨_,rfl⟩
 obtain ⟨c1,hc1⟩:∃ a,a=B / 18446744073709551616:=⟨_,rfl⟩
 obtain ⟨c0,hc0⟩:∃ a,a=B % 18446744073709551616:=⟨_,rfl⟩
 rw [← ha1,← ha0] at HX
 rw [← hc1,← hc0] at HY
 obtain ⟨s0,hs0⟩:∃ s,s=(a0+c0) % 18446744073709551616:=⟨_,rfl⟩
 obtain ⟨cy,hcy⟩:∃ s,s=(a0+c0) / 18446744073709551616:=⟨_,rfl⟩
 obtain ⟨s1,hs1⟩:∃ s,s=(a1+c1+cy) % 18446744073709551616:=⟨_,rfl⟩
 have E1:∀ w:World,(callFunc 191 #[.int .u64 a0,.int .u64 c0,.int .u64 0]).run Tryz.prog w = .ok (.value (.tuple #[.int .u64 s0,.int .u64 cy])) w:=fun w=>by
  rw [hs0,hcy];exact ext_add64 a0 c0 (by omega) (by omega) w
 obtain ⟨ov,hov⟩:∃ s,s=(a1+c1+cy) / 18446744073709551616:=⟨_,rfl⟩
 have E2:∀ w:World,(callFunc 191 #[.int .u64 a1,.int .u64 c1,.int .u64 cy]).run Tryz.prog w = .ok (.value (.tuple #[.int .u64 s1,.int .u64 ov])) w:=fun w=>by
  have h:=run_add64 (P:=Tryz.prog) a1 c1 cy (by omega) (by omega) (by omega) (by omega) w
  rw [run_callFunc_extern Tryz.func191 (by kernel_rfl) (by kernel_rfl) (by kernel_rfl) (e:=add64Entry) (by kernel_rfl),h,hs1,hov]
  rfl
 have hsum:s1*18446744073709551616+s0=A+B:=by omega
 have HRT:=hid (froot_calls s1 s0 (by omega) (by omega) (by omega) (by omega))
 rw [hsum,← hr] at HRT
 have wr:IntKind.i64.wrap r=r:=IntWalk.i64_in _ (by omega)
 rw [HL.out,← hr]
 clear HL hr r1 r2 hsum hs0 hs1 hcy hov ha1 ha0 hc1 hc0 b1 b2 p1 p2
 go_enter Tryz.func157,Tryz.ntmps157
 go_wp2_with fail
 refine (HMX.out _).mono ?_
 rintro e v1 ⟨rfl,hv1⟩
 go_wp2_with fail
 refine (HMX.out _).mono ?_
 rintro e v2 ⟨rfl,hv2⟩
 go_wp2_with fail
 refine (HX.out _).mono ?_
 rintro e v3 ⟨rfl,hq3⟩
 rw [hq3]
 clear hq3
 go_wp2_with fail
 refine (HMY.out _).mono ?_
 rintro e v4 ⟨rfl,hv4⟩
 go_wp2_with fail
 refine (HMY.out _).mono ?_
 rintro e v5 ⟨rfl,hv5⟩
 go_wp2_with fail
 refine (HY.out _).mono ?_
 rintro e v6 ⟨rfl,hq6⟩
 rw [hq6]
 clear hq6
 have hBv:=keepBelow hv5 (keepBelow hv4 (keepBelow hv2 hv1))
 clear hv1 hv2 hv4 hv5
 go_wp2_with (first | simp only [E1] | simp only [E2])
 refine (HRT.out _).mono ?_
 rintro e v7 ⟨rfl,hv7⟩
 have hB7:=keepBelow hv7 hBv
 clear hv7 hBv
 go_wp2
 go_returns
 exact ret_int rfl hB7
end
end Go.Proofs.YtiaoandbdgdecaaGreat
