/- Parts of a proof: contracts and laws. -/
import Derived.Test.YtiaoandbdgdecaaGreatPK16
import Derived.Test.YtiaoandbdgdecaaGreatPK04
set_option maxRecDepth 100000
set_option maxHeartbeats 16000000
namespace Go.Proofs.YtiaoandbdgdecaaGreat
section
set_option linter.unusedVariables false
set_option linter.unusedSimpArgs false
open Go.RowKit
theorem rroot_calls (n:Int) (h0:0≤n) (h1:n<4611686018427387904) (w:World):Calls Tryz.prog 146 #[.int .i64 n] w (Ret (.int .i64 (rootZ n)) w):=by
 go_enter Tryz.func146,Tryz.ntmps146
 go_wp2_with fail
 go_loopw [3,4] (fun a b wr=>∃ (k:Nat) (o:Int),k≤31∧a = .int .i64 o∧b = .int .i64 (2 ^ k / 2)∧0≤o∧o+2 ^ k≤2147483648∧o*o≤n∧n<(o+2 ^ k)*(o+2 ^ k)∧Below w.heap.size w wr) (fun _ b _=>(intOf b).toNat)
 case atStart =>
  have e:(2:Int) ^ 31=2147483648:=by decide
  refine ⟨31,0,by omega,rfl,by rw [e];rfl,by omega,by rw [e];omega,by omega,by rw [e];omega,Below.refl _ _⟩
 case round =>
  obtain ⟨k,o,hk,rfl,rfl,o0,o1,s1,s2,hB⟩:=hrel
  obtain ⟨wo,rfl⟩:∃ wo:World,wo=wr:=⟨_,rfl⟩
  cases k with
  | zero =>
   have e0:(2:Int) ^ 0 / 2=0:=by decide
   have e1:(2:Int) ^ 0=1:=by decide
   rw [e1] at s2
   have HR:Hid (rootZ n=o):=rootZ_eq h0 (by omega) o0 s1 s2
   rw [e0]
   clear s1 s2 o1 e0 e1
   go_wp2
   go_returns
   exact ret_int HR.out.symm hB
  | succ k =>
   have e2:(2:Int) ^ (k+1)=2 ^ k+2 ^ k:=by rw [Int.pow_succ];omega
   have e3:(2:Int) ^ (k+1) / 2=2 ^ k:=by rw [e2];omega
   have hp:(0:Int)<2 ^ k:=Int.pow_pos (by omega)
   have hpk:(2:Int) ^ k / 2≤2 ^ k-1:=by omega
   rw [e3]
   rw [e2] at o1 s2
   have HK:=hid (show ∃ m:Nat,m=k from ⟨k,rfl⟩)
   obtain ⟨b,hb⟩:∃ b:Int,b=2 ^ k:=⟨_,rfl⟩
   rw [← hb] at o1 s2 hp hpk ⊢
   have hbb:=hid hb
   clear hb e2 e3 HK
   have w1:IntKind.i64.wrap (o+b)=o+b:=IntWalk.i64_in _ (by omega)
   have m1:=mul_bd (x:=o+b) (y:=o+b) (M:=2147483648) (N:=2147483648) (by omega) (by omega) (by omega) (by omega)
   have w2:IntKind.i64.wrap ((o+b)*(o+b))=(o+b)*(o+b):=IntWalk.i64_in _ (by omega)
   have w3:b.tdiv 2=b / 2:=Int.tdiv_eq_ediv_of_nonneg (by omega)
   have w4:IntKind.i64.wrap (b / 2)=b / 2:=IntWalk.i64_in _ (by omega)
   have s2':n<(o+b+b)*(o+b+b):=by rwa [show o+b+b=o+(b+b) by omega]
   clear m1 s2
   by_cases hle:(o+b)*(o+b)≤n
   ·have HS := hid s2'
    clear s2'
    go_wp2
    go_roundw
    case rel=>exact ⟨k,o+b,by omega,rfl,by rw [← hbb.out],by omega,by rw [← hbb.out];omega,hle,by rw [← hbb.out];exact HS.out,hB⟩
    case measure=>simp [intOf];omega
   ·clear s2'
    go_wp2
    go_roundw
    case rel=>exact ⟨k,o,by omega,rfl,by rw [← hbb.out],o0,by rw [← hbb.out];omega,s1,by rw [← hbb.out];omega,hB⟩
    case measure=>simp [intOf];omega
theorem out_calls (A:Option Addr) (n c:Nat) (l:List V) (i:Nat) (w:World) (hS:Sl w A n c l) (hw:allWithin 65536000 l=true) (h3:3≤l.length) (h8:l.length≤8) (hi:i<l.length) :
  Calls Tryz.prog 98 #[.slice A n c,.int .i64 i] w (Ret (vecV (nrmX l i) (nrmY l i)) w):=by
 have hn:=hS.len
 subst hn
 obtain ⟨b,off,rfl,hC⟩:=hS.at_ (by intro h;subst h;simp at hi)
 obtain ⟨j,hje⟩:∃ j,j=(i+1) % l.length:=⟨_,rfl⟩
 have hj:j<l.length:=by rw [hje];exact Nat.mod_lt _ (by omega)
 have hji:((i:Int)+1) % (l.length:Int)=(j:Int):=by rw [hje];simp
 have hji2:(((i:Int)+1) % (l.length:Int)).toNat=j:=by omega
 have hji3:((i:Int)+1) % (l.length:Int)<(l.length:Int):=by omega
 have hji4:0≤((i:Int)+1) % (l.length:Int):=by omega
 have hwk:IntKind.i64.wrap ((i:Int)+1)=(i:Int)+1:=IntWalk.i64_in _ (by omega)
 have htm:((i:Int)+1).tmod (l.length:Int)=(j:Int):=by rw [Int.tmod_eq_emod_of_nonneg (by omega)];exact hji
 have hl0:¬ l=[]:=by intro h;rw [h] at hi;simp at hi
 have hlt':(i:Int)<(l.length:Int):=by omega
 have hjl:(j:Int)<(l.length:Int):=by omega
 obtain ⟨a1,a2,a3,a4⟩:=withinB_iff.1 (allWithin_at hw hi)
 obtain ⟨b1,b2,b3,b4⟩:=withinB_iff.1 (allWithin_at hw hj)
 obtain ⟨W,hW⟩:∃ W,W=w.alloc (.cells #[.int .i64 0,.int .i64 0] 27):=⟨_,rfl⟩
 have HZ0:=hid (show VZ W w.heap.size by rw [hW];exact VZ.here _ _ _ _)
 have hB0:Below w.heap.size w W:=by rw [hW];go_grown
 have hCW:=hC.below hB0
 have xi:=hCW.x i hi
 have yi:=hCW.y i hi
 have xj:=hCW.x j hj
 have yj:=hCW.y j hj
 have HN:Hid (nrmX l i=py l j-py l i∧nrmY l i = -(px l j-px l i)):=by show _∧_;unfold nrmX nrmY;rw [← hje];exact ⟨rfl,by omega⟩
 have u1:wrap64 (px l j-px l i)=px l j-px l i:=wrap64_id (by omega) (by omega)
 have u2:wrap64 (py l j-py l i)=py l j-py l i:=wrap64_id (by omega) (by omega)
 have u3:IntKind.i64.wrap (-(px l j-px l i)) = -(px l j-px l i):=IntWalk.i64_in _ (by omega)
 have HSB:=hid (sub_calls (px l j) (py l j) (px l i) (py l i))
 rw [u1,u2] at HSB
 clear hS hC hje hw hCW u1 u2
 obtain ⟨nx,hnx⟩:∃ z,z=nrmX l i:=⟨_,rfl⟩
 obtain ⟨ny,hny⟩:∃ z,z=nrmY l i:=⟨_,rfl⟩
 rw [← hnx,← hny] at HN ⊢
 clear hnx hny
 generalize px l i=x1 at *
 generalize py l i=y1 at *
 generalize px l j=x2 at *
 generalize py l j=y2 at *
 generalize x2-x1=ex at *
 generalize y2-y1=ey at *
 go_enter Tryz.func98,Tryz.ntmps98
 go_upto_region 1 with fail
 rw [← hW]
 clear hW
 go_cut [5] from 6 to 18 (fun t wx=>∃ gT:Nat,t = .pointer (some ⟨gT,0,none⟩)∧wx.cell? ⟨gT,0,none⟩=some (.int .i64 ex)∧wx.cell? ⟨gT,1,none⟩=some (.int .i64 ey)∧w.heap.size<gT∧VZ wx w.heap.size∧Below w.heap.size w wx)
 case first =>
  refine wp_region_noPanic ?_
  refine wp_region_U (S:=(S2 (fun w'=>w'.cell? ⟨b,off+j*2,none⟩=some (.int .i64 (x2))∧w'.cell? ⟨b,off+j*2+1,none⟩=some (.int .i64 (y2))∧w'.cell? ⟨b,off+i*2,none⟩=some (.int .i64 (x1))∧w'.cell? ⟨b,off+i*2+1,none⟩=some (.int .i64 (y1))∧VZ w' w.heap.size∧Below w.heap.size w w'))) (T:=(fun j=>[0,0,0,0,0,0,0,0,0,0,0,0,0,0,1].getD j 0)) (by kernel_rfl) (S2i0 ⟨xj,yj,xi,yi,HZ0.out.drew,hB0.drew⟩) (fun hH=>?_)
  have hWr1:Weaker (S2 (fun w'=>w'.cell? ⟨b,off+j*2,none⟩=some (.int .i64 (x2))∧w'.cell? ⟨b,off+j*2+1,none⟩=some (.int .i64 (y2))∧w'.cell? ⟨b,off+i*2,none⟩=some (.int .i64 (x1))∧w'.cell? ⟨b,off+i*2+1,none⟩=some (.int .i64 (y1))∧VZ w' w.heap.size∧Below w.heap.size w w')):=weaker2 _
  refine Utn [(0,6),(1,7),(2,8),(3,9),(4,10),(5,11),(6,12),(7,13),(8,14),(9,15),(10,16),(11,17)] 3 0 0 (L':=?Lr1_1) hWr1 hH ?hyr1_1 ?_
  case hyr1_1=>((iterate 12 apply tkC;rfl;kernel_rfl;intro w' hSw;replace hSw:=S2o0 hSw;(try dsimp only at hSw);have q0:=hSw.1;have q1:=hSw.2.1;have q2:=hSw.2.2.1;have q3:=hSw.2.2.2.1;have q4:=hSw.2.2.2.2.1;have q5:=hSw.2.2.2.2.2;(try simp only [sB,sC]);go_simp;(try with_reducible rfl));exact tkN)
  simp only [sB,sC]
  refine Ur [12,13] ?_
  refine Uc 0 rfl (fun K hK=>?_) ?_
  ·try clear hb
   go_simp
   (go_at_call 101;refine (HSB.out _).mono ?_;rintro e wn ⟨rfl,hb⟩;try (replace hT:=keepVZ hb hT))
   refine hK.out _ _ ?hsr1_13 (fun hH2=>?hrr1_13)
   case hsr1_13=>exact S2i0 (by have hG:=hH;replace hG:=S2o0 hG;(try dsimp only at hG);have q0:=hG.1;have q1:=hG.2.1;have q2:=hG.2.2.1;have q3:=hG.2.2.2.1;have q4:=hG.2.2.2.2.1;have q5:=hG.2.2.2.2.2;exact ⟨keepCell hb q0,keepCell hb q1,keepCell hb q2,keepCell hb q3,keepVZ hb q4,keepBelow hb q5⟩)
   clear hK K hH
   have hH:=hH2
   clear hH2
   try simp only [Act.put,sA,sB,sC]
   refine U1 13 0 rfl (fun K hK=>?_)
   try clear hb
   have hG:=hH
   replace hG:=S2o0 hG;(try dsimp only at hG);have q0:=hG.1;have q1:=hG.2.1;have q2:=hG.2.2.1;have q3:=hG.2.2.2.1;have q4:=hG.2.2.2.2.1;have q5:=hG.2.2.2.2.2
   go_simp
   refine hK.out _ _ ?hsr1_14 (fun hH2=>?hrr1_14)
   case hsr1_14=>exact S2i0 (by have hG:=hH;replace hG:=S2o0 hG;(try dsimp only at hG);have q0:=hG.1;have q1:=hG.2.1;have q2:=hG.2.2.1;have q3:=hG.2.2.2.1;have q4:=hG.2.2.2.2.1;have q5:=hG.2.2.2.2.2;exact ⟨keepCell Ba q0,keepCell Ba q1,keepCell Ba q2,keepCell Ba q3,q4.alloc _,q5.alloc q5.size _⟩)
   clear hK K hH
   have hH:=hH2
   clear hH2
   try simp only [Act.put,sA,sB,sC]
   have hT:VZ (wn.alloc (.cells #[.int .i64 0,.int .i64 0] 27)) wn.heap.size:=VZ.here wn _ _ _
   obtain ⟨gT,hgT⟩:∃ g,g=wn.heap.size:=⟨_,rfl⟩
   have hlT:w.heap.size<gT:=by rw [hgT];exact q4.lt
   rw [← hgT] at hT
   try rw [← hgT]
   clear hgT q0 q1 q2 q3 q4 q5
   generalize wn.alloc (.cells #[.int .i64 0,.int .i64 0] 27)=wx13 at *
   refine U1 14 1 rfl (fun K hK=>?_)
   have hG:=hH
   replace hG:=S2o0 hG;(try dsimp only at hG);have q0:=hG.1;have q1:=hG.2.1;have q2:=hG.2.2.1;have q3:=hG.2.2.2.1;have q4:=hG.2.2.2.2.1;have q5:=hG.2.2.2.2.2
   obtain ⟨⟨z0,z1,y0,y1'⟩,yf⟩:=hT
   have hle:w.heap.size≤gT:=by omega
   go_simp
   refine hK.out _ _ ?hsr1_15 (fun hH2=>?hrr1_15)
   case hsr1_15=>exact S2i1
   clear hK K hH
   have hH:=hH2
   clear hH2
   try simp only [Act.put,sA,sB,sC]
   refine wpAnyU_done (by kernel_rfl) ?_ _ _
   refine NoPanic.normal ?_
   go_wp2_with fail
   go_meet
   refine ⟨gT,rfl,by go_simp,by go_simp,by omega,(q4.set _ _).set _ _,by go_grown⟩
  refine Uc 0 rfl (fun K hK=>?_) ?_
  ·try clear hb
   have hG:=hH
   replace hG:=S2o0 hG;(try dsimp only at hG);have q0:=hG.1;have q1:=hG.2.1;have q2:=hG.2.2.1;have q3:=hG.2.2.2.1;have q4:=hG.2.2.2.2.1;have q5:=hG.2.2.2.2.2
   go_simp
   refine hK.out _ _ ?hsr1_16 (fun hH2=>?hrr1_16)
   case hsr1_16=>exact S2i0 (by have hG:=hH;replace hG:=S2o0 hG;(try dsimp only at hG);have q0:=hG.1;have q1:=hG.2.1;have q2:=hG.2.2.1;have q3:=hG.2.2.2.1;have q4:=hG.2.2.2.2.1;have q5:=hG.2.2.2.2.2;exact ⟨keepCell Ba q0,keepCell Ba q1,keepCell Ba q2,keepCell Ba q3,q4.alloc _,q5.alloc q5.size _⟩)
   clear hK K hH
   have hH:=hH2
   clear hH2
   try simp only [Act.put,sA,sB,sC]
   have hT:VZ ((W.alloc (.cells #[.int .i64 0,.int .i64 0] 27)).drew) W.heap.size:=VZ.drew (VZ.here W _ _ _)
   obtain ⟨gT,hgT⟩:∃ g,g=W.heap.size:=⟨_,rfl⟩
   have hlT:w.heap.size<gT:=by rw [hgT];exact q4.lt
   rw [← hgT] at hT
   try rw [← hgT]
   clear hgT q0 q1 q2 q3 q4 q5
   generalize (W.alloc (.cells #[.int .i64 0,.int .i64 0] 27)).drew=wx13 at *
   refine U1 12 0 rfl (fun K hK=>?_)
   try clear hb
   go_simp
   (go_at_call 101;refine (HSB.out _).mono ?_;rintro e wn ⟨rfl,hb⟩;try (replace hT:=keepVZ hb hT))
   refine hK.out _ _ ?hsr1_17 (fun hH2=>?hrr1_17)
   case hsr1_17=>exact S2i0 (by have hG:=hH;replace hG:=S2o0 hG;(try dsimp only at hG);have q0:=hG.1;have q1:=hG.2.1;have q2:=hG.2.2.1;have q3:=hG.2.2.2.1;have q4:=hG.2.2.2.2.1;have q5:=hG.2.2.2.2.2;exact ⟨keepCell hb q0,keepCell hb q1,keepCell hb q2,keepCell hb q3,keepVZ hb q4,keepBelow hb q5⟩)
   clear hK K hH
   have hH:=hH2
   clear hH2
   try simp only [Act.put,sA,sB,sC]
   refine U1 14 1 rfl (fun K hK=>?_)
   have hG:=hH
   replace hG:=S2o0 hG;(try dsimp only at hG);have q0:=hG.1;have q1:=hG.2.1;have q2:=hG.2.2.1;have q3:=hG.2.2.2.1;have q4:=hG.2.2.2.2.1;have q5:=hG.2.2.2.2.2
   obtain ⟨⟨z0,z1,y0,y1'⟩,yf⟩:=hT
   have hle:w.heap.size≤gT:=by omega
   go_simp
   refine hK.out _ _ ?hsr1_18 (fun hH2=>?hrr1_18)
   case hsr1_18=>exact S2i1
   clear hK K hH
   have hH:=hH2
   clear hH2
   try simp only [Act.put,sA,sB,sC]
   refine wpAnyU_done (by kernel_rfl) ?_ _ _
   refine NoPanic.normal ?_
   go_wp2_with fail
   go_meet
   refine ⟨gT,rfl,by go_simp,by go_simp,by omega,(q4.set _ _).set _ _,by go_grown⟩
  exact AllReadyU.nil
 case rest =>
  obtain ⟨gT,rfl,x0,x1',hg,hz,hB⟩:=hcut
  obtain ⟨⟨z0,z1,y0,y1'⟩,yf⟩:=hz
  clear HZ0 hB0 xi yi xj yj
  have hne:¬ w.heap.size=gT:=by omega
  go_wp2
  refine bodyPost_ret (v:=vecV ey (-ex)) (by simp [results,Tryz.results98,go_sem,y0,y1']) rfl ⟨by rw [HN.out.1,HN.out.2],by go_grown⟩
end
end Go.Proofs.YtiaoandbdgdecaaGreat
namespace Go.Proofs.YtiaoandbdgdecaaGreat
section
set_option linter.unusedVariables false
set_option linter.unusedSimpArgs false
open Go.RowKit

def dpt (l m:List V) (i k:Nat):Int:=nrmX l i*(px l i-px m k)+nrmY l i*(py l i-py m k)
def deepTo (l m : List V) (i : Nat) : Nat → Int
 | 0=>dpt l m i 0
 | k+1=>if dpt l m i (k+1) > deepTo l m i k then dpt l m i (k+1) else deepTo l m i k
def deepZ (l m:List V) (i:Nat):Int:=deepTo l m i (m.length-1)
theorem dpt_bd {l m:List V} (hw:allWithin 65536000 l=true) (hm:allWithin 65536000 m=true) {i k:Nat} (hi:i<l.length) (hk:k<m.length) : -34359738368000000≤dpt l m i k∧dpt l m i k≤34359738368000000:=by
 obtain ⟨n1,n2⟩:=nrm_bd hw hi
 have h1:=withinB_iff.1 (allWithin_at hw hi)
 have h2:=withinB_iff.1 (allWithin_at hm hk)
 have a:=mul_bd (x:=nrmX l i) (y:=px l i-px m k) (M:=131072000) (N:=131072000) (by omega) (by omega) (by omega) (by omega)
 have b:=mul_bd (x:=nrmY l i) (y:=py l i-py m k) (M:=131072000) (N:=131072000) (by omega) (by omega) (by omega) (by omega)
 unfold dpt
 omega
theorem deepTo_bd {l m:List V} (hw:allWithin 65536000 l=true) (hm:allWithin 65536000 m=true) {i:Nat} (hi:i<l.length):∀ k,k<m.length → -34359738368000000≤deepTo l m i k∧deepTo l m i k≤34359738368000000:=by
 intro k
 induction k with
 | zero=>intro hk;exact dpt_bd hw hm hi hk
 | succ k ih =>
  intro hk
  have h1:=ih (by omega)
  have h2:=dpt_bd hw hm hi hk
  unfold deepTo
  split <;> omega
theorem deep_calls (A B:Option Addr) (n c n' c':Nat) (l m:List V) (i:Nat) (w:World) (hS:Sl w A n c l) (hM:Sl w B n' c' m) (hw:allWithin 65536000 l=true) (h3:3≤l.length) (h8:l.length≤8) (hi:i<l.length) (hmw:allWithin 65536000 m=true) (hm0:0<m.length) (hm8:m.length≤8) :
  Calls Tryz.prog 114 #[.slice A n c,.slice B n' c',.int .i64 i] w (Ret (.int .i64 (deepZ l m i)) w):=by
 have HSL:=hid hS
 have HSM:=hid hM
 have hn:=hS.len
 have hn':=hM.len
 subst hn hn'
 have HW:=hid hw
 have HMW:=hid hmw
 clear hS hM
 have hlt':(i:Int)<(l.length:Int):=by omega
 obtain ⟨bn1,bn2⟩:=nrm_bd hw hi
 obtain ⟨n1,hn1⟩:∃ z,z=nrmX l i:=⟨_,rfl⟩
 obtain ⟨n2,hn2⟩:∃ z,z=nrmY l i:=⟨_,rfl⟩
 rw [← hn1] at bn1
 rw [← hn2] at bn2
 have HN:=hid (normal_calls A l.length c l i w HSL.out hw h3 h8 hi)
 rw [← hn1,← hn2] at HN
 have HN1:=hid hn1
 have HN2:=hid hn2
 clear hw hmw hn1 hn2
 go_enter Tryz.func114,Tryz.ntmps114
 go_wp2_with fail
 refine HN.out.mono ?_
 rintro e w1 ⟨rfl,hb1⟩
 obtain ⟨gn,hgn⟩:∃ g,g=w1.heap.size:=⟨_,rfl⟩
 obtain ⟨w2,hw2⟩:∃ w2,w2=w1.alloc (.cells #[.int .i64 n1,.int .i64 n2] 27):=⟨_,rfl⟩
 have r1:w2.cell? ⟨gn,0,none⟩=some (.int .i64 n1):=by rw [hw2,hgn];go_simp
 have r2:w2.cell? ⟨gn,1,none⟩=some (.int .i64 n2):=by rw [hw2,hgn];go_simp
 have hB2:Below w.heap.size w w2:=by rw [hw2];exact hb1.alloc hb1.size _
 have hgw:w.heap.size≤gn:=by rw [hgn];exact hb1.size
 clear HN hb1
 go_upto_region 2 with fail
 rw [← hw2,← hgn]
 clear hw2 hgn
 go_wp2
 go_loopw [8,17] (fun s j wr=>∃ k:Nat,k≤m.length∧j = .int .i64 k∧(∃ z:Int,s = .int .i64 z∧(k=0∨z=deepTo l m i (k-1)))∧Below w2.heap.size w2 wr) (fun _ j _=>m.length-(intOf j).toNat)
 case atStart=>exact ⟨0,Nat.zero_le _,rfl,⟨0,rfl,.inl rfl⟩,Below.refl _ _⟩
 case round =>
  obtain ⟨k,hk,rfl,⟨z,rfl,hz⟩,hB⟩:=hrel
  obtain ⟨wo,rfl⟩:∃ wo:World,wo=wr:=⟨_,rfl⟩
  have hBw:=keepBelow hB hB2
  by_cases hlt:k<m.length
  ·obtain ⟨ba, off, hA, hC⟩ := (HSL.out.below hBw).at_ (by intro h; subst h; simp at hi)
   obtain ⟨bb,off2,hA2,hC2⟩:=(HSM.out.below hBw).at_ (by intro h;subst h;simp at hlt)
   subst hA hA2
   have hxi:=hC.x i hi
   have hyi:=hC.y i hi
   have hxk:=hC2.x k hlt
   have hyk:=hC2.y k hlt
   have hbo1:=hC.lt
   have hbo2:=hC2.lt
   have g1:=keepCell hB r1
   have g2:=keepCell hB r2
   have hgl:=lt_of_cell g1
   obtain ⟨a1,a2,a3,a4⟩:=withinB_iff.1 (allWithin_at HW.out hi)
   obtain ⟨b1,b2,b3,b4⟩:=withinB_iff.1 (allWithin_at HMW.out hlt)
   obtain ⟨d,hd⟩:∃ d,d=n1*(px l i-px m k)+n2*(py l i-py m k):=⟨_,rfl⟩
   have HD:Hid (dpt l m i k=d):=by show _=_;unfold dpt;rw [hd,HN1.out,HN2.out]
   have m1:=mul_bd (x:=n1) (y:=px l i-px m k) (M:=131072000) (N:=131072000) (by omega) (by omega) (by omega) (by omega)
   have m2:=mul_bd (x:=n2) (y:=py l i-py m k) (M:=131072000) (N:=131072000) (by omega) (by omega) (by omega) (by omega)
   have v1:IntKind.i64.wrap (px l i-px m k)=px l i-px m k:=IntWalk.i64_in _ (by omega)
   have v2:IntKind.i64.wrap (py l i-py m k)=py l i-py m k:=IntWalk.i64_in _ (by omega)
   have v3:IntKind.i64.wrap (n1*(px l i-px m k))=n1*(px l i-px m k):=IntWalk.i64_in _ (by omega)
   have v4:IntKind.i64.wrap (n2*(py l i-py m k))=n2*(py l i-py m k):=IntWalk.i64_in _ (by omega)
   have v5:IntKind.i64.wrap (n1*(px l i-px m k)+n2*(py l i-py m k))=d:=by rw [← hd];exact IntWalk.i64_in _ (by omega)
   have HZ:=hid hz
   generalize px l i=x1 at *
   generalize py l i=y1 at *
   generalize px m k=x2 at *
   generalize py m k=y2 at *
   clear hd hz m1 m2 hC hC2 r1 r2
   by_cases hgt:k=0∨z<d
   ·have HS2:Hid (d=deepTo l m i (k+1-1)):=by
     show _=_
     rw [Nat.add_sub_cancel]
     cases k with
     | zero=>rw [deepTo,HD.out]
     | succ k =>
      rcases HZ.out with h | h
      ·exact absurd h (by omega)
      ·rw [Nat.add_sub_cancel] at h
       rw [deepTo,HD.out,← h,if_pos (by rcases hgt with g | g;exact absurd g (by omega);omega)]
    clear HZ HD
    by_cases hk0:k=0
    ·have e0 : ((k : Int) == 0) = true := by simp [hk0]
     clear hk0 hgt
     go_wp2_with fail
     go_quiet (fail)
     go_wp2
     go_roundw
     case rel=>exact ⟨k+1,hlt,by go_num,⟨d,rfl,.inr HS2.out⟩,below_drewN' (hB.alloc hB.size _) _⟩
     case measure=>simp [intOf];omega
    ·have e0 : ((k : Int) == 0) = false := by simp [hk0]
     have hzd:z<d:=by rcases hgt with g | g;exact absurd g hk0;exact g
     clear hgt
     go_wp2_with fail
     go_quiet (fail)
     go_wp2
     go_roundw
     case rel=>exact ⟨k+1,hlt,by go_num,⟨d,rfl,.inr HS2.out⟩,below_drewN' (hB.alloc hB.size _) _⟩
     case measure=>simp [intOf];omega
   ·have hk0 : k ≠ 0 := fun h => hgt (.inl h)
    have hnl:¬ z<d:=fun h=>hgt (.inr h)
    have e0:((k:Int) == 0)=false:=by simp [hk0]
    have HS2:Hid (z=deepTo l m i (k+1-1)):=by
     show _=_
     rw [Nat.add_sub_cancel]
     cases k with
     | zero=>exact absurd rfl hk0
     | succ k =>
      rcases HZ.out with h | h
      ·exact absurd h (by omega)
      ·rw [Nat.add_sub_cancel] at h
       rw [deepTo,HD.out,← h,if_neg (by omega)]
    clear HZ HD hgt
    go_wp2_with fail
    go_quiet (fail)
    go_wp2
    go_roundw
    case rel=>exact ⟨k+1,hlt,by go_num,⟨z,rfl,.inr HS2.out⟩,below_drewN' (hB.alloc hB.size _) _⟩
    case measure=>simp [intOf];omega
  ·have hke : k = m.length := by omega
   have HR:Hid (deepZ l m i=z):=by
    show _=_
    unfold deepZ
    rcases hz with h | h
    ·omega
    ·rw [h,hke]
   clear hz r1 r2
   go_wp2
   go_returns
   exact ret_int HR.out.symm hBw

def bothE (l m:List V):Int:=if checkE l≠0 then checkE l else checkE m
theorem both_calls (A B:Option Addr) (n c n' c':Nat) (l m:List V) (w:World) (hS:Sl w A n c l) (hM:Sl w B n' c' m):Calls Tryz.prog 113 #[.slice A n c,.slice B n' c'] w (Ret (.int .i64 (bothE l m)) w):=by
 have HS:=hid hS
 have HM:=hid hM
 clear hS hM
 go_enter Tryz.func113,Tryz.ntmps113
 go_wp2_with fail
 refine (check_calls A n c l _ HS.out).mono ?_
 rintro e w1 ⟨rfl,hb1⟩
 by_cases hE:checkE l=0
 ·have HR : Hid (bothE l m = checkE m) := by show _ = _; unfold bothE; rw [if_neg (by simp [hE])]
  rw [hE]
  clear hE
  go_wp2_with fail
  refine (check_calls B n' c' m _ (HM.out.below hb1)).mono ?_
  rintro e w2 ⟨rfl,hb2⟩
  have hB2:=keepBelow hb2 hb1
  clear hb1 hb2
  go_wp2
  go_returns
  exact ret_int HR.out.symm hB2
 ·have hne : (checkE l != 0) = true := by simp [hE]
  have HR:Hid (bothE l m=checkE l):=by show _=_;unfold bothE;rw [if_pos hE]
  clear hE
  go_wp2
  go_returns
  exact ret_int HR.out.symm hb1
end
end Go.Proofs.YtiaoandbdgdecaaGreat
