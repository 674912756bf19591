/- Parts of a proof: contracts and laws. -/
import Derived.Test.YtokgmcomgflloaaGreatQA29
import Derived.Test.YtokgmcomgflloaaGreatQA02
set_option maxRecDepth 100000
set_option maxHeartbeats 16000000
namespace Go.Proofs.YtokgmcomgflloaaGreat
section
set_option linter.unusedVariables false
set_option linter.unusedSimpArgs false
open Go.RowKit
theorem Gx {D A N:Int} (h0:0≤A) (h1:A≤N) (hN:0<N):min 0 D≤(2*(D*A)+N) / (2*N)∧(2*(D*A)+N) / (2*N)≤max 0 D:=by
 rcases Int.le_total 0 D with h | h
 ·have m1 : 0 ≤ D * A := Int.mul_nonneg h h0;have m2:D*A≤D*N:=Int.mul_le_mul_of_nonneg_left h1 h;have l1:0≤(2*(D*A)+N) / (2*N):=Int.ediv_nonneg (by omega) (by omega)
  have l2:(2*(D*A)+N) / (2*N)<D+1:=Int.ediv_lt_of_lt_mul (by omega) (by
   have:(D+1)*(2*N)=2*(D*N)+2*N:=by grind
   omega)
  omega
 ·have m1 : D * A ≤ 0 := Int.mul_nonpos_of_nonpos_of_nonneg h h0;have m2:D*N≤D*A:=Int.mul_le_mul_of_nonpos_left h h1
  have l1:D≤(2*(D*A)+N) / (2*N):=Int.le_ediv_of_mul_le (by omega) (by
   have:D*(2*N)=2*(D*N):=by grind
   omega)
  have l2:(2*(D*A)+N) / (2*N)<1:=Int.ediv_lt_of_lt_mul (by omega) (by omega);omega

def kH (D a b:Int):Int:=cZ (D*a) (a-b)
theorem jW {D a b:Int} (hs:(a<0∧0≤b)∨(0≤a∧b<0)) (hD : -131072000≤D∧D≤131072000):min 0 D≤kH D a b∧kH D a b≤max 0 D:=by
 have hn:a-b≠0:=by omega
 have hr:min 0 D≤kM (D*a) (a-b)∧kM (D*a) (a-b)≤max 0 D:=by
  unfold kM
  rcases hs with ⟨h1,h2⟩ | ⟨h1,h2⟩
  ·rw [if_pos (by omega)];have:=Gx (D:=D) (A := -a) (N:=b-a) (by omega) (by omega) (by omega);have e:D * -a = -(D*a):=Int.mul_neg _ _;rw [e] at this;rwa [show -(a-b)=b-a by omega]
  ·rw [if_neg (by omega)];exact Gx (by omega) (by omega) (by omega)
 have:=(oD (W:=D*a) hn rfl (by omega) (by omega)).1;unfold kH;rw [this];exact hr
theorem jf (x y u v:Int) (hx : -131072000≤x∧x≤131072000) (hy : -131072000≤y∧y≤131072000) (hu : -131072000≤u∧u≤131072000) (hv : -131072000≤v∧v≤131072000) (w:World) :
  Calls Tryz.prog 166 #[aR x y,aR u v] w (dG (.int .i64 (x*u+y*v)) w):=by
 have m1:=dh (x:=x) (y:=u) (M:=131072000) (N:=131072000) (by omega) (by omega) (by omega) (by omega);have m2:=dh (x:=y) (y:=v) (M:=131072000) (N:=131072000) (by omega) (by omega) (by omega) (by omega);have e1:IntKind.i64.wrap (x*u)=x*u:=IntWalk.i64_in _ (by omega);have e2:IntKind.i64.wrap (y*v)=y*v:=IntWalk.i64_in _ (by omega);have e3:IntKind.i64.wrap (x*u+y*v)=x*u+y*v:=IntWalk.i64_in _ (by omega)
 go_enter Tryz.func166,Tryz.ntmps166
 go_wp2;refine bodyPost_ret (v:=.int .i64 (x*u+y*v)) (by simp [results,Tryz.results166,go_sem]) rfl ⟨rfl,by go_grown⟩
theorem jq (x y u v:Int) (h1 : -131072000≤x-u∧x-u≤131072000) (h2 : -131072000≤y-v∧y-v≤131072000) (w:World) :
  Calls Tryz.prog 167 #[aR x y,aR u v] w (dG (aR (x-u) (y-v)) w):=by
 have e1:IntKind.i64.wrap (x-u)=x-u:=IntWalk.i64_in _ (by omega);have e2:IntKind.i64.wrap (y-v)=y-v:=IntWalk.i64_in _ (by omega)
 go_enter Tryz.func167,Tryz.ntmps167
 go_wp2;refine bodyPost_ret (v:=aR (x-u) (y-v)) (by simp [results,Tryz.results167,go_sem]) rfl ⟨rfl,by go_grown⟩
theorem xR (x1 y1 x2 y2 a b:Int) (h1:aI 65536000 x1 y1=true) (h2:aI 65536000 x2 y2=true) (ha : -36028797018963968≤a∧a≤36028797018963968) (hb : -36028797018963968≤b∧b≤36028797018963968) (hs:(a<0∧0≤b)∨(0≤a∧b<0)) (w:World) :
  Calls Tryz.prog 222 #[aR x1 y1,aR x2 y2,.int .i64 a,.int .i64 b] w (dG (aR (x1+kH (x2-x1) a b) (y1+kH (y2-y1) a b)) w):=by
 obtain ⟨_,_,_,_⟩:=aD.1 h1;obtain ⟨_,_,_,_⟩:=aD.1 h2;have k1:=jW (D:=x2-x1) hs (by omega);have k2:=jW (D:=y2-y1) hs (by omega);have m1:=dh (x:=x2-x1) (y:=a) (M:=131072000) (N:=36028797018963968) (by omega) (by omega) (by omega) (by omega);have m2:=dh (x:=y2-y1) (y:=a) (M:=131072000) (N:=36028797018963968) (by omega) (by omega) (by omega) (by omega);have HT1:=hid (kg (x2-x1) a (by omega) (by omega) (by omega) (by omega));have HT2:=hid (kg (y2-y1) a (by omega) (by omega) (by omega) (by omega));have HO1:=hid (oh ((x2-x1)*a) (a-b) (by omega) (by omega) (by omega) (by omega));have HO2:=hid (oh ((y2-y1)*a) (a-b) (by omega) (by omega) (by omega) (by omega))
 change Hid (∀ w,Calls _ _ _ w (dG (.tuple #[.int .i64 (kH (x2-x1) a b),_]) w)) at HO1
 change Hid (∀ w,Calls _ _ _ w (dG (.tuple #[.int .i64 (kH (y2-y1) a b),_]) w)) at HO2
 have e1:IntKind.i64.wrap (x2-x1)=x2-x1:=IntWalk.i64_in _ (by omega);have e2:IntKind.i64.wrap (y2-y1)=y2-y1:=IntWalk.i64_in _ (by omega);have e3:IntKind.i64.wrap (a-b)=a-b:=IntWalk.i64_in _ (by omega);have e4:IntKind.i64.wrap (x1+kH (x2-x1) a b)=x1+kH (x2-x1) a b:=IntWalk.i64_in _ (by omega);have e5:IntKind.i64.wrap (y1+kH (y2-y1) a b)=y1+kH (y2-y1) a b:=IntWalk.i64_in _ (by omega);generalize kH (x2-x1) a b=z1 at *
 generalize kH (y2-y1) a b=z2 at *
 generalize dQ ((x2-x1)*a) (a-b)=o1 at *
 generalize dQ ((y2-y1)*a) (a-b)=o2 at *
 clear h1 h2 hs k1 k2 m1 m2;obtain ⟨W,hW⟩:∃ W,W=((w.alloc (.cells #[.int .i64 x1,.int .i64 y1] 24)).alloc (.cells #[.int .i64 x2,.int .i64 y2] 24)).alloc (.cells #[.int .i64 0,.int .i64 0] 24):=⟨_,rfl⟩;have a0:W.cell? ⟨w.heap.size,0,none⟩=some (.int .i64 x1):=by rw [hW];go_simp
 have a1:W.cell? ⟨w.heap.size,1,none⟩=some (.int .i64 y1):=by rw [hW];go_simp
 have b0:W.cell? ⟨w.heap.size+1,0,none⟩=some (.int .i64 x2):=by rw [hW];go_simp
 have b1:W.cell? ⟨w.heap.size+1,1,none⟩=some (.int .i64 y2):=by rw [hW];go_simp
 have hZ:VZ W (w.heap.size+1+1):=by rw [hW];have:=VZ.here ((w.alloc (.cells #[.int .i64 x1,.int .i64 y1] 24)).alloc (.cells #[.int .i64 x2,.int .i64 y2] 24)) 0 0 24;simpa using this
 have hB:Below w.heap.size w W:=by rw [hW];go_grown
 go_enter Tryz.func222,Tryz.ntmps222
 go_wp2_with fail
 rw [← hW];clear hW;refine (HT1.out _).mono ?_;rintro e wa ⟨rfl,hb0⟩;replace a0:=keepCell hb0 a0;replace a1:=keepCell hb0 a1;replace b0:=keepCell hb0 b0;replace b1:=keepCell hb0 b1;replace hZ:=aG hb0 hZ;replace hB:=aj hb0 hB;clear hb0
 go_wp2_with fail
 refine (HO1.out _).mono ?_;rintro e wb0 ⟨rfl,hb0⟩;replace a0:=keepCell hb0 a0;replace a1:=keepCell hb0 a1;replace b0:=keepCell hb0 b0;replace b1:=keepCell hb0 b1;replace hZ:=aG hb0 hZ;replace hB:=aj hb0 hB;clear hb0
 go_wp2_with fail
 refine (HT2.out _).mono ?_;rintro e wb1 ⟨rfl,hb0⟩;replace a0:=keepCell hb0 a0;replace a1:=keepCell hb0 a1;replace b0:=keepCell hb0 b0;replace b1:=keepCell hb0 b1;replace hZ:=aG hb0 hZ;replace hB:=aj hb0 hB;clear hb0
 go_wp2_with fail
 refine (HO2.out _).mono ?_;rintro e wb2 ⟨rfl,hb0⟩;replace a0:=keepCell hb0 a0;replace a1:=keepCell hb0 a1;replace b0:=keepCell hb0 b0;replace b1:=keepCell hb0 b1;replace hZ:=aG hb0 hZ;replace hB:=aj hb0 hB;clear hb0;obtain ⟨⟨z0,zz1,y0,yy1⟩,zf⟩:=hZ;have hgl:=lt_of_cell y0;have n1:¬ w.heap.size=w.heap.size+1+1:=by omega
 have n2:¬ w.heap.size+1=w.heap.size+1+1:=by omega
 go_wp2;refine bodyPost_ret (v:=aR (x1+z1) (y1+z2)) (by simp [results,Tryz.results222,go_sem,y0,yy1]) rfl ⟨rfl,by go_grown⟩

def kE (l : List V) (u v : Int) : Nat → Nat
 | 0=>0
 | k+1=>if kN l u v k<kN l u v (kE l u v k) then k else kE l u v k
theorem wC (l:List V) (u v:Int) (k:Nat) (h:k≤l.length) (h0:0<l.length):kE l u v k<l.length:=by
 induction k with
 | zero=>exact h0
 | succ k ih =>
  have:=ih (by omega);simp only [kE]
  split <;> omega

theorem xZ (l : List V) (u v : Int) : ∀ k, kE l u v k = jg l (-u) (-v) k
 | 0=>rfl
 | k+1=>by
  have e:∀ j,kN l (-u) (-v) j = -kN l u v j:=fun j=>by unfold kN;rw [Int.mul_neg,Int.mul_neg];omega
  rw [kE,jg,← xZ l u v k,e,e]
  split <;> split <;> omega

def kV (l:List V) (u v:Int):Nat :=
 if kN l u v ((kE l u v l.length+l.length-1) % l.length)<kN l u v ((kE l u v l.length+1) % l.length) then (kE l u v l.length+l.length-1) % l.length else kE l u v l.length
theorem Bg {l:List V} (u v:Int) (h:0<l.length):kV l u v<l.length:=by
 unfold kV
 split
 ·exact Nat.mod_lt _ h
 ·exact wC l u v _ (Nat.le_refl _) h
theorem BO (A:Option Addr) (n c:Nat) (l:List V) (u v:Int) (w:World) (hS:Sl w A n c l) (hw:aP 65536000 l=true) (h3:3≤l.length) (h8:l.length≤8) (hu : -131072000≤u∧u≤131072000) (hv : -131072000≤v∧v≤131072000) :
  Calls Tryz.prog 164 #[.slice A n c,aR u v] w (dG (.int .i64 (kV l u v)) w):=by
 have hn:=hS.len;subst hn;obtain ⟨b,off,rfl,hC⟩:=hS.at_ (by intro h;subst h;simp at h3);have HC:=hid hC
 have HWB:Hid (∀ j,j<l.length→(-65536000≤px l j∧px l j≤65536000)∧(-65536000≤py l j∧py l j≤65536000)):=fun j hj=>by
  obtain ⟨_,_,_,_⟩:=aD.1 (aQ hw hj);omega
 have HFZ:Hid (∀ s,s=kE l u v l.length→kV l u v=if kN l u v ((s+l.length-1) % l.length)<kN l u v ((s+1) % l.length) then (s+l.length-1) % l.length else s):=fun s h=>by subst h;rfl
 obtain ⟨F,hF⟩:∃ F,F=kV l u v:=⟨_,rfl⟩;rw [← hF] at HFZ ⊢;obtain ⟨W,hW⟩:∃ W,W=w.alloc (.cells #[.int .i64 u,.int .i64 v] 24):=⟨_,rfl⟩;have kn0:W.cell? ⟨w.heap.size,0,none⟩=some (.int .i64 u):=by rw [hW];go_simp
 have kn1:W.cell? ⟨w.heap.size,1,none⟩=some (.int .i64 v):=by rw [hW];go_simp
 have hB0:Below w.heap.size w W:=by rw [hW];go_grown
 clear hC hS hw hF
 go_enter Tryz.func164,Tryz.ntmps164
 go_wp2;rw [← hW];clear hW
 go_loopw [5,11] (fun s i wr=>∃ k:Nat,k≤l.length∧i = .int .i64 k∧s = .int .i64 (kE l u v k:Nat)∧Below w.heap.size w wr∧wr.cell? ⟨w.heap.size,0,none⟩=some (.int .i64 u)∧wr.cell? ⟨w.heap.size,1,none⟩=some (.int .i64 v)) (fun _ i _=>l.length-(intOf i).toNat)
 case atStart=>exact ⟨0,Nat.zero_le _,rfl,rfl,hB0,kn0,kn1⟩
 case round =>
  clear hB0 kn0 kn1;obtain ⟨k,hk,rfl,rfl,hB,kn0,kn1⟩:=hrel;obtain ⟨wo,rfl⟩:∃ wo:World,wo=wr:=⟨_,rfl⟩;have hsl:=wC l u v k hk (by omega);obtain ⟨s,hs⟩:∃ s,s=kE l u v k:=⟨_,rfl⟩;rw [← hs] at hsl ⊢;have hCo:=HC.out.below hB;have hbl:=hCo.lt;have s0:=hCo.x s hsl;have s1:=hCo.y s hsl
  by_cases hlt:k<l.length
  ·have hlt' : (k : Int) < (l.length : Int) := by omega
   have hsl':(s:Int)<(l.length:Int):=by omega
   have hwk:IntKind.i64.wrap ((k:Int)+1)=(k:Int)+1:=IntWalk.i64_in _ (by omega);have x_0:=hCo.x k hlt;have y_0:=hCo.y k hlt;have HST:Hid (kE l u v (k+1)=if px l k*u+py l k*v<px l s*u+py l s*v then k else s):=by show _=_;rw [hs];rfl
   have b1:=HWB.out k hlt;have b2:=HWB.out s hsl;have HD1:=hid (jf (px l k) (py l k) u v (by omega) (by omega) hu hv);have HD2:=hid (jf (px l s) (py l s) u v (by omega) (by omega) hu hv);have HSD:=hid hs;generalize px l k=xk at *
   generalize py l k=yk at *
   generalize px l s=xs at *
   generalize py l s=ys at *
   obtain ⟨wp,hwp⟩:∃ w',w'=wo.alloc (.cells #[.int .i64 xk,.int .i64 yk] 24):=⟨_,rfl⟩;obtain ⟨gP,hgP⟩:∃ g,g=wo.heap.size:=⟨_,rfl⟩;have p0:wp.cell? ⟨gP,0,none⟩=some (.int .i64 xk):=by rw [hwp,hgP];go_simp
   have p1:wp.cell? ⟨gP,1,none⟩=some (.int .i64 yk):=by rw [hwp,hgP];go_simp
   have hba:Below wo.heap.size wo wp:=by rw [hwp];go_grown
   clear hCo hs b1 b2
   go_upto_region 5 with fail
   rw [← hwp,← hgP];clear hwp hgP x_0 y_0;replace hbl:=Nat.lt_of_lt_of_le hbl hba.size;replace kn0:=keepCell hba kn0;replace kn1:=keepCell hba kn1;replace s0:=keepCell hba s0;replace s1:=keepCell hba s1;replace hB:=aj hba hB;clear hba;refine wp_region_noPanic ?_;refine au (S:=(S2 (fun w'=>w'.cell? ⟨gP,0,none⟩=some (.int .i64 (xk))∧w'.cell? ⟨gP,1,none⟩=some (.int .i64 (yk))∧w'.cell? ⟨w.heap.size,0,none⟩=some (.int .i64 (u))∧w'.cell? ⟨w.heap.size,1,none⟩=some (.int .i64 (v))∧w'.cell? ⟨b,off+s*2,none⟩=some (.int .i64 (xs))∧w'.cell? ⟨b,off+s*2+1,none⟩=some (.int .i64 (ys))∧Below w.heap.size w w'))) (T:=(fun _=>0)) (by kernel_rfl) (aC ⟨p0,p1,kn0,kn1,s0,s1,hB.drew⟩) (fun hH=>?_);have hWr1:aH (S2 (fun w'=>w'.cell? ⟨gP,0,none⟩=some (.int .i64 (xk))∧w'.cell? ⟨gP,1,none⟩=some (.int .i64 (yk))∧w'.cell? ⟨w.heap.size,0,none⟩=some (.int .i64 (u))∧w'.cell? ⟨w.heap.size,1,none⟩=some (.int .i64 (v))∧w'.cell? ⟨b,off+s*2,none⟩=some (.int .i64 (xs))∧w'.cell? ⟨b,off+s*2+1,none⟩=some (.int .i64 (ys))∧Below w.heap.size w w')):=aK _;refine dn [(0,16),(1,17),(3,19),(4,20),(5,21),(6,22),(7,23)] 3 0 0 (L':=?Lr1_1) hWr1 hH ?yr1_1 ?_
   case yr1_1=>((iterate 7 apply dA;rfl;kernel_rfl;intro w' hSw;replace hSw:=aA hSw;(try dsimp only at hSw);have q0:=hSw.1;have q1:=hSw.2.1;have q2:=hSw.2.2.1;have q3:=hSw.2.2.2.1;have q4:=hSw.2.2.2.2.1;have q5:=hSw.2.2.2.2.2.1;have q6:=hSw.2.2.2.2.2.2;(try simp only [sB,sC]);go_simp;(try with_reducible rfl));exact dw)
   simp only [sB,sC];refine U1 2 0 rfl (fun K hK=>?_)
   try clear hb
   go_simp
   (go_at_call 166;refine (HD1.out _).mono ?_;rintro e wn ⟨rfl,hb⟩)
   refine hK.out _ _ (aC (by have hG:=hH;replace hG:=aA hG;(try dsimp only at hG);have q0:=hG.1;have q1:=hG.2.1;have q2:=hG.2.2.1;have q3:=hG.2.2.2.1;have q4:=hG.2.2.2.2.1;have q5:=hG.2.2.2.2.2.1;have q6:=hG.2.2.2.2.2.2;exact ⟨keepCell hb q0,keepCell hb q1,keepCell hb q2,keepCell hb q3,keepCell hb q4,keepCell hb q5,aj hb q6⟩)) (fun hH2=>?_);clear hK K hH
   rename _=>hH
   try simp only [Act.put,sA,sB,sC]
   refine U1 8 0 rfl (fun K hK=>?_)
   try clear hb
   go_simp
   (go_at_call 166;refine (HD2.out _).mono ?_;rintro e wn ⟨rfl,hb⟩)
   refine hK.out _ _ (aC (by have hG:=hH;replace hG:=aA hG;(try dsimp only at hG);have q0:=hG.1;have q1:=hG.2.1;have q2:=hG.2.2.1;have q3:=hG.2.2.2.1;have q4:=hG.2.2.2.2.1;have q5:=hG.2.2.2.2.2.1;have q6:=hG.2.2.2.2.2.2;exact ⟨keepCell hb q0,keepCell hb q1,keepCell hb q2,keepCell hb q3,keepCell hb q4,keepCell hb q5,aj hb q6⟩)) (fun hH2=>?_);clear hK K hH
   rename _=>hH
   try simp only [Act.put,sA,sB,sC]
   refine Ut 9 25 0 0 0 (v:=?vr1_10) rfl hWr1 hH ?yr1_10 ?_
   case yr1_10=>(intro w' hSw;clear hSw;go_simp;try (with_reducible rfl))
   simp only [sB,sC];refine ak (by kernel_rfl) ?_ _ _;refine NoPanic.normal ?_;clear hWr1;replace hH:=aA hH
   (try dsimp only at hH)
   have q0:=hH.1;have q1:=hH.2.1;have q2:=hH.2.2.1;have q3:=hH.2.2.2.1;have q4:=hH.2.2.2.2.1;have q5:=hH.2.2.2.2.2.1;have q6:=hH.2.2.2.2.2.2;clear hH;clear p0 p1 kn0 kn1 s0 s1 hB HD1 HD2 hbl q0 q1 q4 q5
   try clear hb
   by_cases hd:xk*u+yk*v<xs*u+ys*v
   ·have HO2 : Hid (kE l u v (k + 1) = k) := by show _ = _; rw [HST.out, if_pos hd]
    clear HST;go_wp2;go_roundw
    case rel=>exact ⟨k+1,hlt,by go_num,by rw [HO2.out],q6,q2,q3⟩
    case measure=>simp [intOf];omega
   ·have HO2 : Hid (kE l u v (k + 1) = s) := by show _ = _; rw [HST.out, if_neg hd]
    clear HST;go_wp2;go_roundw
    case rel=>exact ⟨k+1,hlt,by go_num,by rw [HO2.out],q6,q2,q3⟩
    case measure=>simp [intOf];omega
  ·have hke : k = l.length := by omega
   subst hke;have hFs:=HFZ.out s hs;have hbf:=Nat.mod_lt (s+l.length-1) (show 0<l.length by omega);have haf:=Nat.mod_lt (s+1) (show 0<l.length by omega);obtain ⟨bf,hbfe⟩:∃ j,j=(s+l.length-1) % l.length:=⟨_,rfl⟩;obtain ⟨af,hafe⟩:∃ j,j=(s+1) % l.length:=⟨_,rfl⟩;rw [← hbfe] at hbf hFs;rw [← hafe] at haf hFs
   have htb:((s:Int)+(l.length:Int)-1).tmod (l.length:Int)=(bf:Int):=by
    rw [Int.tmod_eq_emod_of_nonneg (by omega),hbfe];have:(s:Int)+(l.length:Int)-1=((s+l.length-1:Nat):Int):=by omega
    rw [this]
    first | exact (Int.natCast_emod _ _).symm | exact (Int.ofNat_emod _ _).symm | simp
   have hta:((s:Int)+1).tmod (l.length:Int)=(af:Int):=by
    rw [Int.tmod_eq_emod_of_nonneg (by omega),hafe];have:(s:Int)+1=((s+1:Nat):Int):=by omega
    rw [this]
    first | exact (Int.natCast_emod _ _).symm | exact (Int.ofNat_emod _ _).symm | simp
   have hw1:IntKind.i64.wrap ((s:Int)+(l.length:Int))=(s:Int)+(l.length:Int):=IntWalk.i64_in _ (by omega);have hw2:IntKind.i64.wrap ((s:Int)+(l.length:Int)-1)=(s:Int)+(l.length:Int)-1:=IntWalk.i64_in _ (by omega);have hw3:IntKind.i64.wrap ((s:Int)+1)=(s:Int)+1:=IntWalk.i64_in _ (by omega);have hl0:¬ l=[]:=by intro h;rw [h] at h3;simp at h3
   have hbf':(bf:Int)<(l.length:Int):=by omega
   have haf':(af:Int)<(l.length:Int):=by omega
   have c0:=hCo.x bf hbf;have c1:=hCo.y bf hbf;have d0:=hCo.x af haf;have d1:=hCo.y af haf;have b1:=HWB.out bf hbf;have b2:=HWB.out af haf;have HFS:Hid (F=if px l bf*u+py l bf*v<px l af*u+py l af*v then bf else s):=hFs;have HD1:=hid (jf (px l bf) (py l bf) u v (by omega) (by omega) hu hv);have HD2:=hid (jf (px l af) (py l af) u v (by omega) (by omega) hu hv);generalize px l bf=xb at *
   generalize py l bf=yb at *
   generalize px l af=xa at *
   generalize py l af=ya at *
   clear hCo hs b1 b2 hFs hbfe hafe s0 s1 HFZ HC HWB
   go_upto_region 9 with fail
   refine wp_region_noPanic ?_;refine au (S:=(S2 (fun w'=>w'.cell? ⟨b,off+bf*2,none⟩=some (.int .i64 (xb))∧w'.cell? ⟨b,off+bf*2+1,none⟩=some (.int .i64 (yb))∧w'.cell? ⟨b,off+af*2,none⟩=some (.int .i64 (xa))∧w'.cell? ⟨b,off+af*2+1,none⟩=some (.int .i64 (ya))∧w'.cell? ⟨w.heap.size,0,none⟩=some (.int .i64 (u))∧w'.cell? ⟨w.heap.size,1,none⟩=some (.int .i64 (v))∧Below w.heap.size w w'))) (T:=(fun _=>0)) (by kernel_rfl) (aC ⟨c0,c1,d0,d1,kn0,kn1,hB.drew⟩) (fun hH=>?_);have hWr2:aH (S2 (fun w'=>w'.cell? ⟨b,off+bf*2,none⟩=some (.int .i64 (xb))∧w'.cell? ⟨b,off+bf*2+1,none⟩=some (.int .i64 (yb))∧w'.cell? ⟨b,off+af*2,none⟩=some (.int .i64 (xa))∧w'.cell? ⟨b,off+af*2+1,none⟩=some (.int .i64 (ya))∧w'.cell? ⟨w.heap.size,0,none⟩=some (.int .i64 (u))∧w'.cell? ⟨w.heap.size,1,none⟩=some (.int .i64 (v))∧Below w.heap.size w w')):=aK _;refine dn [(0,36),(1,37),(2,38),(3,39),(4,40),(6,42),(7,43),(8,44),(9,45),(10,46),(11,47),(12,48),(13,49),(14,50)] 3 0 0 (L':=?Lr2_1) hWr2 hH ?yr2_1 ?_
   case yr2_1=>((iterate 14 apply dA;rfl;kernel_rfl;intro w' hSw;replace hSw:=aA hSw;(try dsimp only at hSw);have q0:=hSw.1;have q1:=hSw.2.1;have q2:=hSw.2.2.1;have q3:=hSw.2.2.2.1;have q4:=hSw.2.2.2.2.1;have q5:=hSw.2.2.2.2.2.1;have q6:=hSw.2.2.2.2.2.2;(try simp only [sB,sC]);go_simp;(try with_reducible rfl));exact dw)
   simp only [sB,sC];refine U1 5 0 rfl (fun K hK=>?_)
   try clear hb
   go_simp
   (go_at_call 166;refine (HD1.out _).mono ?_;rintro e wn ⟨rfl,hb⟩)
   refine hK.out _ _ (aC (by have hG:=hH;replace hG:=aA hG;(try dsimp only at hG);have q0:=hG.1;have q1:=hG.2.1;have q2:=hG.2.2.1;have q3:=hG.2.2.2.1;have q4:=hG.2.2.2.2.1;have q5:=hG.2.2.2.2.2.1;have q6:=hG.2.2.2.2.2.2;exact ⟨keepCell hb q0,keepCell hb q1,keepCell hb q2,keepCell hb q3,keepCell hb q4,keepCell hb q5,aj hb q6⟩)) (fun hH2=>?_);clear hK K hH
   rename _=>hH
   try simp only [Act.put,sA,sB,sC]
   refine U1 15 0 rfl (fun K hK=>?_)
   try clear hb
   go_simp
   (go_at_call 166;refine (HD2.out _).mono ?_;rintro e wn ⟨rfl,hb⟩)
   refine hK.out _ _ (aC (by have hG:=hH;replace hG:=aA hG;(try dsimp only at hG);have q0:=hG.1;have q1:=hG.2.1;have q2:=hG.2.2.1;have q3:=hG.2.2.2.1;have q4:=hG.2.2.2.2.1;have q5:=hG.2.2.2.2.2.1;have q6:=hG.2.2.2.2.2.2;exact ⟨keepCell hb q0,keepCell hb q1,keepCell hb q2,keepCell hb q3,keepCell hb q4,keepCell hb q5,aj hb q6⟩)) (fun hH2=>?_);clear hK K hH
   rename _=>hH
   try simp only [Act.put,sA,sB,sC]
   refine Ut 16 52 0 0 0 (v:=?vr2_17) rfl hWr2 hH ?yr2_17 ?_
   case yr2_17=>(intro w' hSw;clear hSw;go_simp;try (with_reducible rfl))
   simp only [sB,sC];refine ak (by kernel_rfl) ?_ _ _;refine NoPanic.normal ?_;clear hWr2;replace hH:=aA hH
   (try dsimp only at hH)
   have q0:=hH.1;have q1:=hH.2.1;have q2:=hH.2.2.1;have q3:=hH.2.2.2.1;have q4:=hH.2.2.2.2.1;have q5:=hH.2.2.2.2.2.1;have q6:=hH.2.2.2.2.2.2;clear hH;clear c0 c1 d0 d1 kn0 kn1 hB HD1 HD2 q0 q1 q2 q3 q4 q5
   try clear hb
   by_cases hd:xb*u+yb*v<xa*u+ya*v
   ·have HO2 : Hid (F = bf) := by show _ = _; rw [HFS.out, if_pos hd]
    clear HFS;go_wp2;refine bodyPost_ret (v:=.int .i64 F) (by simp [results,Tryz.results164,go_sem,HO2.out]) rfl ⟨rfl,q6⟩
   ·have HO2 : Hid (F = s) := by show _ = _; rw [HFS.out, if_neg hd]
    clear HFS;go_wp2;refine bodyPost_ret (v:=.int .i64 F) (by simp [results,Tryz.results164,go_sem,HO2.out]) rfl ⟨rfl,q6⟩
end
end Go.Proofs.YtokgmcomgflloaaGreat
