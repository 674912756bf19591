/- Parts of a proof: contracts and laws. -/
import Derived.Test.YtokgmcomgflloaaGreatQP32
import Derived.Test.YtokgmcomgflloaaGreatQP34
import Derived.Test.YtokgmcomgflloaaGreatQP03
set_option maxRecDepth 100000
set_option maxHeartbeats 16000000
namespace Go.Proofs.YtokgmcomgflloaaGreat
section
set_option linter.unusedVariables false
set_option linter.unusedSimpArgs false
open Go.RowKit
def nA (a:Int):Prop := -144115188075855872≤a∧a≤144115188075855872
theorem nA.up {a:Int} (h:nA a):pE a:=by unfold nA at h;unfold pE;omega
theorem nA.neg {a:Int} (h:nA a):nA (-a):=by unfold nA at *;omega

structure Cf (w : World) (g : Nat) (x y : Int) : Prop where
 a:w.cell? ⟨g,0,none⟩=some (.int .i64 x)
 b:w.cell? ⟨g,1,none⟩=some (.int .i64 y)
theorem Ox {l:List V} {fx fy:Int} {k j:Nat} (hk:k<l.length) (hj:j=(k+1) % l.length) :
  pG l (fx,fy) k=(py l j-py l k)*(px l k-fx)+(px l k-px l j)*(py l k-fy):=by
 unfold pG;rw [KD hk];unfold kN;rw [← hj];unfold cr bC;dsimp only;grind
theorem Om {l:List V} {ux uy:Int} {k j:Nat} (hk:k<l.length) (hj:j=(k+1) % l.length) :
  pK l (ux,uy) k=(py l j-py l k)*ux+(px l k-px l j)*uy:=by
 unfold pK;rw [KD hk];unfold kN;rw [← hj];unfold cr bC;dsimp only;grind
def O1 (l:List V) (f u:V):Bool:=(rP l f u).isSome
def OH (l:List V) (f u:V):Int:=(rP l f u).getD 0
theorem C9 {n d : Nat → Int} {k : Nat} (h : Cj n d k = none) : ∀ {m : Nat}, k ≤ m → Cj n d m = none
 | 0,hm=>by rw [show k=0 by omega] at h;exact h
 | m+1,hm=>by
  rcases Nat.lt_or_ge k (m+1) with g | g
  ·rw [Cj,C9 h (m:=m) (by omega)];rfl
  ·rw [show m+1=k by omega];exact h
theorem DW (A:Option Addr) (n c:Nat) (l:List V) (fx fy ux uy:Int) (w:World) (hS:Sl w A n c l) (hw:aF 131072000 l=true) (hlen:l.length≤100000) (h0f:aL 65536000 fx fy=true) (h0u:aL 65536000 ux uy=true) :
  Calls Tryz.prog 106 #[.slice A n c,cZ fx fy,cZ ux uy] w (dS (.tuple #[.int .i64 (OH l (fx,fy) (ux,uy)),.bool (O1 l (fx,fy) (ux,uy))]) w):=by
 have hn:=hS.len;have hcap:=hS.cap;have hbig:=hS.big;subst hn;have HSW:=hid hS;have HWI:=hid hw;have HBD:=hid (And.intro (aA.1 h0f) (aA.1 h0u));clear hS hw h0f h0u;obtain ⟨W,hW⟩:∃ W,W=(((w.alloc (.cells #[.int .i64 fx,.int .i64 fy] 24)).alloc (.cells #[.int .i64 ux,.int .i64 uy] 24)).alloc (.cells #[.int .i64 0,.int .i64 1] 202)).alloc (.cells #[.int .i64 1,.int .i64 1] 202):=⟨_,rfl⟩;obtain ⟨gv,hgv⟩:∃ g,g=w.heap.size+1+1+1:=⟨_,rfl⟩;obtain ⟨ge,hge⟩:∃ g,g=w.heap.size+1+1:=⟨_,rfl⟩;have hE0:Vp W ge 0 1:=by rw [hW,hge];exact ⟨by go_simp,by go_simp,fun j=>by go_simp⟩
 have hV0:Vp W gv 1 1:=by rw [hW,hgv];exact ⟨by go_simp,by go_simp,fun j=>by go_simp⟩
 have hF0:Cf W w.heap.size fx fy:=by rw [hW];exact ⟨by go_simp,by go_simp⟩
 have hU0:Cf W (w.heap.size+1) ux uy:=by rw [hW];exact ⟨by go_simp,by go_simp⟩
 have hB0:Below w.heap.size w W:=by rw [hW];go_grown
 go_enter Tryz.func106,Tryz.ntmps106
 go_wp2_with fail
 rw [← hW,← hgv,← hge];have hne1:¬ ge=w.heap.size:=by omega
 have hne2:¬ ge=w.heap.size+1:=by omega
 have hne3:¬ gv=w.heap.size:=by omega
 have hne4:¬ gv=w.heap.size+1:=by omega
 have hne5:¬ ge=gv:=by omega
 have hne6:¬ gv=ge:=by omega
 have hne7:¬ w.heap.size=ge:=by omega
 have hne8:¬ w.heap.size=gv:=by omega
 have hne9:¬ w.heap.size+1=ge:=by omega
 have hne0:¬ w.heap.size+1=gv:=by omega
 have hle1:w.heap.size≤ge:=by omega
 have hle2:w.heap.size≤gv:=by omega
 clear hgv hge
 go_loopw [20] (fun i wr=>(∃ (k:Nat) (e1 e2 v1 v2:Int),k≤l.length∧i = .int .i64 k∧Cj (pG l (fx,fy)) (pK l (ux,uy)) k=some ((e1,e2),(v1,v2))∧(nA e1∧nA e2∧nA v1∧nA v2)∧Vp wr (ge) e1 e2∧Vp wr (gv) v1 v2∧Cf wr (w.heap.size) fx fy∧Cf wr (w.heap.size+1) ux uy∧Below w.heap.size w wr)) (fun i _=>l.length-(intOf i).toNat)
 case atStart=>exact ⟨0,0,1,1,1,Nat.zero_le _,rfl,rfl,by unfold nA;omega,hE0,hV0,hF0,hU0,hB0⟩
 case round =>
  clear hE0 hV0 hF0 hU0 hB0 hW;obtain ⟨k,e1,e2,v1,v2,hk,rfl,hln,hbd,hE,hV,hF,hU,hB⟩:=hrel;obtain ⟨wo,rfl⟩:∃ wo:World,wo=wr:=⟨_,rfl⟩;have HBE:=hid hbd;have HLN:=hid hln;have HOK:=hid (by have:=PV (pG l (fx,fy)) (pK l (ux,uy)) k;rw [hln] at this;exact this:QX (pG l (fx,fy)) (pK l (ux,uy)) k (some ((e1,e2),(v1,v2))));clear hbd hln;have HE:=hid hE;have HV:=hid hV;have HF:=hid hF;have HU:=hid hU;clear hE hV hF hU
  by_cases hlt:k<l.length
  ·have HSO := hid (HSW.out.below hB);obtain ⟨b,off,hA,hC⟩:=HSO.out.at_ (by intro h;subst h;simp at hlt);subst hA;obtain ⟨j,hj⟩:∃ j,j=(k+1) % l.length:=⟨_,rfl⟩;have hjl:j<l.length:=by rw [hj];exact Nat.mod_lt _ (by omega)
   have hjt:((k:Int)+1).tmod (l.length:Int)=(j:Int):=by rw [Int.tmod_eq_emod_of_nonneg (by omega),hj];simp
   have hjw:IntKind.i64.wrap (j:Int)=(j:Int):=IntWalk.i64_in _ (by omega);have hkw:IntKind.i64.wrap ((k:Int)+1)=(k:Int)+1:=IntWalk.i64_in _ (by omega);have hlt':(k:Int)<(l.length:Int):=by omega
   have hjl':(j:Int)<(l.length:Int):=by omega
   have hl0:(l.length:Int)≠0:=by omega
   have x0:=hC.x k hlt;have x1:=hC.y k hlt;have y0:=hC.x j hjl;have y1:=hC.y j hjl;have hbo:=hC.lt;have HNE:=hid (Ox (fx:=fx) (fy:=fy) hlt hj);have HDE:=hid (Om (ux:=ux) (uy:=uy) hlt hj);have wk:=aA.1 (aD HWI.out hlt);have wj:=aA.1 (aD HWI.out hjl);have HSTEP:Hid (Cj (pG l (fx,fy)) (pK l (ux,uy)) (k+1)=sO (pG l (fx,fy) k) (pK l (ux,uy) k) (some ((e1,e2),(v1,v2)))):=by show _=_;rw [Cj,HLN.out]
   obtain ⟨N,hN⟩:∃ N,N=pG l (fx,fy) k:=⟨_,rfl⟩;obtain ⟨D,hD⟩:∃ D,D=pK l (ux,uy) k:=⟨_,rfl⟩;rw [← hN,← hD] at HSTEP;rw [← hN] at HNE;rw [← hD] at HDE;obtain ⟨ax,hax⟩:∃ z,z=px l k:=⟨_,rfl⟩;obtain ⟨ay,hay⟩:∃ z,z=py l k:=⟨_,rfl⟩;obtain ⟨bx,hbx⟩:∃ z,z=px l j:=⟨_,rfl⟩;obtain ⟨by_,hby⟩:∃ z,z=py l j:=⟨_,rfl⟩;rw [← hax] at x0 HNE HDE wk;rw [← hay] at x1 HNE HDE wk;rw [← hbx] at y0 HNE HDE wj;rw [← hby] at y1 HNE HDE wj;clear hax hay hbx hby hN hD hj;obtain ⟨nx,hnx⟩:∃ z,z=by_-ay:=⟨_,rfl⟩;obtain ⟨ny,hny⟩:∃ z,z=ax-bx:=⟨_,rfl⟩;rw [← hnx,← hny] at HNE HDE;obtain ⟨sx,hsx⟩:∃ z,z=ax-fx:=⟨_,rfl⟩;obtain ⟨sy,hsy⟩:∃ z,z=ay-fy:=⟨_,rfl⟩;rw [← hsx,← hsy] at HNE;have bf:=HBD.out.1;have bu:=HBD.out.2;have bnx : -262144000≤nx∧nx≤262144000:=by omega
   have bny : -262144000≤ny∧ny≤262144000:=by omega
   have bsx : -196608000≤sx∧sx≤196608000:=by omega
   have bsy : -196608000≤sy∧sy≤196608000:=by omega
   have m1:=bZ (x:=nx) (y:=sx) (M:=262144000) (N:=196608000) bnx.1 bnx.2 bsx.1 bsx.2;have m2:=bZ (x:=ny) (y:=sy) (M:=262144000) (N:=196608000) bny.1 bny.2 bsy.1 bsy.2;have m3:=bZ (x:=nx) (y:=ux) (M:=262144000) (N:=65536000) bnx.1 bnx.2 bu.1 bu.2.1;have m4:=bZ (x:=ny) (y:=uy) (M:=262144000) (N:=65536000) bny.1 bny.2 bu.2.2.1 bu.2.2.2;obtain ⟨t1,ht1⟩:∃ z,z=nx*sx:=⟨_,rfl⟩;obtain ⟨t2,ht2⟩:∃ z,z=ny*sy:=⟨_,rfl⟩;obtain ⟨t3,ht3⟩:∃ z,z=nx*ux:=⟨_,rfl⟩;obtain ⟨t4,ht4⟩:∃ z,z=ny*uy:=⟨_,rfl⟩;rw [← ht1,← ht2] at HNE;rw [← ht3,← ht4] at HDE;rw [← ht1] at m1;rw [← ht2] at m2;rw [← ht3] at m3;rw [← ht4] at m4;have w1:IntKind.i64.wrap (by_-ay)=nx:=by rw [← hnx];exact IntWalk.i64_in _ (by omega)
   have w2:IntKind.i64.wrap (ax-bx)=ny:=by rw [← hny];exact IntWalk.i64_in _ (by omega)
   have w3:IntKind.i64.wrap (ax-fx)=sx:=by rw [← hsx];exact IntWalk.i64_in _ (by omega)
   have w4:IntKind.i64.wrap (ay-fy)=sy:=by rw [← hsy];exact IntWalk.i64_in _ (by omega)
   have w5:IntKind.i64.wrap (nx*sx)=t1:=by rw [← ht1];exact IntWalk.i64_in _ (by omega)
   have w6:IntKind.i64.wrap (ny*sy)=t2:=by rw [← ht2];exact IntWalk.i64_in _ (by omega)
   have w7:IntKind.i64.wrap (nx*ux)=t3:=by rw [← ht3];exact IntWalk.i64_in _ (by omega)
   have w8:IntKind.i64.wrap (ny*uy)=t4:=by rw [← ht4];exact IntWalk.i64_in _ (by omega)
   have w9:IntKind.i64.wrap (t1+t2)=N:=by rw [HNE.out];exact IntWalk.i64_in _ (by omega)
   have w10:IntKind.i64.wrap (t3+t4)=D:=by rw [HDE.out];exact IntWalk.i64_in _ (by omega)
   have bN:nA N:=by unfold nA;rw [HNE.out];omega
   have bD:nA D:=by unfold nA;rw [HDE.out];omega
   have HBN:=hid (And.intro bN bD);have w11:IntKind.i64.wrap (-N) = -N:=IntWalk.i64_in _ (by unfold nA at bN;omega);have w12:IntKind.i64.wrap (-D) = -D:=IntWalk.i64_in _ (by unfold nA at bD;omega);have HC1:=hid (fun w=>qD N D v1 v2 bN.up bD.up HBE.out.2.2.1.up HBE.out.2.2.2.up w);have HC2:=hid (fun w=>qD (-N) (-D) e1 e2 bN.neg.up bD.neg.up HBE.out.1.up HBE.out.2.1.up w);obtain ⟨Z1,hZ1⟩:∃ z,z=pq (N*v2) (v1*D):=⟨_,rfl⟩;obtain ⟨Z2,hZ2⟩:∃ z,z=pq (-N*e2) (e1 * -D):=⟨_,rfl⟩;rw [← hZ1] at HC1;rw [← hZ2] at HC2;have HZ1:Hid (Z1<0↔N*v2<v1*D):=by show _↔_;rw [hZ1];unfold pq;split <;> (try split) <;> omega
   have HZ2:Hid (0<Z2↔e1 * -D < -N*e2):=by show _↔_;rw [hZ2];unfold pq;split <;> (try split) <;> omega
   clear bN bD hZ1 hZ2 m1 m2 m3 m4 ht1 ht2 ht3 ht4 bnx bny bsx bsy bf bu hsx hsy hnx hny wk wj HNE HDE hC HSO;obtain ⟨wa,hwa⟩:∃ wa,wa=((wo.alloc (.cells #[.int .i64 ax,.int .i64 ay] 24)).alloc (.cells #[.int .i64 bx,.int .i64 by_] 24)).alloc (.cells #[.int .i64 nx,.int .i64 ny] 24):=⟨_,rfl⟩;obtain ⟨gp,hgp⟩:∃ g,g=wo.heap.size:=⟨_,rfl⟩;obtain ⟨gn,hgn⟩:∃ g,g=wo.heap.size+2:=⟨_,rfl⟩;have n0:wa.cell? ⟨gn,0,none⟩=some (.int .i64 nx):=by rw [hwa,hgn];go_simp
   have n1:wa.cell? ⟨gn,1,none⟩=some (.int .i64 ny):=by rw [hwa,hgn];go_simp
   have a0:wa.cell? ⟨gp,0,none⟩=some (.int .i64 ax):=by rw [hwa,hgp];go_simp
   have a1:wa.cell? ⟨gp,1,none⟩=some (.int .i64 ay):=by rw [hwa,hgp];go_simp
   have hup:Below wo.heap.size wo wa:=by rw [hwa];go_grown
   have HE1:=hid (kR hup HE.out);have HV1:=hid (kR hup HV.out);replace HF:=hid (show Cf wa w.heap.size fx fy from ⟨keepCell hup HF.out.a,keepCell hup HF.out.b⟩);replace HU:=hid (show Cf wa (w.heap.size+1) ux uy from ⟨keepCell hup HU.out.a,keepCell hup HU.out.b⟩);have hB1:Below w.heap.size w wa:=aj hup hB;clear HE HV hup hB
   go_upto_region 7 with fail
   try rw [← hgn]
   rw [← hwa,← hgp];clear hwa hgp hgn x0 x1 y0 y1 hbo;refine wp_region_noPanic ?_;refine au (S:=(S2 (fun w'=>w'.cell? ⟨gn,0,none⟩=some (.int .i64 nx)∧w'.cell? ⟨gn,1,none⟩=some (.int .i64 ny)∧w'.cell? ⟨gp,0,none⟩=some (.int .i64 ax)∧w'.cell? ⟨gp,1,none⟩=some (.int .i64 ay)∧w'.cell? ⟨w.heap.size,0,none⟩=some (.int .i64 fx)∧w'.cell? ⟨w.heap.size,1,none⟩=some (.int .i64 fy)∧w'.cell? ⟨w.heap.size+1,0,none⟩=some (.int .i64 ux)∧w'.cell? ⟨w.heap.size+1,1,none⟩=some (.int .i64 uy)∧Vp w' (ge) e1 e2∧Vp w' (gv) v1 v2∧Below w.heap.size w w'))) (T:=(fun _=>0)) (by kernel_rfl) (aK ⟨n0,n1,a0,a1,HF.out.a,HF.out.b,HU.out.a,HU.out.b,HE1.out.drew,HV1.out.drew,hB1.drew⟩) (fun hH=>?_);have hWr1:aG (S2 (fun w'=>w'.cell? ⟨gn,0,none⟩=some (.int .i64 nx)∧w'.cell? ⟨gn,1,none⟩=some (.int .i64 ny)∧w'.cell? ⟨gp,0,none⟩=some (.int .i64 ax)∧w'.cell? ⟨gp,1,none⟩=some (.int .i64 ay)∧w'.cell? ⟨w.heap.size,0,none⟩=some (.int .i64 fx)∧w'.cell? ⟨w.heap.size,1,none⟩=some (.int .i64 fy)∧w'.cell? ⟨w.heap.size+1,0,none⟩=some (.int .i64 ux)∧w'.cell? ⟨w.heap.size+1,1,none⟩=some (.int .i64 uy)∧Vp w' (ge) e1 e2∧Vp w' (gv) v1 v2∧Below w.heap.size w w')):=aI _;refine dG [(0,44),(1,45),(2,46),(3,47),(4,48),(5,49),(6,50),(7,51),(8,52),(9,53),(10,54),(11,55),(12,56),(13,57),(14,58),(15,59),(16,60),(17,61),(18,62),(19,63),(20,64),(21,65),(22,66),(23,67),(24,68),(25,69),(26,70),(27,71),(28,14),(29,15)] 0 0 0 (L':=?Lr1_1) hWr1 hH ?yr1_1 ?_
   case yr1_1=>((iterate 30 apply dF;rfl;kernel_rfl;intro w' hSw;replace hSw:=aB hSw;(try dsimp only at hSw);have q0:=hSw.1;have q1:=hSw.2.1;have q2:=hSw.2.2.1;have q3:=hSw.2.2.2.1;have q4:=hSw.2.2.2.2.1;have q5:=hSw.2.2.2.2.2.1;have q6:=hSw.2.2.2.2.2.2.1;have q7:=hSw.2.2.2.2.2.2.2.1;have q8:=hSw.2.2.2.2.2.2.2.2.1;have q9:=hSw.2.2.2.2.2.2.2.2.2.1;have q10:=hSw.2.2.2.2.2.2.2.2.2.2;(try simp only [sB,sC]);go_simp;(try with_reducible rfl));exact dD)
   simp only [sB,sC];refine ak (by kernel_rfl) ?_ _ _;refine NoPanic.normal ?_;clear hWr1;replace hH:=aB hH
   (try dsimp only at hH)
   have q0:=hH.1;have q1:=hH.2.1;have q2:=hH.2.2.1;have q3:=hH.2.2.2.1;have q4:=hH.2.2.2.2.1;have q5:=hH.2.2.2.2.2.1;have q6:=hH.2.2.2.2.2.2.1;have q7:=hH.2.2.2.2.2.2.2.1;have q8:=hH.2.2.2.2.2.2.2.2.1;have q9:=hH.2.2.2.2.2.2.2.2.2.1;have q10:=hH.2.2.2.2.2.2.2.2.2.2;have k0:=q8.a;have k1:=q8.b;have k2:=q9.a;have k3:=q9.b;clear hH q0 q1 q2 q3
   by_cases c0:D=0
   ·have HS:Hid (Cj (pG l (fx,fy)) (pK l (ux,uy)) (k+1)=if N<0 then none else some ((e1,e2),(v1,v2))):=by
     show _=_;rw [HSTEP.out,sO]
     by_cases hN:N<0
     ·rw [if_pos ⟨c0,hN⟩,if_pos hN]
     ·rw [if_neg (fun h=>hN h.2),if_neg (by omega),if_neg (by omega),if_neg hN]
    clear HSTEP HZ1 HZ2 HC1 HC2
    by_cases cN:N<0
    ·rw [if_pos cN] at HS;have HR:Hid (rP l (fx,fy) (ux,uy)=none):=by show _=_;unfold rP;rw [C9 HS.out (by omega)];rfl
     have HT:Hid (OH l (fx,fy) (ux,uy)=0∧O1 l (fx,fy) (ux,uy)=false):=by show _∧_;unfold OH O1;rw [HR.out];exact ⟨rfl,rfl⟩
     go_wp2;refine bodyPost_ret (v:=.tuple #[.int .i64 0,.bool false]) (by simp [results,Tryz.results106,go_sem]) rfl ⟨by rw [HT.out.1,HT.out.2],q10⟩
    ·rw [if_neg cN] at HS;go_wp2;go_roundw
     case rel=>exact ⟨k+1,e1,e2,v1,v2,by omega,by go_num,HS.out,HBE.out,q8,q9,⟨q4,q5⟩,⟨q6,q7⟩,q10⟩
     case measure=>simp [intOf];omega
   by_cases cD:0<D
   ·have HS0:Hid (Cj (pG l (fx,fy)) (pK l (ux,uy)) (k+1)=if N*v2<v1*D then some ((e1,e2),(N,D)) else some ((e1,e2),(v1,v2))):=by
     show _=_;rw [HSTEP.out,sO,if_neg (fun h=>c0 h.1)]
     by_cases hz:N*v2<v1*D
     ·rw [if_pos ⟨cD,hz⟩,if_pos hz]
     ·rw [if_neg (fun h=>hz h.2),if_neg (by omega),if_neg hz]
    clear HSTEP HC2 HZ2
    by_cases cz:Z1<0
    ·have HS : Hid (Cj (pG l (fx, fy)) (pK l (ux, uy)) (k + 1) = some ((e1, e2), (N, D))) := by show _ = _; rw [HS0.out, if_pos (HZ1.out.1 cz)]
     clear HS0 HZ1
     go_wp2_with (go_at_call 159;refine (HC1.out _).mono ?_;rintro e wn ⟨rfl,hb⟩;have hE:=kR hb q8;have hV:=kR hb q9;have z0:=hE.a;have z1:=hE.b;have zf:=hE.f;have y0:=hV.a;have y1:=hV.b;have yf:=hV.f;have hf0:=keepCell hb q4;have hf1:=keepCell hb q5;have hu0:=keepCell hb q6;have hu1:=keepCell hb q7;have hBn:=aj hb q10;clear hb q4 q5 q6 q7 q8 q9 q10 k0 k1 k2 k3)
     go_roundw
     case rel=>exact ⟨k+1,e1,e2,N,D,by omega,by go_num,HS.out,⟨HBE.out.1,HBE.out.2.1,HBN.out.1,HBN.out.2⟩,hE.off hne5 _ _,hV.put _ _,⟨by go_simp,by go_simp⟩,⟨by go_simp,by go_simp⟩,by go_grown⟩
     case measure=>simp [intOf];omega
    ·have HS : Hid (Cj (pG l (fx, fy)) (pK l (ux, uy)) (k + 1) = some ((e1, e2), (v1, v2))) := by show _ = _; rw [HS0.out, if_neg (fun h => cz (HZ1.out.2 h))]
     clear HS0 HZ1
     go_wp2_with (go_at_call 159;refine (HC1.out _).mono ?_;rintro e wn ⟨rfl,hb⟩;have hE:=kR hb q8;have hV:=kR hb q9;have z0:=hE.a;have z1:=hE.b;have zf:=hE.f;have y0:=hV.a;have y1:=hV.b;have yf:=hV.f;have hf0:=keepCell hb q4;have hf1:=keepCell hb q5;have hu0:=keepCell hb q6;have hu1:=keepCell hb q7;have hBn:=aj hb q10;clear hb q4 q5 q6 q7 q8 q9 q10 k0 k1 k2 k3)
     go_roundw
     case rel=>exact ⟨k+1,e1,e2,v1,v2,by omega,by go_num,HS.out,HBE.out,hE,hV,⟨hf0,hf1⟩,⟨hu0,hu1⟩,hBn⟩
     case measure=>simp [intOf];omega
   ·have HS0:Hid (Cj (pG l (fx,fy)) (pK l (ux,uy)) (k+1)=if e1 * -D < -N*e2 then some ((-N,-D),(v1,v2)) else some ((e1,e2),(v1,v2))):=by
     show _=_;rw [HSTEP.out,sO,if_neg (fun h=>c0 h.1),if_neg (fun h=>cD h.1)]
     by_cases hz:e1 * -D < -N*e2
     ·rw [if_pos ⟨by omega,hz⟩,if_pos hz]
     ·rw [if_neg (fun h=>hz h.2),if_neg hz]
    have cM:D<0:=by omega
    clear HSTEP HC1 HZ1
    by_cases cz:0<Z2
    ·have HS : Hid (Cj (pG l (fx, fy)) (pK l (ux, uy)) (k + 1) = some ((-N, -D), (v1, v2))) := by show _ = _; rw [HS0.out, if_pos (HZ2.out.1 cz)]
     clear HS0 HZ2
     go_wp2_with (go_at_call 159;refine (HC2.out _).mono ?_;rintro e wn ⟨rfl,hb⟩;have hE:=kR hb q8;have hV:=kR hb q9;have z0:=hE.a;have z1:=hE.b;have zf:=hE.f;have y0:=hV.a;have y1:=hV.b;have yf:=hV.f;have hf0:=keepCell hb q4;have hf1:=keepCell hb q5;have hu0:=keepCell hb q6;have hu1:=keepCell hb q7;have hBn:=aj hb q10;clear hb q4 q5 q6 q7 q8 q9 q10 k0 k1 k2 k3)
     go_roundw
     case rel=>exact ⟨k+1,-N,-D,v1,v2,by omega,by go_num,HS.out,⟨HBN.out.1.neg,HBN.out.2.neg,HBE.out.2.2⟩,hE.put _ _,hV.off hne6 _ _,⟨by go_simp,by go_simp⟩,⟨by go_simp,by go_simp⟩,by go_grown⟩
     case measure=>simp [intOf];omega
    ·have HS : Hid (Cj (pG l (fx, fy)) (pK l (ux, uy)) (k + 1) = some ((e1, e2), (v1, v2))) := by show _ = _; rw [HS0.out, if_neg (fun h => cz (HZ2.out.2 h))]
     clear HS0 HZ2
     go_wp2_with (go_at_call 159;refine (HC2.out _).mono ?_;rintro e wn ⟨rfl,hb⟩;have hE:=kR hb q8;have hV:=kR hb q9;have z0:=hE.a;have z1:=hE.b;have zf:=hE.f;have y0:=hV.a;have y1:=hV.b;have yf:=hV.f;have hf0:=keepCell hb q4;have hf1:=keepCell hb q5;have hu0:=keepCell hb q6;have hu1:=keepCell hb q7;have hBn:=aj hb q10;clear hb q4 q5 q6 q7 q8 q9 q10 k0 k1 k2 k3)
     go_roundw
     case rel=>exact ⟨k+1,e1,e2,v1,v2,by omega,by go_num,HS.out,HBE.out,hE,hV,⟨hf0,hf1⟩,⟨hu0,hu1⟩,hBn⟩
     case measure=>simp [intOf];omega
  ·have hkn : k = l.length := by omega
   subst hkn;obtain ⟨g1,g2,g3,g4,-,-⟩:=HOK.out;have HR:Hid (rP l (fx,fy) (ux,uy)=if v1*e2<e1*v2 then none else some (e1*65536 / e2)):=by show _=_;unfold rP;rw [HLN.out];rfl
   have HCE:=hid (fun w=>qD e1 e2 v1 v2 HBE.out.1.up HBE.out.2.1.up HBE.out.2.2.1.up HBE.out.2.2.2.up w);obtain ⟨Z,hZ⟩:∃ z,z=pq (e1*v2) (v1*e2):=⟨_,rfl⟩;rw [← hZ] at HCE;have HZ:Hid (0<Z↔v1*e2<e1*v2):=by show _↔_;rw [hZ];unfold pq;split <;> (try split) <;> omega
   clear hZ;obtain ⟨k0,k1,kf⟩:=HE.out;obtain ⟨k2,k3,kg⟩:=HV.out
   by_cases cz:0<Z
   ·have HT : Hid (OH l (fx, fy) (ux, uy) = 0 ∧ O1 l (fx, fy) (ux, uy) = false) := by show _ ∧ _; unfold OH O1; rw [HR.out, if_pos (HZ.out.1 cz)]; exact ⟨rfl, rfl⟩
    clear HR HZ g1 g2 g3 g4
    go_wp2_with (go_at_call 159;refine (HCE.out _).mono ?_;rintro e wn ⟨rfl,hb⟩)
    refine bodyPost_ret (v:=.tuple #[.int .i64 0,.bool false]) (by simp [results,Tryz.results106,go_sem]) rfl ⟨by rw [HT.out.1,HT.out.2],aj hb hB⟩
   ·have hnz : ¬ v1 * e2 < e1 * v2 := fun h => cz (HZ.out.2 h)
    have HT:Hid (OH l (fx,fy) (ux,uy)=e1*65536 / e2∧O1 l (fx,fy) (ux,uy)=true):=by show _∧_;unfold OH O1;rw [HR.out,if_neg hnz];exact ⟨rfl,rfl⟩
    have hle:e1≤e2:=by
     have q:=Int.mul_le_mul_of_nonneg_right g4 (Int.le_of_lt g1);dsimp only at q g2;refine Int.le_of_mul_le_mul_right (a:=v2) ?_ g2;rw [Int.mul_comm e2];omega
    have HFL:=hid (fun w=>BJ e1 e2 g3 hle g1 (by have:=HBE.out.2.1;unfold nA at this;omega) w);clear HR HZ g1 g2 g3 g4 hnz hle;generalize e1*65536 / e2=R at *
    go_wp2_with (first
     | (go_at_call 159;refine (HCE.out _).mono ?_;rintro e wn ⟨rfl,hb⟩;replace k0:=keepCell hb k0;replace k1:=keepCell hb k1;replace hB:=aj hb hB;clear hb)
     | (go_at_call 160;refine (HFL.out _).mono ?_;rintro e wm ⟨rfl,hb⟩;replace hB:=aj hb hB;clear hb))
    refine bodyPost_ret (v:=.tuple #[.int .i64 R,.bool true]) (by simp [results,Tryz.results106,go_sem]) rfl ⟨by rw [HT.out.1,HT.out.2],hB⟩
end
end Go.Proofs.YtokgmcomgflloaaGreat
