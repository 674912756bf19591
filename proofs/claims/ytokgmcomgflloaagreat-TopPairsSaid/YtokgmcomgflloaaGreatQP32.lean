/- Parts of a proof: contracts and laws. -/
import Derived.Test.YtokgmcomgflloaaGreatQP01
import Derived.Test.YtokgmcomgflloaaGreatQP02
import Derived.Test.YtokgmcomgflloaaGreatQP03
import Derived.Test.YtokgmcomgflloaaGreatQP20
set_option maxRecDepth 100000
set_option maxHeartbeats 16000000
namespace Go.Proofs.YtokgmcomgflloaaGreat
section
set_option linter.unusedVariables false
set_option linter.unusedSimpArgs false
open Go.RowKit
variable {w0 w w':World}

structure Vp (w : World) (g : Nat) (x y : Int) : Prop where
 a:w.cell? ⟨g,0,none⟩=some (.int .i64 x)
 b:w.cell? ⟨g,1,none⟩=some (.int .i64 y)
 f:∀ j,w.frozen? ⟨g,j,none⟩=false
theorem kR {g:Nat} {x y:Int} (hb:Below w.heap.size w w') (h:Vp w g x y):Vp w' g x y :=
 ⟨keepCell hb h.a,keepCell hb h.b,fun j=>((cO hb).2 _ _ (lt_of_cell h.a)).trans (h.f j)⟩
theorem Vp.lt {g:Nat} {x y:Int} (h:Vp w g x y):g<w.heap.size:=lt_of_cell h.a
theorem Vp.alloc {g:Nat} {x y:Int} (h:Vp w g x y) (o:Obj):Vp (w.alloc o) g x y:=kR Ba h
theorem Vp.drew {g:Nat} {x y:Int} (h:Vp w g x y):Vp w.drew g x y:=⟨h.a,h.b,h.f⟩
theorem Vp.here (w:World) (x y:Int) (t:TypeId):Vp (w.alloc (.cells #[.int .i64 x,.int .i64 y] t)) w.heap.size x y:=⟨by go_simp,by go_simp,fun j=>by go_simp⟩
theorem Vp.put {g:Nat} {x y:Int} (h:Vp w g x y) (u v:Int):Vp ((w.setCell ⟨g,0,none⟩ (.int .i64 u)).setCell ⟨g,1,none⟩ (.int .i64 v)) g u v:=by
 obtain ⟨a,b,f⟩:=h;exact ⟨by go_simp,by go_simp,fun j=>by go_simp⟩
theorem Vp.off {g k:Nat} {x y:Int} (h:Vp w g x y) (hne:g≠k) (u v:Value):Vp ((w.setCell ⟨k,0,none⟩ u).setCell ⟨k,1,none⟩ v) g x y:=by
 obtain ⟨a,b,f⟩:=h;exact ⟨by go_simp,by go_simp,fun j=>by go_simp⟩
def pE (a:Int):Prop := -4611686018427387904≤a∧a≤4611686018427387904
theorem DK {a b:Int} (h1:pE a) (h2:pE b) : -170141183460469231731687303715884105728≤a*b∧a*b<170141183460469231731687303715884105728:=by
 have:=bZ (x:=a) (y:=b) (M:=4611686018427387904) (N:=4611686018427387904) h1.1 h1.2 h2.1 h2.2;omega
theorem qD (a b c d:Int) (ha:pE a) (hb:pE b) (hc:pE c) (hd:pE d) (w:World):Calls Tryz.prog 159 #[cZ a b,cZ c d] w (dS (.int .i64 (pq (a*d) (c*b))) w):=by
 have r1:=DK ha hd;have r2:=DK hc hb;have HT1:=hid (fun w=>gI a d (by unfold pE at *;omega) (by unfold pE at *;omega) (by unfold pE at *;omega) (by unfold pE at *;omega) w);have HT2:=hid (fun w=>gI c b (by unfold pE at *;omega) (by unfold pE at *;omega) (by unfold pE at *;omega) (by unfold pE at *;omega) w);have HCM:=hid (show ∀ w,Calls Tryz.prog 218 #[jE (a*d),jE (c*b)] w (dS (.int .i64 (pq (a*d) (c*b))) w) from fun w=>xE (a*d) (c*b) r1.1 r1.2 r2.1 r2.2 w);clear r1 r2 ha hb hc hd;obtain ⟨T,hT⟩:∃ T,T=pq (a*d) (c*b):=⟨_,rfl⟩;rw [← hT] at HCM ⊢;clear hT;generalize a*d=P at *
 generalize c*b=Q at *
 obtain ⟨W,hW⟩:∃ W,W=(w.alloc (.cells #[.int .i64 a,.int .i64 b] 202)).alloc (.cells #[.int .i64 c,.int .i64 d] 202):=⟨_,rfl⟩;have c0:W.cell? ⟨w.heap.size,0,none⟩=some (.int .i64 a):=by rw [hW];go_simp
 have c1:W.cell? ⟨w.heap.size,1,none⟩=some (.int .i64 b):=by rw [hW];go_simp
 have c2:W.cell? ⟨w.heap.size+1,0,none⟩=some (.int .i64 c):=by rw [hW];go_simp
 have c3:W.cell? ⟨w.heap.size+1,1,none⟩=some (.int .i64 d):=by rw [hW];go_simp
 have hB0:Below w.heap.size w W:=by rw [hW];go_grown
 go_enter Tryz.func159,Tryz.ntmps159
 go_upto_region 1 with fail
 rw [← hW];clear hW;refine wp_region_noPanic ?_;refine au (S:=(S2 (fun w'=>w'.cell? ⟨w.heap.size,0,none⟩=some (.int .i64 a)∧w'.cell? ⟨w.heap.size,1,none⟩=some (.int .i64 b)∧w'.cell? ⟨w.heap.size+1,0,none⟩=some (.int .i64 c)∧w'.cell? ⟨w.heap.size+1,1,none⟩=some (.int .i64 d)∧Below w.heap.size w w'))) (T:=(fun _=>0)) (by kernel_rfl) (aK ⟨c0,c1,c2,c3,hB0.drew⟩) (fun hH=>?_);have hWr1:aG (S2 (fun w'=>w'.cell? ⟨w.heap.size,0,none⟩=some (.int .i64 a)∧w'.cell? ⟨w.heap.size,1,none⟩=some (.int .i64 b)∧w'.cell? ⟨w.heap.size+1,0,none⟩=some (.int .i64 c)∧w'.cell? ⟨w.heap.size+1,1,none⟩=some (.int .i64 d)∧Below w.heap.size w w')):=aI _;refine dG [(0,5),(1,6),(2,7),(3,8),(5,10),(6,11),(7,12),(8,13)] 4 0 0 (L':=?Lr1_1) hWr1 hH ?yr1_1 ?_
 case yr1_1=>((iterate 8 apply dF;rfl;kernel_rfl;intro w' hSw;replace hSw:=aB hSw;(try dsimp only at hSw);have q0:=hSw.1;have q1:=hSw.2.1;have q2:=hSw.2.2.1;have q3:=hSw.2.2.2.1;have q4:=hSw.2.2.2.2;(try simp only [sB,sC]);go_simp;(try with_reducible rfl));exact dD)
 simp only [sB,sC];refine U1 4 0 rfl (fun K hK=>?_)
 try clear hb
 go_simp
 (go_at_call 95;refine (HT1.out _).mono ?_;rintro e wn ⟨rfl,hb⟩)
 refine hK.out _ _ (aK (by have hG:=hH;replace hG:=aB hG;(try dsimp only at hG);have q0:=hG.1;have q1:=hG.2.1;have q2:=hG.2.2.1;have q3:=hG.2.2.2.1;have q4:=hG.2.2.2.2;exact ⟨keepCell hb q0,keepCell hb q1,keepCell hb q2,keepCell hb q3,aj hb q4⟩)) (fun hH2=>?_);clear hK K hH
 rename _=>hH
 try simp only [Act.put,sA,sB,sC]
 refine U1 9 0 rfl (fun K hK=>?_)
 try clear hb
 go_simp
 (go_at_call 95;refine (HT2.out _).mono ?_;rintro e wn ⟨rfl,hb⟩)
 refine hK.out _ _ (aK (by have hG:=hH;replace hG:=aB hG;(try dsimp only at hG);have q0:=hG.1;have q1:=hG.2.1;have q2:=hG.2.2.1;have q3:=hG.2.2.2.1;have q4:=hG.2.2.2.2;exact ⟨keepCell hb q0,keepCell hb q1,keepCell hb q2,keepCell hb q3,aj hb q4⟩)) (fun hH2=>?_);clear hK K hH
 rename _=>hH
 try simp only [Act.put,sA,sB,sC]
 refine U1 10 0 rfl (fun K hK=>?_)
 try clear hb
 go_simp
 (go_at_call 218;refine (HCM.out _).mono ?_;rintro e wn ⟨rfl,hb⟩)
 refine hK.out _ _ (aK (by have hG:=hH;replace hG:=aB hG;(try dsimp only at hG);have q0:=hG.1;have q1:=hG.2.1;have q2:=hG.2.2.1;have q3:=hG.2.2.2.1;have q4:=hG.2.2.2.2;exact ⟨keepCell hb q0,keepCell hb q1,keepCell hb q2,keepCell hb q3,aj hb q4⟩)) (fun hH2=>?_);clear hK K hH
 rename _=>hH
 try simp only [Act.put,sA,sB,sC]
 refine Ut 11 4 0 0 0 (v:=?vr1_12) rfl hWr1 hH ?yr1_12 ?_
 case yr1_12=>(intro w' hSw;clear hSw;go_simp;try (with_reducible rfl))
 simp only [sB,sC];refine ak (by kernel_rfl) ?_ _ _;refine NoPanic.normal ?_;clear hWr1;replace hH:=aB hH
 (try dsimp only at hH)
 have q0:=hH.1;have q1:=hH.2.1;have q2:=hH.2.2.1;have q3:=hH.2.2.2.1;have q4:=hH.2.2.2.2;go_wp2
 go_returns
 exact aH rfl q4
-- the greatest m from 0 to 65536 with m d <= 65536 n
theorem BJ (n d:Int) (hn0:0≤n) (hnd:n≤d) (hd0:0<d) (hd:d≤4611686018427387904) (w:World):Calls Tryz.prog 160 #[cZ n d] w (dS (.int .i64 (n*65536 / d)) w):=by
 have HT2:=hid (fun w=>gI n 65536 (by omega) (by omega) (by omega) (by omega) w)
 have HQ:Hid (∀ low high:Int,low*d≤n*65536→n*65536<high*d→low+1=high→low=n*65536 / d):=fun low high h1 h2 h3=>by
  have a:=(Int.le_ediv_iff_mul_le hd0).2 h1;have b:=(Int.ediv_lt_iff_lt_mul hd0).2 h2;omega
 have HE:Hid (n*65536<65537*d):=by show _<_;omega
 have HD:=hid (And.intro hd0 hd);have HN:=hid (And.intro hn0 hnd);clear hn0 hnd hd0 hd;generalize n*65536 / d=R at *
 have HN6:Hid (n*65536=n*65536):=rfl;obtain ⟨W,hW⟩:∃ W,W=w.alloc (.cells #[.int .i64 n,.int .i64 d] 202):=⟨_,rfl⟩;have c0:W.cell? ⟨w.heap.size,0,none⟩=some (.int .i64 n):=by rw [hW];go_simp
 have c1:W.cell? ⟨w.heap.size,1,none⟩=some (.int .i64 d):=by rw [hW];go_simp
 have hB0:Below w.heap.size w W:=by rw [hW];go_grown
 go_enter Tryz.func160,Tryz.ntmps160
 go_wp2_with fail
 rw [← hW];clear hW
 go_loopw [3,4] (fun lv hv wr=>∃ low high:Int,lv = .int .i64 low∧hv = .int .i64 high∧0≤low∧low<high∧high≤65537∧low*d≤n*65536∧n*65536<high*d∧wr.cell? ⟨w.heap.size,0,none⟩=some (.int .i64 n)∧wr.cell? ⟨w.heap.size,1,none⟩=some (.int .i64 d)∧Below w.heap.size w wr) (fun lv hv _=>(intOf hv-intOf lv).toNat)
 case atStart=>exact ⟨0,65537,rfl,rfl,by omega,by omega,by omega,by have:=HN.out;omega,HE.out,c0,c1,hB0⟩
 case round =>
  clear c0 c1 hB0;obtain ⟨low,high,rfl,rfl,h0,h1,h2,h3,h4,q0,q1,hB⟩:=hrel;obtain ⟨wo,rfl⟩:∃ wo:World,wo=wr:=⟨_,rfl⟩;have H34:=hid (And.intro h3 h4);clear h3 h4;have hw1:IntKind.i64.wrap (high-low)=high-low:=IntWalk.i64_in _ (by omega)
  by_cases hc:1<high-low
  ·have hw2 : IntKind.i64.wrap (low + high) = low + high := IntWalk.i64_in _ (by omega);obtain ⟨m,hm⟩:∃ m,m=(low+high) / 2:=⟨_,rfl⟩;have htd:(low+high).tdiv 2=m:=by rw [Int.tdiv_eq_ediv_of_nonneg (by omega),hm]
   have hw3:IntKind.i64.wrap m=m:=IntWalk.i64_in _ (by omega);have hm1:low<m:=by omega
   have hm2:m<high:=by omega
   have mb:=bZ (x:=m) (y:=d) (M:=65537) (N:=4611686018427387904) (by omega) (by omega) (by have:=HD.out;omega) (by have:=HD.out;omega);have nb:0≤n*65536∧n*65536≤4611686018427387904*65536:=by have:=HN.out;have:=HD.out;omega
   have HT1:=hid (fun w=>gI m d (by omega) (by omega) (by have:=HD.out;omega) (by have:=HD.out;omega) w);have HCM:=hid (show ∀ w,Calls Tryz.prog 218 #[jE (m*d),jE (n*65536)] w (dS (.int .i64 (pq (m*d) (n*65536))) w) from fun w=>xE (m*d) (n*65536) (by omega) (by omega) (by omega) (by omega) w);clear mb nb hm
   go_upto_region 4 with fail
   refine wp_region_noPanic ?_;refine au (S:=(S2 (fun w'=>w'.cell? ⟨w.heap.size,0,none⟩=some (.int .i64 n)∧w'.cell? ⟨w.heap.size,1,none⟩=some (.int .i64 d)∧Below w.heap.size w w'))) (T:=(fun _=>0)) (by kernel_rfl) (aK ⟨q0,q1,hB.drew⟩) (fun hH=>?_);have hWr2:aG (S2 (fun w'=>w'.cell? ⟨w.heap.size,0,none⟩=some (.int .i64 n)∧w'.cell? ⟨w.heap.size,1,none⟩=some (.int .i64 d)∧Below w.heap.size w w')):=aI _;refine dG [(0,14),(1,15),(2,16),(4,18),(5,19)] 4 0 0 (L':=?Lr2_1) hWr2 hH ?yr2_1 ?_
   case yr2_1=>((iterate 5 apply dF;rfl;kernel_rfl;intro w' hSw;replace hSw:=aB hSw;(try dsimp only at hSw);have q0:=hSw.1;have q1:=hSw.2.1;have q2:=hSw.2.2;(try simp only [sB,sC]);go_simp;(try with_reducible rfl));exact dD)
   simp only [sB,sC];refine U1 3 0 rfl (fun K hK=>?_)
   try clear hb
   go_simp
   (go_at_call 95;refine (HT1.out _).mono ?_;rintro e wn ⟨rfl,hb⟩)
   refine hK.out _ _ (aK (by have hG:=hH;replace hG:=aB hG;(try dsimp only at hG);have q0:=hG.1;have q1:=hG.2.1;have q2:=hG.2.2;exact ⟨keepCell hb q0,keepCell hb q1,aj hb q2⟩)) (fun hH2=>?_);clear hK K hH
   rename _=>hH
   try simp only [Act.put,sA,sB,sC]
   refine U1 6 0 rfl (fun K hK=>?_)
   try clear hb
   go_simp
   (go_at_call 95;refine (HT2.out _).mono ?_;rintro e wn ⟨rfl,hb⟩)
   refine hK.out _ _ (aK (by have hG:=hH;replace hG:=aB hG;(try dsimp only at hG);have q0:=hG.1;have q1:=hG.2.1;have q2:=hG.2.2;exact ⟨keepCell hb q0,keepCell hb q1,aj hb q2⟩)) (fun hH2=>?_);clear hK K hH
   rename _=>hH
   try simp only [Act.put,sA,sB,sC]
   refine U1 7 0 rfl (fun K hK=>?_)
   try clear hb
   go_simp
   (go_at_call 218;refine (HCM.out _).mono ?_;rintro e wn ⟨rfl,hb⟩)
   refine hK.out _ _ (aK (by have hG:=hH;replace hG:=aB hG;(try dsimp only at hG);have q0:=hG.1;have q1:=hG.2.1;have q2:=hG.2.2;exact ⟨keepCell hb q0,keepCell hb q1,aj hb q2⟩)) (fun hH2=>?_);clear hK K hH
   rename _=>hH
   try simp only [Act.put,sA,sB,sC]
   refine Ut 8 22 0 0 0 (v:=?vr2_9) rfl hWr2 hH ?yr2_9 ?_
   case yr2_9=>(intro w' hSw;clear hSw;go_simp;try (with_reducible rfl))
   simp only [sB,sC];refine ak (by kernel_rfl) ?_ _ _;refine NoPanic.normal ?_;clear hWr2;replace hH:=aB hH
   (try dsimp only at hH)
   have q0:=hH.1;have q1:=hH.2.1;have q2:=hH.2.2
   by_cases hle:m*d≤n*65536
   ·have hz : pq (m * d) (n * 65536) ≤ 0 := by unfold pq; split <;> (try split) <;> omega
    have H3:=hid hle;clear hle;generalize pq (m*d) (n*65536)=Z at *
    go_wp2;go_roundw
    case rel=>exact ⟨m,high,rfl,rfl,by omega,hm2,h2,H3.out,H34.out.2,q0,q1,q2⟩
    case measure=>simp only [intOf];omega
   ·have hz : 0 < pq (m * d) (n * 65536) := by unfold pq; split <;> (try split) <;> omega
    have H3:=hid hle;clear hle;generalize pq (m*d) (n*65536)=Z at *
    go_wp2;go_roundw
    case rel=>exact ⟨low,m,rfl,rfl,h0,hm1,by omega,H34.out.1,by have:=H3.out;omega,q0,q1,q2⟩
    case measure=>simp only [intOf];omega
  ·have hR := hid (HQ.out low high H34.out.1 H34.out.2 (by omega));go_wp2
   go_returns
   exact aH hR.out hB
def yx (l:List V) (i k:Nat):Prop:=py l i<py l k∨(py l i=py l k∧px l i<px l k)
instance (l:List V) (i k:Nat):Decidable (yx l i k):=by unfold yx;infer_instance
def j5 (l : List V) : Nat → Nat
 | 0=>0
 | i+1=>if yx l i (j5 l i) then i else j5 l i
def fC (l:List V):Nat:=j5 l l.length
theorem jW (l : List V) : ∀ k, 0 < l.length → k ≤ l.length → j5 l k < l.length
 | 0,h,_=>h
 | k+1,h,hk=>by
  rw [j5]
  split
  ·omega
  ·exact jW l k h (by omega)

def qO (a b p q:Int):Int:=a*q-b*p
theorem Qn {a b p q:Int} (ha : -1073741824≤a∧a≤1073741824) (hb : -1073741824≤b∧b≤1073741824) (hp : -1073741824≤p∧p≤1073741824) (hq : -1073741824≤q∧q≤1073741824) :
  (-1152921504606846976≤a*q∧a*q≤1152921504606846976)∧(-1152921504606846976≤b*p∧b*p≤1152921504606846976) :=
 ⟨bZ (x:=a) (y:=q) (M:=1073741824) (N:=1073741824) (by omega) (by omega) (by omega) (by omega),bZ (x:=b) (y:=p) (M:=1073741824) (N:=1073741824) (by omega) (by omega) (by omega) (by omega)⟩

def mM (l:List V) (f i:Nat):Int:=px l ((f+i+1) % l.length)-px l ((f+i) % l.length)
def nG (l:List V) (f i:Nat):Int:=py l ((f+i+1) % l.length)-py l ((f+i) % l.length)
theorem KX {l:List V} (hw:aF 65536000 l=true) (h3:0<l.length) (f i:Nat):(-131072000≤mM l f i∧mM l f i≤131072000)∧(-131072000≤nG l f i∧nG l f i≤131072000):=by
 have h1:=aA.1 (aD hw (Nat.mod_lt (f+i) h3));have h2:=aA.1 (aD hw (Nat.mod_lt (f+i+1) h3));unfold mM nG;omega
def negL (l:List V):List V:=l.map fun p=>(-p.1,-p.2)
theorem fD (l:List V):(negL l).length=l.length:=by simp [negL]
theorem Fq (l:List V) (i:Nat):px (negL l) i = -px l i:=by
 unfold px negL
 by_cases h:i<l.length
 ·simp [h]
 ·simp [h]
theorem Fh (l:List V) (i:Nat):py (negL l) i = -py l i:=by
 unfold py negL
 by_cases h:i<l.length
 ·simp [h]
 ·simp [h]
theorem nW {l:List V} (h:aF 65536000 l=true):aF 65536000 (negL l)=true:=by
 unfold aF at h ⊢;unfold negL;rw [List.all_eq_true] at h ⊢;intro p hp;obtain ⟨q,hq,rfl⟩:=List.mem_map.1 hp;have:=aA.1 (h q hq);exact aA.2 (by dsimp only;omega)

def yN (a c:List V) (i k x y:Nat):Int:=px a ((i+x) % a.length)+px c ((k+y) % c.length)
def yJ (a c:List V) (i k x y:Nat):Int:=py a ((i+x) % a.length)+py c ((k+y) % c.length)
def Tc (a c:List V) (i k x y:Nat):Int:=qO (mM a i x) (nG a i x) (mM c k y) (nG c k y)
def JY (a c:List V) (i k x y:Nat):Bool:=y == c.length || (decide (x<a.length) && decide (0≤Tc a c i k x y))
def JL (a c:List V) (i k x y:Nat):Bool:=x == a.length || (decide (y<c.length) && decide (Tc a c i k x y≤0))
def jD (a c : List V) (i k : Nat) : Nat → Nat → Nat → List V
 | 0,_,_=>[]
 | f+1,x,y=>if x<a.length∨y<c.length then (yN a c i k x y,yJ a c i k x y) :: jD a c i k f (if JY a c i k x y=true then x+1 else x) (if JL a c i k x y=true then y+1 else y) else []
def bX (a b:List V):List V:=if iY a b=0 then jD a (negL b) (fC a) (fC (negL b)) (a.length+(negL b).length) 0 0 else []
theorem M4 (a c:List V) (i k x y:Nat):yN a c i k (x+1) y=yN a c i k x y+mM a i x:=by unfold yN mM;rw [← Nat.add_assoc];omega
theorem M9 (a c:List V) (i k x y:Nat):yJ a c i k (x+1) y=yJ a c i k x y+nG a i x:=by unfold yJ nG;rw [← Nat.add_assoc];omega
theorem MB (a c:List V) (i k x y:Nat):yN a c i k x (y+1)=yN a c i k x y+mM c k y:=by unfold yN mM;rw [← Nat.add_assoc];omega
theorem MZ (a c:List V) (i k x y:Nat):yJ a c i k x (y+1)=yJ a c i k x y+nG c k y:=by unfold yJ nG;rw [← Nat.add_assoc];omega
theorem uS {a c:List V} (ha:aF 65536000 a=true) (hc:aF 65536000 c=true) (h1:0<a.length) (h2:0<c.length) (i k x y:Nat):(-131072000≤yN a c i k x y∧yN a c i k x y≤131072000)∧(-131072000≤yJ a c i k x y∧yJ a c i k x y≤131072000):=by
 have g1:=aA.1 (aD ha (Nat.mod_lt (i+x) h1));have g2:=aA.1 (aD hc (Nat.mod_lt (k+y) h2));unfold yN yJ;omega
def IK (m:List V) (i:Nat):Int:=qO (px m i) (py m i) (px m ((i+1) % m.length)) (py m ((i+1) % m.length))
def qQ (m:List V):Bool:=decide (∀ i,i<m.length→0≤IK m i)

def QS (x y:Int):Int:=x*x+y*y

def QW (x1 y1 x2 y2:Int):Int := -x1*(x2-x1)-y1*(y2-y1)
def farZ (x1 y1 x2 y2:Int):Int :=
 if QW x1 y1 x2 y2≤0 then jS (QS x1 y1) else if QS (x2-x1) (y2-y1)≤QW x1 y1 x2 y2 then jS (QS x2 y2)
 else jS (qO x1 y1 x2 y2*qO x1 y1 x2 y2 / QS (x2-x1) (y2-y1))


theorem uR {a c : List V} (ha : aF 65536000 a = true) (hc : aF 65536000 c = true) (h1 : 0 < a.length) (h2 : 0 < c.length) (i k : Nat) : ∀ f x y, aF 131072000 (jD a c i k f x y) = true
 | 0,_,_=>rfl
 | f+1,x,y=>by
  rw [jD]
  split
  ·have := uR ha hc h1 h2 i k f (if JY a c i k x y = true then x + 1 else x) (if JL a c i k x y = true then y + 1 else y)
   unfold aF at this ⊢
   rw [List.all_cons,this,Bool.and_true]
   have b:=uS ha hc h1 h2 i k x y
   exact aA.2 (by omega)
  ·rfl
theorem CX (a c : List V) (i k : Nat) : ∀ f x y, (jD a c i k f x y).length ≤ f
 | 0,_,_=>by simp [jD]
 | f+1,x,y=>by
  rw [jD]
  split
  ·have := CX a c i k f (if JY a c i k x y = true then x + 1 else x) (if JL a c i k x y = true then y + 1 else y)
   simp only [List.length_cons]
   omega
  ·simp
theorem LP (a b:List V):aF 131072000 (bX a b)=true∧(bX a b).length≤16:=by
 unfold bX
 split
 ·rename_i h;have h':aP a=0∧aP b=0:=by unfold iY at h;split at h <;> omega
  obtain ⟨a8,a3,aw,_⟩:=aU h'.1;obtain ⟨b8,b3,bw,_⟩:=aU h'.2;refine ⟨uR aw (nW bw) (by omega) (by rw [fD];omega) _ _ _ _ _,?_⟩;have:=CX a (negL b) (fC a) (fC (negL b)) (a.length+(negL b).length) 0 0;rw [fD] at this ⊢;omega
 ·exact ⟨rfl,by simp⟩
end
end Go.Proofs.YtokgmcomgflloaaGreat
