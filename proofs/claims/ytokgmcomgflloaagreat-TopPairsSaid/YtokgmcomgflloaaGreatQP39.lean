/- Parts of a proof: contracts and laws. -/
import Derived.Test.YtokgmcomgflloaaGreatQP38
import Derived.Test.YtokgmcomgflloaaGreatQP03
import Derived.Test.YtokgmcomgflloaaGreatQP07
import Derived.Test.YtokgmcomgflloaaGreatQP34
import Derived.Test.YtokgmcomgflloaaGreatQP20
import Derived.Test.YtokgmcomgflloaaGreatQP37
import Derived.Test.YtokgmcomgflloaaGreatQP23
import Derived.Test.YtokgmcomgflloaaGreatQP27
import Derived.Test.YtokgmcomgflloaaGreatQP02
import Derived.LaidEqlPtr
set_option maxRecDepth 100000
set_option maxHeartbeats 16000000
namespace Go.Proofs.YtokgmcomgflloaaGreat
section
set_option linter.unusedVariables false
set_option linter.unusedSimpArgs false
open Go.RowKit
variable {w0 w w':World}
theorem yg (A:Option Addr) (n c:Nat) (m:List V) (w:World) (hS:Sl w A n c m) (hw:aF 131072000 m=true) (h16:m.length≤1000) :
  Calls Tryz.prog 87 #[.slice A n c] w (dS (.bool (qQ m)) w):=by
 have hn:=hS.len;subst hn;have HS:=hid hS;have HW:=hid hw;clear hS hw
 go_enter Tryz.func87,Tryz.ntmps87
 go_wp2
 go_loopw [7] (fun j wr=>∃ k:Nat,k≤m.length∧j = .int .i64 k∧(∀ i,i<k→0≤IK m i)∧Below w.heap.size w wr) (fun j _=>m.length-(intOf j).toNat)
 case atStart=>exact ⟨0,Nat.zero_le _,rfl,fun i h=>absurd h (by omega),Below.refl _ _⟩
 case round =>
  obtain ⟨k,hk,rfl,hnn,hB⟩:=hrel;obtain ⟨wo,rfl⟩:∃ wo:World,wo=wr:=⟨_,rfl⟩
  by_cases hlt:k<m.length
  ·have hlt' : (k : Int) < (m.length : Int) := by omega
   obtain ⟨b,off,hA,hC⟩:=(HS.out.below hB).at_ (by intro h;rw [h] at hlt;simp at hlt);subst hA;obtain ⟨j,hje⟩:∃ j,j=(k+1) % m.length:=⟨_,rfl⟩;have hj:j<m.length:=by rw [hje];exact Nat.mod_lt _ (by omega)
   have hji:((k:Int)+1) % (m.length:Int)=(j:Int):=by rw [hje];simp
   have hji2:(((k:Int)+1) % (m.length:Int)).toNat=j:=by omega
   have hji3:((k:Int)+1) % (m.length:Int)<(m.length:Int):=by omega
   have hji4:0≤((k:Int)+1) % (m.length:Int):=by omega
   have hwk:IntKind.i64.wrap ((k:Int)+1)=(k:Int)+1:=IntWalk.i64_in _ (by omega);have htm:((k:Int)+1).tmod (m.length:Int)=(j:Int):=by rw [Int.tmod_eq_emod_of_nonneg (by omega)];exact hji
   have hl0:¬ m=[]:=by intro h;rw [h] at hlt;simp at hlt
   have hjl:(j:Int)<(m.length:Int):=by omega
   obtain ⟨a1,a2,a3,a4⟩:=aA.1 (aD HW.out hlt);obtain ⟨b1,b2,b3,b4⟩:=aA.1 (aD HW.out hj);have xk:=hC.x k hlt;have yk:=hC.y k hlt;have xj:=hC.x j hj;have yj:=hC.y j hj;have hbl:=hC.lt;have HIC:Hid (IK m k=qO (px m k) (py m k) (px m j) (py m j)):=by show _=_;unfold IK;rw [← hje]
   have HNN:=hid hnn;generalize px m k=x1 at *
   generalize py m k=y1 at *
   generalize px m j=x2 at *
   generalize py m j=y2 at *
   have HCR:=hid (iL x1 y1 x2 y2 (by omega) (by omega) (by omega) (by omega));obtain ⟨cz,hcz⟩:∃ z,z=qO x1 y1 x2 y2:=⟨_,rfl⟩;rw [← hcz] at HCR HIC;clear hnn hC hje hcz
   go_upto_region 4 with fail
   obtain ⟨g4,hg4⟩:∃ g,g=wo.heap.size:=⟨_,rfl⟩;obtain ⟨wz,hwz⟩:∃ wz,wz=wo.alloc (.cells #[.int .i64 x1,.int .i64 y1] 24):=⟨_,rfl⟩;have z0:wz.cell? ⟨g4,0,none⟩=some (.int .i64 x1):=by rw [hwz,hg4];go_simp
   have z1:wz.cell? ⟨g4,1,none⟩=some (.int .i64 y1):=by rw [hwz,hg4];go_simp
   replace xj:wz.cell? ⟨b,off+j*2,none⟩=some (.int .i64 x2):=by rw [hwz];exact keepCell Ba xj
   replace yj:wz.cell? ⟨b,off+j*2+1,none⟩=some (.int .i64 y2):=by rw [hwz];exact keepCell Ba yj
   have hBz:Below w.heap.size w wz:=by rw [hwz];exact hB.alloc hB.size _
   rw [← hwz,← hg4];clear hwz hg4 xk yk hB hbl;refine wp_region_noPanic ?_;refine au (S:=(S2 (fun w'=>w'.cell? ⟨g4,0,none⟩=some (.int .i64 x1)∧w'.cell? ⟨g4,1,none⟩=some (.int .i64 y1)∧w'.cell? ⟨b,off+j*2,none⟩=some (.int .i64 (x2))∧w'.cell? ⟨b,off+j*2+1,none⟩=some (.int .i64 (y2))∧Below w.heap.size w w'))) (T:=(fun _=>0)) (by kernel_rfl) (aK ⟨z0,z1,xj,yj,hBz.drew⟩) (fun hH=>?_);have hWr1:aG (S2 (fun w'=>w'.cell? ⟨g4,0,none⟩=some (.int .i64 x1)∧w'.cell? ⟨g4,1,none⟩=some (.int .i64 y1)∧w'.cell? ⟨b,off+j*2,none⟩=some (.int .i64 (x2))∧w'.cell? ⟨b,off+j*2+1,none⟩=some (.int .i64 (y2))∧Below w.heap.size w w')):=aI _;refine dG [(0,12),(1,13),(2,14),(3,15),(4,16),(5,17),(6,18),(7,19),(8,20)] 2 0 0 (L':=?Lr1_1) hWr1 hH ?hyr1_1 ?_
   case hyr1_1=>((iterate 9 apply dF;rfl;kernel_rfl;intro w' hSw;replace hSw:=aB hSw;(try dsimp only at hSw);have q0:=hSw.1;have q1:=hSw.2.1;have q2:=hSw.2.2.1;have q3:=hSw.2.2.2.1;have q4:=hSw.2.2.2.2;(try simp only [sB,sC]);go_simp;(try with_reducible rfl));exact dD)
   simp only [sB,sC];refine U1 9 0 rfl (fun K hK=>?_)
   try clear hb
   go_simp
   (go_at_call 149;refine (HCR.out _).mono ?_;rintro e wn ⟨rfl,hb⟩)
   refine hK.out _ _ ?hsr1_10 (fun hH2=>?hrr1_10)
   case hsr1_10=>exact aK (by have hG:=hH;replace hG:=aB hG;(try dsimp only at hG);have q0:=hG.1;have q1:=hG.2.1;have q2:=hG.2.2.1;have q3:=hG.2.2.2.1;have q4:=hG.2.2.2.2;exact ⟨keepCell hb q0,keepCell hb q1,keepCell hb q2,keepCell hb q3,aj hb q4⟩)
   clear hK K hH;have hH:=hH2;clear hH2
   try simp only [Act.put,sA,sB,sC]
   refine Ut 10 22 0 0 0 (v:=?vr1_11) rfl hWr1 hH ?hyr1_11 ?_
   case hyr1_11=>(intro w' hSw;clear hSw;go_simp;try (with_reducible rfl))
   simp only [sB,sC];refine ak (by kernel_rfl) ?_ _ _;refine NoPanic.normal ?_;clear hWr1;replace hH:=aB hH
   (try dsimp only at hH)
   have q0:=hH.1;have q1:=hH.2.1;have q2:=hH.2.2.1;have q3:=hH.2.2.2.1;have q4:=hH.2.2.2.2;clear hH hb q0 q1 q2 q3 HCR z0 z1 xj yj hBz
   by_cases hneg:cz<0
   ·have HR:Hid (qQ m=false):=by
     show _=_;unfold qQ;rw [decide_eq_false_iff_not];intro h;have:=h k hlt;rw [HIC.out] at this;omega
    go_wp2
    go_returns
    exact bg HR.out.symm q4
   ·have HN2:Hid (∀ i,i<k+1→0≤IK m i):=fun i h=>by
     rcases Nat.lt_or_ge i k with g | g
     ·exact HNN.out i g
     ·have : i = k := by omega
      rw [this,HIC.out];omega
    clear HNN HIC;go_wp2;go_roundw
    case rel=>exact ⟨k+1,hlt,by go_num,HN2.out,q4⟩
    case measure=>simp [intOf];omega
  ·have hke : k = m.length := by omega
   have HR:Hid (qQ m=true):=by show _=_;unfold qQ;rw [decide_eq_true_iff,← hke];exact hnn
   clear hnn;go_wp2
   go_returns
   exact bg HR.out.symm hB
structure VI (w : World) (g : Nat) : Prop where
 c:∃ a,w.cell? ⟨g,0,none⟩=some (.int .i64 a)
 free:∀ j,w.frozen? ⟨g,j,none⟩=false
theorem VI.here (w:World) (a:Int) (t:TypeId):VI (w.alloc (.cells #[.int .i64 a] t)) w.heap.size:=⟨⟨a,by go_simp⟩,fun j=>by go_simp⟩
theorem VI.drew {g:Nat} (h:VI w g):VI w.drew g:=⟨h.c,h.free⟩
def sN (a b:List V):Bool:=decide (iY a b=0) && qQ (bX a b)
theorem DU (A B:Option Addr) (n c n' c':Nat) (a b:List V) (w:World) (hS:Sl w A n c a) (hM:Sl w B n' c' b) :
  Calls Tryz.prog 34 #[.slice A n c,.slice B n' c'] w (dS (.tuple #[.bool (sN a b),.int .i64 (iY a b)]) w):=by
 have HMN:=hid (Ae A B n c n' c' a b w hS hM);obtain ⟨mw,ml⟩:=LP a b;have HAZ:Hid (sN a b=(decide (iY a b=0) && qQ (bX a b))):=rfl;obtain ⟨m,hm⟩:∃ m,m=bX a b:=⟨_,rfl⟩;obtain ⟨E,hE⟩:∃ E,E=iY a b:=⟨_,rfl⟩;obtain ⟨Z,hZ⟩:∃ Z,Z=sN a b:=⟨_,rfl⟩;rw [← hm,← hE] at HMN HAZ;rw [← hm] at mw ml;rw [← hZ] at HAZ;rw [← hZ,← hE];have HMW:=hid mw;clear hm hE hZ hS hM mw
 go_enter Tryz.func34,Tryz.ntmps34
 go_wp2_with fail
 refine HMN.out.mono ?_;rintro e w1 ⟨Am,nm,cm,rfl,s1,f1,hb1⟩;have hnm:=s1.len;subst hnm;have HS1:=hid s1;clear s1 f1 HMN
 by_cases hE0:E=0
 ·have HZ : Hid (Z = qQ m) := by show _ = _; rw [HAZ.out, hE0]; simp
  subst hE0;have HIN:=hid (yg Am m.length cm m w1 HS1.out HMW.out (by omega));clear HAZ
  go_wp2_with fail
  refine HIN.out.mono ?_;rintro e w2 ⟨rfl,hb2⟩;have hB2:=aj hb2 hb1;clear HS1 hb1 hb2 HIN;go_wp2;refine bodyPost_ret (v:=.tuple #[.bool (qQ m),.int .i64 0]) (by simp [results,Tryz.results34,go_sem]) rfl ⟨by rw [HZ.out],hB2⟩
 ·have HZ : Hid (Z = false) := by show _ = _; rw [HAZ.out]; simp [hE0]
  have hne:(E != 0)=true:=by simp [hE0]
  clear HAZ hE0;go_wp2;refine bodyPost_ret (v:=.tuple #[.bool false,.int .i64 E]) (by simp [results,Tryz.results34,go_sem]) rfl ⟨by rw [HZ.out],hb1⟩
def qH (a:List V):Bx:=((vv (r9 a),vv (sJ a)),(uW (r9 a),uW (sJ a)))
theorem jr {a:List V} {j:Nat} (h:j<a.length):(qH a).1.1≤px a j∧px a j≤(qH a).2.1∧(qH a).1.2≤py a j∧py a j≤(qH a).2.2:=by
 have h1:j<(r9 a).length:=by rw [AZ];exact h
 have h2:j<(sJ a).length:=by rw [Ic];exact h
 have e1:=Ik h1;have e2:=Hf h1;have e3:=Ik h2;have e4:=Hf h2;have ex:(r9 a).getD j 0=px a j:=by simp [r9,px,h]
 have ey:(sJ a).getD j 0=py a j:=by simp [sJ,py,h]
 rw [ex] at e1 e2;rw [ey] at e3 e4;exact ⟨e1,e2,e3,e4⟩
theorem Oh {a:List V} (h:0<a.length):fJ (qH a)=true:=by
 have:=jr h;unfold fJ;exact decide_eq_true ⟨by omega,by omega⟩
theorem NA {a b:List V} (ha:aP a=0) (hb:aP b=0) (hm:sN a b=true):dY (qH a) (qH b)=true:=by
 have hn:qQ (bX a b)=true:=by
  unfold sN at hm;exact (Bool.and_eq_true _ _ ▸ hm).2
 have hD:=Jc ha hb;have la:0<a.length:=by have:=(aU ha).2.1;omega
 have lb:0<b.length:=by have:=(aU hb).2.1;omega
 have v1:=jr la;have v2:=jr lb;have no:∀ e:V,¬ Sep a b e:=fun e hs=>by rw [Ou hD hs] at hn;cases hn
 rw [jT]
 have s1:(qH a).1.1≤(qH b).2.1:=Int.not_lt.1 fun h=>no (0,-1) fun j k hj hk=>by
  have h1:=jr hj;have h2:=jr hk;show 0<(0:Int)*(mU a b j k).2-(-1)*(mU a b j k).1;unfold mU;dsimp only;omega
 have s2:(qH b).1.1≤(qH a).2.1:=Int.not_lt.1 fun h=>no (0,1) fun j k hj hk=>by
  have h1:=jr hj;have h2:=jr hk;show 0<(0:Int)*(mU a b j k).2-1*(mU a b j k).1;unfold mU;dsimp only;omega
 have s3:(qH a).1.2≤(qH b).2.2:=Int.not_lt.1 fun h=>no (1,0) fun j k hj hk=>by
  have h1:=jr hj;have h2:=jr hk;show 0<1*(mU a b j k).2-(0:Int)*(mU a b j k).1;unfold mU;dsimp only;omega
 have s4:(qH b).1.2≤(qH a).2.2:=Int.not_lt.1 fun h=>no (-1,0) fun j k hj hk=>by
  have h1:=jr hj;have h2:=jr hk;show 0<(-1)*(mU a b j k).2-(0:Int)*(mU a b j k).1;unfold mU;dsimp only;omega
 exact ⟨⟨by omega,by omega⟩,⟨by omega,by omega⟩,s1,s2,s3,s4⟩
def QY (i:Prop) (w:World) (e:Ending) (w':World):Prop:=∃ z:Int,e = .returned (.int .i64 z)∧(0≤z↔i)∧Below w.heap.size w w'
theorem KJ {l:List (Nat × Nat)} {p:Nat × Nat} (h:∀ j (hj:j<l.length),j<l.length→l[j]≠p):¬ p ∈ l:=fun hm=>by
 obtain ⟨j,hj,e⟩:=List.getElem_of_mem hm;exact h j hj hj e
theorem Bn (A:Option Addr) (n c:Nat) (l:List (Nat × Nat)) (p:Nat × Nat) (w:World) (hS:dN aJ w A n c l):Calls Tryz.prog 91 #[.slice A n c,.agg #[.int .i64 (p.1:Nat),.int .i64 (p.2:Nat)]] w (QY (p ∈ l) w):=by
 have hn:=hS.len;subst hn;have HS:=hid hS;have hbig:=Nat.le_trans hS.cap hS.big;clear hS;obtain ⟨x1,hx1⟩:∃ z:Int,z=(p.1:Nat):=⟨_,rfl⟩;obtain ⟨x2,hx2⟩:∃ z:Int,z=(p.2:Nat):=⟨_,rfl⟩;rw [← hx1,← hx2];have HX:=hid (And.intro hx1 hx2);clear hx1 hx2;obtain ⟨gx,hgx⟩:∃ g,g=w.heap.size:=⟨_,rfl⟩;obtain ⟨W,hW⟩:∃ W,W=w.alloc (.cells #[.int .i64 x1,.int .i64 x2] 72):=⟨_,rfl⟩;have c0:W.cell? ⟨gx,0,none⟩=some (.int .i64 x1):=by rw [hW,hgx];go_simp
 have c1:W.cell? ⟨gx,1,none⟩=some (.int .i64 x2):=by rw [hW,hgx];go_simp
 have hB0:Below w.heap.size w W:=by rw [hW];go_grown
 go_enter Tryz.func91,Tryz.ntmps91
 go_wp2_with fail
 rw [← hW,← hgx];clear hW hgx
 go_loopw [8] (fun i wr=>∃ k:Nat,k≤l.length∧i = .int .i64 k∧Hid (∀ j (hj:j<l.length),j<k→l[j]≠p)∧wr.cell? ⟨gx,0,none⟩=some (.int .i64 x1)∧wr.cell? ⟨gx,1,none⟩=some (.int .i64 x2)∧Below w.heap.size w wr) (fun i _=>l.length-(intOf i).toNat)
 case atStart=>exact ⟨0,Nat.zero_le _,rfl,hid (fun j _ h=>by omega),c0,c1,hB0⟩
 case round =>
  clear c0 c1 hB0;obtain ⟨k,hk,rfl,HN,k0,k1,hB⟩:=hrel;obtain ⟨wo,rfl⟩:∃ wo:World,wo=wr:=⟨_,rfl⟩
  by_cases hlt:k<l.length
  ·obtain ⟨b, off, hA, hC⟩ := (HS.out.below hB).at_ (by intro h; rw [h] at hlt; simp at hlt);subst hA;obtain ⟨hx,hy⟩:=hC.pair hlt;have hlb:=hC.lt;have hlt':(k:Int)<(l.length:Int):=by omega
   have hkw:IntKind.i64.wrap ((k:Int)+1)=(k:Int)+1:=IntWalk.i64_in _ (by omega);obtain ⟨q,hq⟩:∃ q,q=l[k]:=⟨_,rfl⟩;rw [← hq] at hx hy;obtain ⟨y1,hy1⟩:∃ z:Int,z=(q.1:Nat):=⟨_,rfl⟩;obtain ⟨y2,hy2⟩:∃ z:Int,z=(q.2:Nat):=⟨_,rfl⟩;rw [← hy1] at hx;rw [← hy2] at hy;obtain ⟨e1,he1⟩:∃ e:Bool,e=(x1 == y1 && x2 == y2):=⟨_,rfl⟩;have HQ:=H9 x1 x2 y1 y2;rw [← he1] at HQ
   have HE:Hid (e1=true↔l[k]=p):=hid (by
    obtain ⟨h1,h2⟩:=HX.out;rw [he1,← hq];simp only [Bool.and_eq_true,beq_iff_eq]
    exact ⟨fun ⟨a,b⟩=>by ext <;> omega,fun h=>by rw [h] at hy1 hy2;omega⟩)
   clear hC hq hy1 hy2 he1 hlb;have lg:=lt_of_cell k0;have lb:=lt_of_cell hx
   go_upto_region 4 with fail
   refine wp_region_noPanic ?_;refine au (S:=(S2 (fun w'=>w'.cell? ⟨gx,0,none⟩=some (.int .i64 x1)∧w'.cell? ⟨gx,1,none⟩=some (.int .i64 x2)∧w'.cell? ⟨b,off+k*2,none⟩=some (.int .i64 y1)∧w'.cell? ⟨b,off+k*2+1,none⟩=some (.int .i64 y2)∧Bq w w'))) (T:=(fun _=>0)) (by kernel_rfl) (aK ⟨k0,k1,hx,hy,⟨hB.drew⟩⟩) (fun hH=>?_);have hWr1:aG (S2 (fun w'=>w'.cell? ⟨gx,0,none⟩=some (.int .i64 x1)∧w'.cell? ⟨gx,1,none⟩=some (.int .i64 x2)∧w'.cell? ⟨b,off+k*2,none⟩=some (.int .i64 y1)∧w'.cell? ⟨b,off+k*2+1,none⟩=some (.int .i64 y2)∧Bq w w')):=aI _;refine dG [(0,11),(1,12),(2,13),(3,14),(4,15),(5,16)] 0 0 0 (L':=?Lr1_1) hWr1 hH ?yr1_1 ?_
   case yr1_1=>((iterate 6 apply dF;rfl;kernel_rfl;intro w' hSw;replace hSw:=aB hSw;(try dsimp only at hSw);have q0:=hSw.1;have q1:=hSw.2.1;have q2:=hSw.2.2.1;have q3:=hSw.2.2.2.1;have q4:=hSw.2.2.2.2;(try simp only [sB,sC]);go_simp;(try with_reducible rfl));exact dD)
   simp only [sB,sC];refine ak (by kernel_rfl) ?_ _ _;refine NoPanic.normal ?_;replace hH:=aB hH
   (try dsimp only at hH)
   have q0:=hH.1;have q1:=hH.2.1;have q2:=hH.2.2.1;have q3:=hH.2.2.2.1;have q4:=hH.2.2.2.2;have HB:=hid q4.b;clear q0 q1 q2 q3 q4 hH
   cases e1 with
   | true =>
    have HM:Hid ((0:Int)≤k↔p ∈ l):=hid ⟨fun _=>by rw [← HE.out.1 rfl];exact List.getElem_mem _,fun _=>by omega⟩;clear HE HN HQ;go_wp2
    go_returns
    exact ⟨_,rfl,HM.out,HB.out⟩
   | false =>
    have HN1:Hid (∀ j (hj:j<l.length),j<k+1→l[j]≠p):=hid (fun j hj h=>by
     rcases Nat.lt_or_ge j k with g | g
     ·exact HN.out j hj g
     ·obtain rfl : j = k := by omega
      intro e
      exact absurd (HE.out.2 e) (by simp))
    clear HE HN HQ;have hB:=HB.out;go_wp2;go_roundw
    case rel=>exact ⟨k+1,hlt,by go_num,HN1,k0,k1,hB⟩
    case measure=>simp [intOf];omega
  ·have HM : Hid ((0 : Int) ≤ -1 ↔ p ∈ l) := hid ⟨fun h => by omega, fun h => absurd h (KJ (fun j hj h => HN.out j hj (by omega)))⟩;clear HN;go_wp2
   go_returns
   exact ⟨_,rfl,HM.out,hB⟩
theorem tZ (A:Option Addr) (n c:Nat) (l:List (Nat × Nat)) (p:Nat × Nat) (w:World) (hS:dN aJ w A n c l):Calls Tryz.prog 36 #[.slice A n c,.agg #[.int .i64 (p.1:Nat),.int .i64 (p.2:Nat)]] w (dS (.bool (decide (p ∈ l))) w):=by
 have HS:=hid hS;clear hS
 go_enter Tryz.func36,Tryz.ntmps36
 go_wp2_with fail
 refine (Bn A n c l p _ (HS.out.alloc _)).mono ?_;rintro e w1 ⟨z,rfl,hz,hb⟩;have HZ:=hid hz;have HB:=hid (aj hb Ba);clear hz hb;go_wp2
 go_returns
 exact bg (by rw [decide_eq_decide];exact HZ.out) HB.out
structure NR where
 bx:Bx
 id:Int
 ht:Int
 up:Option Addr
 k0:Option Addr
 k1:Option Addr

structure j6 (w : World) (b : Nat) (r : NR) : Prop where
 c0:w.cell? ⟨b,0,none⟩=some (.int .i64 r.bx.1.1)
 c1:w.cell? ⟨b,1,none⟩=some (.int .i64 r.bx.1.2)
 c2:w.cell? ⟨b,2,none⟩=some (.int .i64 r.bx.2.1)
 c3:w.cell? ⟨b,3,none⟩=some (.int .i64 r.bx.2.2)
 c4:w.cell? ⟨b,4,none⟩=some (.int .i64 r.id)
 c5:w.cell? ⟨b,5,none⟩=some (.int .i64 r.ht)
 c6:w.cell? ⟨b,6,none⟩=some (.pointer r.up)
 c7:w.cell? ⟨b,7,none⟩=some (.pointer r.k0)
 c8:w.cell? ⟨b,8,none⟩=some (.pointer r.k1)
 free:∀ j,w.frozen? ⟨b,j,none⟩=false
 obj:∃ ca ta,w.heap[b]? = some (.cells ca ta (0,0))
theorem j6.cells {b:Nat} {x y u v id ht:Int} {up k0 k1:Option Addr} (h:j6 w b ⟨((x,y),(u,v)),id,ht,up,k0,k1⟩):w.cell? ⟨b,0,none⟩=some (.int .i64 x)∧w.cell? ⟨b,1,none⟩=some (.int .i64 y)∧w.cell? ⟨b,2,none⟩=some (.int .i64 u)∧w.cell? ⟨b,3,none⟩=some (.int .i64 v)∧w.cell? ⟨b,4,none⟩=some (.int .i64 id)∧w.cell? ⟨b,5,none⟩=some (.int .i64 ht)∧w.cell? ⟨b,6,none⟩=some (.pointer up)∧w.cell? ⟨b,7,none⟩=some (.pointer k0)∧w.cell? ⟨b,8,none⟩=some (.pointer k1):=⟨h.c0,h.c1,h.c2,h.c3,h.c4,h.c5,h.c6,h.c7,h.c8⟩
theorem j6.lt {b:Nat} {r:NR} (h:j6 w b r):b<w.heap.size:=lt_of_cell h.c0
theorem j6.same {b:Nat} {r:NR} (h:j6 w b r) (e:w'.heap[b]? = w.heap[b]?):j6 w' b r :=
 ⟨(World.cell?_of_block e).trans h.c0,(World.cell?_of_block e).trans h.c1,(World.cell?_of_block e).trans h.c2,(World.cell?_of_block e).trans h.c3,(World.cell?_of_block e).trans h.c4,(World.cell?_of_block e).trans h.c5,(World.cell?_of_block e).trans h.c6,(World.cell?_of_block e).trans h.c7,(World.cell?_of_block e).trans h.c8,fun j=>(World.frozen?_of_block e).trans (h.free j),by obtain ⟨ca,ta,q⟩:=h.obj;exact ⟨ca,ta,e.trans q⟩⟩
theorem BS {b:Nat} {r:NR} (k:Below w.heap.size w w') (h:j6 w b r):j6 w' b r:=h.same (k.block b h.lt)

def setBx (w:World) (b:Nat) (x y u v:Int):World:=(((w.setCell ⟨b,0,none⟩ (.int .i64 x)).setCell ⟨b,1,none⟩ (.int .i64 y)).setCell ⟨b,2,none⟩ (.int .i64 u)).setCell ⟨b,3,none⟩ (.int .i64 v)
theorem lC {b:Nat} (h:∃ ca ta,w.heap[b]? = some (.cells ca ta (0,0))) (p:Addr) (v:Value):∃ ca ta,(w.setCell p v).heap[b]? = some (.cells ca ta (0,0)):=by
 obtain ⟨ca,ta,e⟩:=h
 by_cases q:b=p.block
 ·subst q;exact ⟨if p.spot.isSome then ca else ca.setIfInBounds p.off v,ta,by simp [World.setCell,Array.getElem?_modify,e]⟩
 ·exact ⟨ca,ta,(Below.heap_setCell w p v b q).trans e⟩
theorem j6.setBx {b:Nat} {bx:Bx} {id ht:Int} {up k0 k1:Option Addr} (h:j6 w b ⟨bx,id,ht,up,k0,k1⟩) (x y u v:Int):j6 (setBx w b x y u v) b ⟨((x,y),(u,v)),id,ht,up,k0,k1⟩:=by
 obtain ⟨c0,c1,c2,c3,c4,c5,c6,c7,c8,hf,hob⟩:=h;unfold Go.Proofs.YtokgmcomgflloaaGreat.setBx;refine ⟨?_,?_,?_,?_,?_,?_,?_,?_,?_,cK (cK (cK (cK hf _ _) _ _) _ _) _ _,lC (lC (lC (lC hob _ _) _ _) _ _) _ _⟩
 ·exact aC (aC (aC (dZ c0) (by omega)) (by omega)) (by omega)
 ·exact aC (aC (dZ (aC c1 (by omega))) (by omega)) (by omega)
 ·exact aC (dZ (aC (aC c2 (by omega)) (by omega))) (by omega)
 ·exact dZ (aC (aC (aC c3 (by omega)) (by omega)) (by omega))
 ·exact aC (aC (aC (aC c4 (by omega)) (by omega)) (by omega)) (by omega)
 ·exact aC (aC (aC (aC c5 (by omega)) (by omega)) (by omega)) (by omega)
 ·exact aC (aC (aC (aC c6 (by omega)) (by omega)) (by omega)) (by omega)
 ·exact aC (aC (aC (aC c7 (by omega)) (by omega)) (by omega)) (by omega)
 ·exact aC (aC (aC (aC c8 (by omega)) (by omega)) (by omega)) (by omega)
theorem j6.setHt {b:Nat} {bx:Bx} {id ht:Int} {up k0 k1:Option Addr} (h:j6 w b ⟨bx,id,ht,up,k0,k1⟩) (z:Int):j6 (w.setCell ⟨b,5,none⟩ (.int .i64 z)) b ⟨bx,id,z,up,k0,k1⟩:=by
 obtain ⟨c0,c1,c2,c3,c4,c5,c6,c7,c8,hf,hob⟩:=h;exact ⟨aC c0 (by omega),aC c1 (by omega),aC c2 (by omega),aC c3 (by omega),aC c4 (by omega),dZ c5,aC c6 (by omega),aC c7 (by omega),aC c8 (by omega),cK hf _ _,lC hob _ _⟩
theorem j6.setUp {b:Nat} {bx:Bx} {id ht:Int} {up k0 k1:Option Addr} (h:j6 w b ⟨bx,id,ht,up,k0,k1⟩) (z:Option Addr):j6 (w.setCell ⟨b,6,none⟩ (.pointer z)) b ⟨bx,id,ht,z,k0,k1⟩:=by
 obtain ⟨c0,c1,c2,c3,c4,c5,c6,c7,c8,hf,hob⟩:=h;exact ⟨aC c0 (by omega),aC c1 (by omega),aC c2 (by omega),aC c3 (by omega),aC c4 (by omega),aC c5 (by omega),dZ c6,aC c7 (by omega),aC c8 (by omega),cK hf _ _,lC hob _ _⟩
theorem j6.setK0 {b:Nat} {bx:Bx} {id ht:Int} {up k0 k1:Option Addr} (h:j6 w b ⟨bx,id,ht,up,k0,k1⟩) (z:Option Addr):j6 (w.setCell ⟨b,7,none⟩ (.pointer z)) b ⟨bx,id,ht,up,z,k1⟩:=by
 obtain ⟨c0,c1,c2,c3,c4,c5,c6,c7,c8,hf,hob⟩:=h;exact ⟨aC c0 (by omega),aC c1 (by omega),aC c2 (by omega),aC c3 (by omega),aC c4 (by omega),aC c5 (by omega),aC c6 (by omega),dZ c7,aC c8 (by omega),cK hf _ _,lC hob _ _⟩
theorem j6.setK1 {b:Nat} {bx:Bx} {id ht:Int} {up k0 k1:Option Addr} (h:j6 w b ⟨bx,id,ht,up,k0,k1⟩) (z:Option Addr):j6 (w.setCell ⟨b,8,none⟩ (.pointer z)) b ⟨bx,id,ht,up,k0,z⟩:=by
 obtain ⟨c0,c1,c2,c3,c4,c5,c6,c7,c8,hf,hob⟩:=h;exact ⟨aC c0 (by omega),aC c1 (by omega),aC c2 (by omega),aC c3 (by omega),aC c4 (by omega),aC c5 (by omega),aC c6 (by omega),aC c7 (by omega),dZ c8,cK hf _ _,lC hob _ _⟩
theorem zL:(Tryz.prog.info? 117).map (fun i=>i.size)=some 9:=by kernel_rfl
theorem EH {a b:Nat} {ra rb:NR} (ha:j6 w a ra) (hb:j6 w b rb) (h:a≠b):(binOp .eql 109 (.pointer (some ⟨a,0,none⟩)) (.pointer (some ⟨b,0,none⟩))).run Tryz.prog w = .ok (.bool false) w:=by
 obtain ⟨ca,ta,ea⟩:=ha.obj;obtain ⟨cb,tb,eb⟩:=hb.obj;obtain ⟨i0,hi,hz1⟩:=Option.map_eq_some_iff.1 zL;exact run_eql_ptr_other w Tryz.underlying109 hi (by rw [hz1];decide) (fun e=>h (by injection e)) ea eb
theorem Dx (a:Nat) (w:World):(binOp .eql 109 (.pointer (some ⟨a,0,none⟩)) (.pointer (some ⟨a,0,none⟩))).run Tryz.prog w = .ok (.bool true) w:=by
 obtain ⟨i0,hi,hz1⟩:=Option.map_eq_some_iff.1 zL;exact run_eql_ptr_same w ⟨a,0,none⟩ Tryz.underlying109 hi

structure TS where
 root:Option Addr
 nd:Nat→Option NR
 lv:Nat→Option Addr
 cnt:Int
def TS.set (s:TS) (b:Nat) (r:NR):TS:={ s with nd:=fun k=>if k=b then some r else s.nd k }
theorem TS.set_eq (s:TS) (b:Nat) (r:NR):(s.set b r).nd b=some r:=by simp [TS.set]
theorem TS.set_ne (s:TS) {b k:Nat} (r:NR) (h:k≠b):(s.set b r).nd k=s.nd k:=by simp [TS.set,h]

def TS.In (s:TS) (g k:Nat):Prop:=k=g∨s.nd k≠none

structure Mem (w : World) (g : Nat) (s : TS) : Prop where
 root:w.cell? ⟨g,0,none⟩=some (.pointer s.root)
 lv:∀ i,i<256→w.cell? ⟨g,1+i,none⟩=some (.pointer (s.lv i))
 cnt:w.cell? ⟨g,257,none⟩=some (.int .i64 s.cnt)
 free:∀ j,w.frozen? ⟨g,j,none⟩=false
 nd:∀ b r,s.nd b=some r→j6 w b r
 ne:s.nd g=none
theorem Mem.lt {g:Nat} {s:TS} (h:Mem w g s):g<w.heap.size:=lt_of_cell h.root
theorem Mem.out {g:Nat} {s:TS} {D:Nat→Prop} (h:Mem w g s) (k:Out D w w') (hd:∀ i,s.In g i→¬ D i):Mem w' g s:=by
 have hg:=hd g (.inl rfl);have e:=k.block g h.lt hg;exact ⟨(World.cell?_of_block e).trans h.root,fun i hi=>(World.cell?_of_block e).trans (h.lv i hi),(World.cell?_of_block e).trans h.cnt,fun j=>(World.frozen?_of_block e).trans (h.free j),fun b r hr=>(h.nd b r hr).same (k.block b (h.nd b r hr).lt (hd b (.inr (by rw [hr];simp)))),h.ne⟩
theorem Mem.below {g:Nat} {s:TS} (h:Mem w g s) (k:Below w.heap.size w w'):Mem w' g s:=h.out (Out.below (D:=fun _=>False) k) (fun _ _ q=>q)

theorem Mem.set {g:Nat} {s:TS} (h:Mem w g s) {b:Nat} {r:NR} (hn:j6 w' b r) (hbg:b≠g) (k:Out (fun i=>i=b) w w'):Mem w' g (s.set b r):=by
 have e:=k.block g h.lt (fun q=>hbg q.symm);refine ⟨(World.cell?_of_block e).trans h.root,fun i hi=>(World.cell?_of_block e).trans (h.lv i hi),(World.cell?_of_block e).trans h.cnt,fun j=>(World.frozen?_of_block e).trans (h.free j),fun c x hx=>?_,?_⟩
 ·by_cases q : c = b
  ·subst q;rw [TS.set_eq] at hx
   cases hx;exact hn
  ·rw [TS.set_ne _ _ q] at hx;exact (h.nd c x hx).same (k.block c (h.nd c x hx).lt q)
 ·rw [TS.set_ne _ _ (fun q=>hbg q.symm)];exact h.ne

def JC (g:Nat) (s s':TS) (v:Value) (w:World) (e:Ending) (w':World):Prop:=e = .returned v∧Mem w' g s'∧Out (s.In g) w w'
theorem RB {w w1:World} {b:Nat} (k:Below w.heap.size w w1) (x y u v:Int):Out (fun i=>i=b) w (setBx w1 b x y u v):=by
 unfold setBx;exact ((((Out.below (D:=fun i=>i=b) k).setCell (p:=⟨b,0,none⟩) (.inr rfl) _).setCell (p:=⟨b,1,none⟩) (.inr rfl) _).setCell (p:=⟨b,2,none⟩) (.inr rfl) _).setCell (p:=⟨b,3,none⟩) (.inr rfl) _
def Qd (n:Nat) (r:NR) (w:World) (e:Ending) (w':World):Prop:=e = .returned (.tuple #[])∧j6 w' n r∧Out (fun i=>i=n) w w'
theorem Fe (n a c : Nat) (x1 x2 x3 x4 id ht p1 p2 p3 p4 ida ha q1 q2 q3 q4 idc hc j1 j2 j3 j4 : Int) (up upa k0a k1a upc k0c k1c : Option Addr) (hj : fF ((p1, p2), (p3, p4)) ((q1, q2), (q3, q4)) = ((j1, j2), (j3, j4)))
  (h1:0≤ha∧ha≤1000000) (h2:0≤hc∧hc≤1000000) (w:World) (hN:j6 w n ⟨((x1,x2),(x3,x4)),id,ht,up,some ⟨a,0,none⟩,some ⟨c,0,none⟩⟩) (hA:j6 w a ⟨((p1,p2),(p3,p4)),ida,ha,upa,k0a,k1a⟩) (hC:j6 w c ⟨((q1,q2),(q3,q4)),idc,hc,upc,k0c,k1c⟩):Calls Tryz.prog 135 #[.pointer (some ⟨n,0,none⟩)] w (Qd n ⟨((j1,j2),(j3,j4)),id,1+max ha hc,up,some ⟨a,0,none⟩,some ⟨c,0,none⟩⟩ w):=by
 have HJ:Hid (∀ w,Calls Tryz.prog 120 #[pJ ((p1,p2),(p3,p4)),pJ ((q1,q2),(q3,q4))] w (dS (pJ ((j1,j2),(j3,j4))) w)):=fun w=>by have:=om p1 p2 p3 p4 q1 q2 q3 q4 w;rwa [hj] at this
 obtain ⟨M,hM⟩:∃ M,M=max ha hc:=⟨_,rfl⟩
 have hmx:∀ (ts:Array TypeId) (t:TypeId) (w:World),(Builtin.max_ ts t #[.int .i64 ha,.int .i64 hc]).run Tryz.prog w = .ok (.int .i64 M) w:=fun ts t w=>by
  rw [run_max_int2,hM]
  congr 2
  omega
 have hMw:IntKind.i64.wrap (1+M)=1+M:=IntWalk.i64_in _ (by omega);rw [← hM];clear hj hM h1 h2;have hnl:=hN.lt
 go_enter Tryz.func135,Tryz.ntmps135
 go_upto_region 0 with fail
 refine wp_region_noPanic ?_;refine au (S:=(S2 (fun w'=>j6 w' n ⟨((x1,x2),(x3,x4)),id,ht,up,some ⟨a,0,none⟩,some ⟨c,0,none⟩⟩))) (T:=(fun _=>0)) (by kernel_rfl) (aK (BS (Below.refl _ _).drew hN)) (fun hH=>?_);have hWr1:aG (S2 (fun w'=>j6 w' n ⟨((x1,x2),(x3,x4)),id,ht,up,some ⟨a,0,none⟩,some ⟨c,0,none⟩⟩)):=aI _;refine dG [(0,4),(1,5),(2,6),(3,7),(4,8),(5,9),(6,10),(7,11),(8,12),(9,13),(10,2),(11,3)] 0 0 0 (L':=?Lr1_1) hWr1 hH ?yr1_1 ?_
 case yr1_1=>((iterate 12 apply dF;rfl;kernel_rfl;intro w' hSw;replace hSw:=aB hSw;(try dsimp only at hSw);have q0:=hSw;obtain ⟨n0_0,n0_1,n0_2,n0_3,n0_4,n0_5,n0_6,n0_7,n0_8⟩:=j6.cells q0;(try simp only [sB,sC]);go_simp;(try with_reducible rfl));exact dD)
 simp only [sB,sC];refine ak (by kernel_rfl) ?_ _ _;refine NoPanic.normal ?_;clear hWr1 hH
 go_upto_region 1 with fail
 refine wp_region_noPanic ?_;refine au (S:=(S2 (fun w'=>j6 w' n ⟨((x1,x2),(x3,x4)),id,ht,up,some ⟨a,0,none⟩,some ⟨c,0,none⟩⟩∧j6 w' a ⟨((p1,p2),(p3,p4)),ida,ha,upa,k0a,k1a⟩∧j6 w' c ⟨((q1,q2),(q3,q4)),idc,hc,upc,k0c,k1c⟩∧Below w.heap.size w w'))) (T:=(fun j=>[0,0,0,0,0,0,0,0,0,0,0,0,0,0,0,0,0,0,0,0,0,0,0,1].getD j 0)) (by kernel_rfl) (aK ⟨hN.same rfl,hA.same rfl,hC.same rfl,(Below.refl _ _).drew.drew⟩) (fun hH=>?_);have hWr2:aG (S2 (fun w'=>j6 w' n ⟨((x1,x2),(x3,x4)),id,ht,up,some ⟨a,0,none⟩,some ⟨c,0,none⟩⟩∧j6 w' a ⟨((p1,p2),(p3,p4)),ida,ha,upa,k0a,k1a⟩∧j6 w' c ⟨((q1,q2),(q3,q4)),idc,hc,upc,k0c,k1c⟩∧Below w.heap.size w w')):=aI _;refine dG [(0,14),(2,16),(3,17),(4,18),(5,19),(6,20),(7,21),(8,22),(9,23),(11,25),(12,26),(13,27),(14,28),(15,29),(16,30),(17,31),(18,32)] 10 0 0 (L':=?Lr2_1) hWr2 hH ?yr2_1 ?_
 case yr2_1=>((iterate 17 apply dF;rfl;kernel_rfl;intro w' hSw;replace hSw:=aB hSw;(try dsimp only at hSw);have q0:=hSw.1;have q1:=hSw.2.1;have q2:=hSw.2.2.1;have q3:=hSw.2.2.2;obtain ⟨n0_0,n0_1,n0_2,n0_3,n0_4,n0_5,n0_6,n0_7,n0_8⟩:=j6.cells q0;obtain ⟨m1_0,m1_1,m1_2,m1_3,m1_4,m1_5,m1_6,m1_7,m1_8⟩:=j6.cells q1;obtain ⟨o2_0,o2_1,o2_2,o2_3,o2_4,o2_5,o2_6,o2_7,o2_8⟩:=j6.cells q2;(try simp only [sB,sC]);go_simp;(try with_reducible rfl));exact dD)
 simp only [sB,sC];refine dG [(1,15),(19,33),(20,34)] 7 1 0 (L':=?Lr2_18) hWr2 hH ?yr2_18 ?_
 case yr2_18=>((iterate 3 apply dF;rfl;kernel_rfl;intro w' hSw;clear hSw;(try simp only [sB,sC]);go_simp;(try with_reducible rfl));exact dD)
 simp only [sB,sC];refine U1 10 0 rfl (fun K hK=>?_)
 try clear hb
 go_simp
 (go_at_call 120;refine (HJ.out _).mono ?_;rintro e wn ⟨rfl,hb⟩)
 refine hK.out _ _ (aK (by have hG:=hH;replace hG:=aB hG;(try dsimp only at hG);have q0:=hG.1;have q1:=hG.2.1;have q2:=hG.2.2.1;have q3:=hG.2.2.2;exact ⟨BS hb q0,BS hb q1,BS hb q2,aj hb q3⟩)) (fun hH2=>?_);clear hK K hH
 rename _=>hH
 try simp only [Act.put,sA,sB,sC]
 refine dG [(21,35),(22,36)] 4 0 0 (L':=?Lr2_22) hWr2 hH ?yr2_22 ?_
 case yr2_22=>((iterate 2 apply dF;rfl;kernel_rfl;intro w' hSw;clear hSw;(try simp only [sB,sC]);go_simp;(try with_reducible rfl));exact dD)
 simp only [sB,sC];refine U1 23 1 rfl (fun K hK=>?_)
 try clear hb
 have hG:=hH;replace hG:=aB hG;(try dsimp only at hG);have q0:=hG.1;have q1:=hG.2.1;have q2:=hG.2.2.1;have q3:=hG.2.2.2;obtain ⟨z0,z1,z2,z3,-⟩:=j6.cells q0;have zf:=q0.free;have hgl:=q0.lt;have hN2:=j6.setBx q0 j1 j2 j3 j4;have hO2:=RB (b:=n) q3 j1 j2 j3 j4;go_simp;refine hK.out _ _ (gV) (fun hH2=>?_);clear hK K hH
 rename _=>hH
 try simp only [Act.put,sA,sB,sC]
 obtain ⟨wy,hwy⟩:∃ w',w'=setBx wn n j1 j2 j3 j4:=⟨_,rfl⟩;rw [← hwy] at hN2 hO2;unfold setBx at hwy
 try rw [← hwy] at hH
 rw [← hwy];clear hwy z0 z1 z2 z3 zf hgl q0 q1 q2 q3;refine dG [(24,37),(25,38)] 1 1 1 (L':=?Lr2_25) hWr2 hH ?yr2_25 ?_
 case yr2_25=>((iterate 2 apply dF;rfl;kernel_rfl;intro w' hSw;clear hSw;(try simp only [sB,sC]);go_simp;(try with_reducible rfl));exact dD)
 simp only [sB,sC];refine U1 26 1 rfl (fun K hK=>?_);obtain ⟨-,-,-,-,-,z5,-⟩:=j6.cells hN2;have zf:=hN2.free;have hgl:=hN2.lt;have hN3:=hN2.setHt (1+M);have hO3:=hO2.setCell (p:=⟨n,5,none⟩) (.inr rfl) (.int .i64 (1+M));go_simp;refine hK.out _ _ (gV) (fun hH2=>?_);clear hK K hH
 rename _=>hH
 try simp only [Act.put,sA,sB,sC]
 clear z5 zf hgl hN2 hO2;refine ak (by kernel_rfl) ?_ _ _;refine NoPanic.normal ?_
 go_wp2_with fail
 go_returns
 exact ⟨rfl,hN3,hO3⟩
end
end Go.Proofs.YtokgmcomgflloaaGreat
