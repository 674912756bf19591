/- Parts of a proof: contracts and laws. -/
import Derived.Test.YtokgmcomgflloaaGreatQA17
import Derived.Test.YtokgmcomgflloaaGreatQA02
import Derived.Test.YtokgmcomgflloaaGreatQA14
import Derived.Test.YtokgmcomgflloaaGreatQA07
import Derived.Shelf.LaySoft
import Derived.Shelf.SlicesG.Cmp
import Derived.Shelf.SlSortCmp.InsertionK
import Derived.Shelf.SlSortCmp.Kit1
import Derived.Shelf.SlSortCmp.NoneTotal
import Derived.Shelf.SlicesE.DeleteFunc
set_option maxRecDepth 100000
set_option maxHeartbeats 16000000
namespace Go.Proofs.YtokgmcomgflloaaGreat
section
set_option linter.unusedVariables false
set_option linter.unusedSimpArgs false
open Go.RowKit
variable {w0 w w':World}

structure NI (w : World) (gu gs : Nat) (up : List Nat) : Prop where
 cu:w.cell? ⟨gu,0,none⟩=some (.slice (some ⟨gs,0,none⟩) up.length up.length)
 cs:∀ i,i<up.length→w.cell? ⟨gs,i,none⟩=some (.int .i64 (gU up i:Nat))
 fr:∀ j,w.frozen? ⟨gs,j,none⟩=false
 lt:gs<w.heap.size
 ne:gu≠gs
 big:up.length≤1000000
theorem NI.out {gu gs:Nat} {up:List Nat} {D:Nat→Prop} (h:NI w gu gs up) (o:Out D w w') (n1:¬ D gu) (n2:¬ D gs):NI w' gu gs up :=
 ⟨o.cell h.cu n1,fun i hi=>o.cell (h.cs i hi) n2,fun j=>(World.frozen?_of_block (o.block gs h.lt n2)).trans (h.fr j),Nat.lt_of_lt_of_le h.lt o.size,h.ne,h.big⟩
theorem NI.set {gu gs:Nat} {up:List Nat} (h:NI w gu gs up) {i:Nat} (hi:i<up.length) (v:Nat):NI (w.setCell ⟨gs,i,none⟩ (.int .i64 (v:Nat))) gu gs (up.set i v):=by
 refine ⟨by rw [List.length_set];exact aY (fun e=>h.ne e.symm) h.cu,fun j hj=>?_,eu h.fr _ _,by rw [World.size_setCell];exact h.lt,h.ne,by rw [List.length_set];exact h.big⟩;rw [List.length_set] at hj;rw [jI hi]
 by_cases e:j=i
 ·subst e;rw [if_pos rfl];exact nE (h.cs j hj)
 ·rw [if_neg e];exact iG (h.cs j hj) (fun q=>e q.symm)

structure qG (w : World) (gu gs n : Nat) (f : Nat → Nat) (P : Nat → Prop) (wr : World) : Prop where
 ex:∃ up,up.length=n∧NI wr gu gs up∧EB up f∧∀ j,P j→gU up j=f j
 out:Out (fun k=>k=gs) w wr
theorem qG.keep {gu gs n:Nat} {f:Nat→Nat} {P:Nat→Prop} {wr w':World} (h:qG w gu gs n f P wr) (hb:Below wr.heap.size wr w'):qG w gu gs n f P w':=by
 obtain ⟨⟨up,h1,h2,h3,h4⟩,o⟩:=h;exact ⟨⟨up,h1,h2.out (Out.below (D:=fun _=>False) hb) (fun q=>q) (fun q=>q),h3,h4⟩,o.trans (Out.below (D:=fun _=>False) hb) (fun i _ q=>q.elim)⟩
def Pq (gu gs n:Nat) (f:Nat→Nat) (P:Nat→Prop) (z:Nat) (w:World) (e:Ending) (w':World):Prop:=e = .returned (.int .i64 (z:Nat))∧qG w gu gs n f P w'
theorem pR {gu gs n:Nat} {f:Nat→Nat} {P:Nat→Prop} (h:qG w gu gs n f P w) {i:Nat} (hi:i<n) :
  Calls Tryz.prog 109 #[.int .i64 (i:Nat),.pointer (some ⟨gu,0,none⟩)] w (Pq gu gs n f P (f i) w):=by
 obtain ⟨z,hz⟩:∃ z,z=f i:=⟨_,rfl⟩;rw [← hz];have HK0:Hid (qG w gu gs n f P w∧i<n∧f i=z):=⟨h,hi,hz.symm⟩;clear h hi hz
 go_enter Tryz.func109,Tryz.ntmps109
 go_wp2
 go_loopw [0] (fun q wr=>∃ j:Nat,q = .int .i64 j∧Hid (qG w gu gs n f P wr∧j<n∧f j=z)) (fun q _=>(intOf q).toNat)
 case atStart=>exact ⟨i,rfl,HK0⟩
 case round =>
  clear HK0;obtain ⟨j,rfl,HK⟩:=hrel;obtain ⟨wo,rfl⟩:∃ wo:World,wo=wr:=⟨_,rfl⟩;obtain ⟨⟨⟨up,hl,hU,hf,hP⟩,hO⟩,hj,hz⟩:=HK.out;have HP:=hid hP;clear hP;have c0:=hU.cu;rw [hl] at c0;have hbig:=hU.big;rw [hl] at hbig;obtain ⟨a,ha⟩:∃ a,a=gU up j:=⟨_,rfl⟩;have ca:=hU.cs j (by omega);rw [← ha] at ca;have haj:a≤j:=by rw [ha];exact hf.le j
  obtain ⟨b,hb⟩:∃ b,b=gU up a:=⟨_,rfl⟩;have cb:=hU.cs a (by omega);rw [← hb] at cb;have hba:b≤a:=by rw [hb];exact hf.le a
  have hj':(j:Int)<(n:Int):=by omega
  have ha':(a:Int)<(n:Int):=by omega
  have lu:=lt_of_cell c0;have ls:=lt_of_cell ca;have HF:=hid hf;have HU:=hid hU;have HA:=hid ha;have HB:=hid hb;have HL:=hid hl;have HZ:=hid hz;have HO:=hid hO;clear hf hU ha hb hl hz hO
  by_cases e:a=j
  ·have HE := hid e;have hfz:f j=j:=HF.out.fix j (by rw [← HA.out];exact e);have HJ:Hid (z=j):=hid (by rw [← HZ.out,hfz]);have HR:Hid (qG w gu gs n f P wo):=hid HK.out.1;have e':(a:Int)=(j:Int):=by omega
   clear e hfz HK;go_wp2
   go_returns
   exact ⟨by rw [HJ.out];rfl,HR.out⟩
  ·have e' : ¬ (a : Int) = (j : Int) := by omega
   go_upto_region 2 with fail
   have C0:=hid c0;have CA:=hid ca;have CB:=hid cb;have CF:=hid HU.out.fr;clear c0 ca cb;refine wp_region_noPanic ?_;refine au (S:=(S2 (fun w'=>w'.cell? ⟨gu,0,none⟩=some (.slice (some ⟨gs,0,none⟩) n n)∧w'.cell? ⟨gs,j,none⟩=some (.int .i64 (a:Nat))∧w'.cell? ⟨gs,a,none⟩=some (.int .i64 (b:Nat))∧(∀ j,w'.frozen? ⟨gs,j,none⟩=false)))) (T:=(fun j=>[0,0,0,0,0,0,0,0,0,0,1].getD j 0)) (by kernel_rfl) (aC ⟨C0.out,CA.out,CB.out,CF.out⟩) (fun hH=>?_);have hWr1:aH (S2 (fun w'=>w'.cell? ⟨gu,0,none⟩=some (.slice (some ⟨gs,0,none⟩) n n)∧w'.cell? ⟨gs,j,none⟩=some (.int .i64 (a:Nat))∧w'.cell? ⟨gs,a,none⟩=some (.int .i64 (b:Nat))∧(∀ j,w'.frozen? ⟨gs,j,none⟩=false))):=aK _;refine dn [(0,10),(1,11),(2,12),(3,13),(4,14),(5,15),(6,16),(7,17),(8,18),(9,19)] 1 0 0 (L':=?Lr1_1) hWr1 hH ?yr1_1 ?_
   case yr1_1=>((iterate 10 apply dA;rfl;kernel_rfl;intro w' hSw;replace hSw:=aA hSw;(try dsimp only at hSw);have q0:=hSw.1;have q1:=hSw.2.1;have q2:=hSw.2.2.1;have q3:=hSw.2.2.2;(try simp only [sB,sC]);go_simp;(try with_reducible rfl));exact dw)
   simp only [sB,sC];refine U1 10 1 rfl (fun K hK=>?_);have hG:=hH;replace hG:=aA hG;(try dsimp only at hG);have q0:=hG.1;have q1:=hG.2.1;have q2:=hG.2.2.1;have q3:=hG.2.2.2;go_simp;refine hK.out _ _ (dY) (fun hH2=>?_);clear hK K hH
   rename _=>hH
   try simp only [Act.put,sA,sB,sC]
   clear hG q0 q1 q2 q3;refine ak (by kernel_rfl) ?_ _ _;refine NoPanic.normal ?_;clear hWr1 hH;generalize hwB:World.drew _=wB;have HU2:Hid (NI wB gu gs (up.set j b)):=hid (by rw [← hwB];exact (HU.out.set (by rw [HL.out];exact hj) b).out (Out.below (D:=fun _=>False) ((Below.refl _ _).drew)) (fun q=>q) (fun q=>q));have HO2:Hid (Out (fun k=>k=gs) w wB):=hid (by rw [← hwB];exact (HO.out.setCell (p:=⟨gs,j,none⟩) (.inr rfl) _).drew);have HF2:Hid (EB (up.set j b) f):=hid (by rw [HB.out,HA.out];exact HF.out.halve (by rw [HL.out];exact hj));have HZ2:Hid (f b=z):=hid (by rw [HB.out,HF.out.step,HA.out,HF.out.step,HZ.out]);have d0:=HU2.out.cu;rw [List.length_set,HL.out] at d0;have da:=HU2.out.cs j (by rw [List.length_set,HL.out];exact hj);rw [jI (by rw [HL.out];exact hj),if_pos rfl] at da;have lu2:=lt_of_cell d0;have ls2:=lt_of_cell da
   have HP2:Hid (∀ q,P q→gU (up.set j b) q=f q):=hid (fun q hq=>by
    rw [jI (by rw [HL.out];exact hj)]
    by_cases e:q=j
    ·subst e;rw [if_pos rfl,HB.out,HA.out,HP.out q hq];exact HF.out.ok.2 q
    ·rw [if_neg e]
     exact HP.out q hq)
   have HK2:Hid (qG w gu gs n f P wB∧b<n∧f b=z):=⟨⟨⟨_,by rw [List.length_set];exact HL.out,HU2.out,HF2.out,HP2.out⟩,HO2.out⟩,by omega,HZ2.out⟩;clear hwB C0 CA CB CF HK HU HU2 HO HO2 HF HF2 HZ HZ2 HA HB HL HP HP2;go_wp2;go_roundw
   case rel=>exact ⟨b,rfl,HK2⟩
   case measure=>simp [intOf];omega
theorem qG.here {gu gs n:Nat} {f:Nat→Nat} {P:Nat→Prop} {wr:World} (h:qG w gu gs n f P wr):qG wr gu gs n f P wr:=⟨h.ex,Out.refl _ _⟩
theorem qG.then {gu gs n:Nat} {f f':Nat→Nat} {P P':Nat→Prop} {a b:World} (h:qG w gu gs n f P a) (k:qG a gu gs n f' P' b):qG w gu gs n f' P' b:=⟨k.ex,h.out.trans k.out (fun i _ q=>q)⟩

structure O1 (w : World) (gl gr gu gs n bl off c : Nat) (mv : Nat → Bool) : Prop where
 cl:w.cell? ⟨gl,0,none⟩=some (.slice (some ⟨bl,off,none⟩) n c)
 cr:w.cell? ⟨gr,0,none⟩=some (.func (.func 109) #[] #[.pointer (some ⟨gu,0,none⟩)])
 cm:∀ j,j<n→∃ m:Int,w.cell? ⟨bl,off+j*13+6,none⟩=some (.int .i64 m)∧(mv j=true↔m≠0)
 ne:gl≠gs∧gr≠gs∧bl≠gs
theorem O1.out {gl gr gu gs n bl off c:Nat} {mv:Nat→Bool} (h:O1 w gl gr gu gs n bl off c mv) (o:Out (fun k=>k=gs) w w'):O1 w' gl gr gu gs n bl off c mv :=
 ⟨o.cell h.cl h.ne.1,o.cell h.cr h.ne.2.1,fun j hj=>by obtain ⟨m,h1,h2⟩:=h.cm j hj;exact ⟨m,o.cell h1 h.ne.2.2,h2⟩,h.ne⟩
theorem JG {mv:Nat→Bool} {f:Nat→Nat} {i k:Nat} (h:¬ (mv i=true∧mv k=true)):I9 mv f (i,k)=f:=by unfold I9;rw [if_neg h]
theorem uY {gl gr gu gs n bl off c:Nat} {mv:Nat→Bool} {f:Nat→Nat} (hJ:O1 w gl gr gu gs n bl off c mv) (h:qG w gu gs n f (fun _=>False) w) {i k:Nat} (hi:i<n) (hk:k<n) (hc:n≤c) (hn:n≤1000000) :
  Calls Tryz.prog 110 #[.int .i64 (i:Nat),.int .i64 (k:Nat),.pointer (some ⟨gl,0,none⟩),.pointer (some ⟨gr,0,none⟩),.pointer (some ⟨gu,0,none⟩)] w (fun e w'=>e = .returned (.tuple #[])∧qG w gu gs n (I9 mv f (i,k)) (fun _=>False) w'):=by
 obtain ⟨mi,ci,hmi⟩:=hJ.cm i hi;obtain ⟨mk,ck,hmk⟩:=hJ.cm k hk;have cl:=hJ.cl;have cr:=hJ.cr;have hi':(i:Int)<(n:Int):=by omega
 have hk':(k:Int)<(n:Int):=by omega
 have ll:=lt_of_cell cl;have lb:=lt_of_cell ci;have lr:=lt_of_cell cr;have HI:=hid hi;have HI2:=hid hk;have HNE:Hid (¬ gr=gs):=hJ.ne.2.1;have HR:=hid h;have HM1:=hid hmi;have HM2:=hid hmk;clear hJ h hmi hmk hi hk
 go_enter Tryz.func110,Tryz.ntmps110
 by_cases z1:mi=0
 ·have HJ := hid (JG (mv := mv) (f := f) (i := i) (k := k) (fun q => HM1.out.1 q.1 z1));subst z1;clear cr;go_wp2
  go_returns
  exact ⟨by simp,by rw [HJ.out];exact HR.out⟩
 ·by_cases z2 : mk = 0
  ·have HJ := hid (JG (mv := mv) (f := f) (i := i) (k := k) (fun q => HM2.out.1 q.2 z2));subst z2;clear cr;go_wp2
   go_returns
   exact ⟨by simp,by rw [HJ.out];exact HR.out⟩
  ·have HMV : Hid (mv i = true ∧ mv k = true) := hid ⟨HM1.out.2 z1, HM2.out.2 z2⟩;have hb1:(mi == 0)=false:=by simpa using z1
   have hb2:(mk == 0)=false:=by simpa using z2
   go_upto_region 1 with fail
   have CR:=hid cr;clear cl cr ci ck HM1 HM2 z1 z2 hb1 hb2;refine wp_region_noPanic ?_;refine au (S:=(S2 (fun w'=>w'.cell? ⟨gr,0,none⟩=some (.func (.func 109) #[] #[.pointer (some ⟨gu,0,none⟩)])∧qG w gu gs n f (fun _=>False) w'))) (T:=(fun _=>0)) (by kernel_rfl) (aC ⟨CR.out,HR.out.keep ((Below.refl _ _).drew)⟩) (fun hH=>?_);have hWr2:aH (S2 (fun w'=>w'.cell? ⟨gr,0,none⟩=some (.func (.func 109) #[] #[.pointer (some ⟨gu,0,none⟩)])∧qG w gu gs n f (fun _=>False) w')):=aK _;refine dn [(0,21),(1,22),(3,24),(4,25)] 4 0 0 (L':=?Lr2_1) hWr2 hH ?yr2_1 ?_
   case yr2_1=>((iterate 4 apply dA;rfl;kernel_rfl;intro w' hSw;replace hSw:=aA hSw;(try dsimp only at hSw);have q0:=hSw.1;have q1:=hSw.2;(try simp only [sB,sC]);go_simp;(try with_reducible rfl));exact dw)
   simp only [sB,sC];refine U1 2 0 rfl (fun K hK=>?_);have hG:=hH;replace hG:=aA hG;(try dsimp only at hG);have q0:=hG.1;have q1:=hG.2;go_simp
   (go_at_call 109;refine (pR (qG.here q1) HI.out).mono ?_;rintro e wn ⟨rfl,hR⟩)
   refine hK.out _ _ (aC ⟨hR.out.cell q0 HNE.out,q1.then hR⟩) (fun hH2=>?_);clear hK K hH
   rename _=>hH
   try simp only [Act.put,sA,sB,sC]
   clear hG q0 q1 hR;refine U1 5 0 rfl (fun K hK=>?_);have hG:=hH;replace hG:=aA hG;(try dsimp only at hG);have q0:=hG.1;have q1:=hG.2;go_simp
   (go_at_call 109;refine (pR (qG.here q1) HI2.out).mono ?_;rintro e wn ⟨rfl,hR⟩)
   refine hK.out _ _ (aC ⟨hR.out.cell q0 HNE.out,q1.then hR⟩) (fun hH2=>?_);clear hK K hH
   rename _=>hH
   try simp only [Act.put,sA,sB,sC]
   clear hG q0 q1 hR;refine dn [(6,0),(7,1)] 0 0 0 (L':=?Lr2_7) hWr2 hH ?yr2_7 ?_
   case yr2_7=>((iterate 2 apply dA;rfl;kernel_rfl;intro w' hSw;clear hSw;(try simp only [sB,sC]);go_simp;(try with_reducible rfl));exact dw)
   simp only [sB,sC];refine ak (by kernel_rfl) ?_ _ _;refine NoPanic.normal ?_;clear hWr2;replace hH:=aA hH
   (try dsimp only at hH)
   have t0:=hH.1;have t1:=hH.2;obtain ⟨up,hl,hU,hf,-⟩:=t1.ex;have HO:=hid t1.out;obtain ⟨x,hx⟩:∃ x,x=f i:=⟨_,rfl⟩;obtain ⟨y,hy⟩:∃ y,y=f k:=⟨_,rfl⟩;rw [← hx,← hy];have hx1:x<n:=by have:=hf.ok.1.le i;have:=HI.out;omega
   have hy1:y<n:=by have:=hf.ok.1.le k;have:=HI2.out;omega
   obtain ⟨p,hp⟩:∃ p,p=max x y:=⟨_,rfl⟩;obtain ⟨q,hq⟩:∃ q,q=min x y:=⟨_,rfl⟩;have hp1:p<n:=by omega
   have hp2:(p:Int)<(n:Int):=by omega
   have c0:=hU.cu;rw [hl] at c0;have cp:=hU.cs p (by omega);have cf:=hU.fr;have lu:=lt_of_cell c0;have ls:=lt_of_cell cp
   have hrmax:∀ (ts:Array TypeId) (t:TypeId) (w:World),(Builtin.max_ ts t #[.int .i64 (x:Int),.int .i64 (y:Int)]).run Tryz.prog w = .ok (.int .i64 (p:Int)) w:=fun ts t w=>by
    rw [run_max_int2]
    congr 2
    omega
   have hrmin:∀ (ts:Array TypeId) (t:TypeId) (w:World),(Builtin.min_ ts t #[.int .i64 (x:Int),.int .i64 (y:Int)]).run Tryz.prog w = .ok (.int .i64 (q:Int)) w:=fun ts t w=>by
    rw [run_min_int2]
    congr 2
    omega
   have HU:=hid hU;have HL:=hid hl;have HJ:=hid (hf.join (mv:=mv) (p:=(i,k)) HMV.out (by rw [hl];exact HI.out) (by rw [hl];exact HI2.out));dsimp only at HJ;rw [← hx,← hy,← hp,← hq] at HJ;clear hU hl hf hx hy hp hq t0 t1;go_wp2
   go_returns
   exact ⟨by simp,⟨⟨_,by rw [List.length_set];exact HL.out,HU.out.set (by rw [HL.out];exact hp1) q,HJ.out,fun _ q=>q.elim⟩,HO.out.setCell (p:=⟨gs,p,none⟩) (.inr rfl) _⟩⟩
end
section
set_option linter.unusedVariables false
set_option linter.unusedSimpArgs false
open Go.Shelf
open Go.RowKit Go.Sort Go.Lib
variable {w0 w w':World}
def ze:Go.Shelf.Ren:=⟨fun | 5=>75 | 7=>139 | n=>n,fun | 22=>3 | 3=>3 | 4=>4 | n=>n,fun | n=>n⟩
theorem Hw : Go.Proofs.SlLaysC2.n5 Tryz.prog ze := {
 mixed:=by kernel_rfl
 f5:=⟨Tryz.f75.name,by decide,Tryz.func75.trans (congrArg some (by kernel_rfl))⟩
 f7:=⟨Tryz.f139.name,by decide,Tryz.func139.trans (congrArg some (by kernel_rfl))⟩
 t3:=Tryz.underlying3
 a3:=Tryz.isAgg3
 z3:=Tryz.sizeOf3
 v3:=Tryz.zeroValue3
 t4:=Tryz.underlying4
 a4:=Tryz.isAgg4
 z4:=Tryz.sizeOf4
 v4:=Tryz.zeroValue4
 t22:=Tryz.underlying3
 a22:=Tryz.isAgg3
 z22:=Tryz.sizeOf3
 v22:=Tryz.zeroValue3 }
theorem kR (x y:Int) (w:World):Calls Tryz.prog 75 #[.int .i64 x,.int .i64 y] w fun e w'=>e = .returned (.int .i64 (Lib.compareInt x y))∧w'=w:=AnyG.cmp_Compare_int Hw x y w

abbrev Bx:=(Int × Int) × (Int × Int)
def dP:Lay Bx:=⟨fun b=>[.int .i64 b.1.1,.int .i64 b.1.2,.int .i64 b.2.1,.int .i64 b.2.2],4,fun _=>rfl,fun x v hv=>by simp at hv;rcases hv with rfl | rfl | rfl | rfl <;> rfl,by omega⟩
def bG (l:List Bx) (i:Nat):Bx:=l.getD i ((0,0),(0,0))
theorem aJ.box {b off:Nat} {l:List Bx} (h:aJ dP w b off l) {i:Nat} (hi:i<l.length) :
  w.cell? ⟨b,off+i*4,none⟩=some (.int .i64 (bG l i).1.1)∧w.cell? ⟨b,off+i*4+1,none⟩=some (.int .i64 (bG l i).1.2)∧w.cell? ⟨b,off+i*4+2,none⟩=some (.int .i64 (bG l i).2.1)∧w.cell? ⟨b,off+i*4+3,none⟩=some (.int .i64 (bG l i).2.2):=by
 have e:bG l i=l[i]:=by unfold bG;simp [hi]
 rw [e];exact ⟨h.at_ i hi 0 _ rfl,h.at_ i hi 1 _ rfl,h.at_ i hi 2 _ rfl,h.at_ i hi 3 _ rfl⟩
end
section
set_option linter.unusedVariables false
set_option linter.unusedSimpArgs false
open Go.RowKit Go.Sort
variable {w0 w w':World}
section
variable {w0 w w':World}
variable {α:Type} {L:Lay α} {e:TypeId}
theorem Du [Inhabited α] (d:Array α):(flatK L.enc L.k d).toList=fB L d.toList:=by
 apply List.ext_getElem?
 intro t
 rcases Nat.lt_or_ge t (d.size*L.k) with ht | ht
 ·obtain ⟨j, i, hj, hi, e, h⟩ := tJ (L := L) d.toList t (by simpa using ht);rw [h];have hp:=L.pos;have hjd:j<d.size:=by simpa using hj
  have e1:t / L.k=j:=by rw [e,Nat.mul_comm,Nat.mul_add_div hp,Nat.div_eq_of_lt hi,Nat.add_zero]
  have e2:t % L.k=i:=by rw [e,Nat.mul_comm,Nat.mul_add_mod,Nat.mod_eq_of_lt hi]
  have g:=get_flatK L.enc L.k d t ht;rw [e1,e2,getElem!_pos _ _ (by simpa using ht),getElem!_pos d j hjd,getElem!_pos _ i (by rw [L.hk];exact hi)] at g;rw [Array.getElem?_toList,Array.getElem?_eq_getElem (by simpa using ht),g,List.getElem?_eq_getElem (by rw [L.hk];exact hi)];simp
 ·rw [List.getElem?_eq_none (by simpa using ht),List.getElem?_eq_none (by rw [kY];simpa using ht)]

theorem aU.holds [Inhabited α] {w:World} {B g n cap:Nat} {l:List α} (h:aU L e w B (.slice (some ⟨g,0,none⟩) n cap) l):HoldsK L.enc L.k w g 0 l.toArray:=by
 rcases h.form with ⟨h1,-⟩ | ⟨g',cap',hv,-,-,-,-,hf,hc⟩
 ·cases h1
 ·cases hv
  intro t ht;rw [size_flatK] at ht;simp only [List.size_toArray] at ht;refine ⟨?_,hf _⟩;obtain ⟨j,i,hj,hi,et,h2⟩:=tJ (L:=L) l t ht;have hp:=L.pos;have e1:t / L.k=j:=by rw [et,Nat.mul_comm,Nat.mul_add_div hp,Nat.div_eq_of_lt hi,Nat.add_zero]
  have e2:t % L.k=i:=by rw [et,Nat.mul_comm,Nat.mul_add_mod,Nat.mod_eq_of_lt hi]
  have g1:=get_flatK L.enc L.k l.toArray t (by simpa using ht);rw [e1,e2] at g1;rw [g1];have hg:(L.enc l[j])[i]? = some ((L.enc l[j])[i]'(by rw [L.hk];exact hi)):=List.getElem?_eq_getElem _;have:=hc.at_ j hj i _ hg;rw [show (0:Nat)+j*L.k+i=0+t by omega] at this;rw [this];have hj2:l.toArray[j]! = l[j]:=by rw [getElem!_pos _ _ (by simpa using hj)];simp
  rw [hj2,getElem!_pos _ i (by rw [L.hk];exact hi)];rfl
theorem BA [Inhabited α] {w:World} {g n:Nat} {os:Array Obj} {cur:Array Value} {fr:Nat × Nat} (d:Array α) (hb:w.heap[g]? = some (.cells cur e fr)) :
  (sortWorldK L.enc L.k w g 0 n d os).heap[g]? = some (.cells (putCells id 0 (flatK L.enc L.k d) cur) e fr):=by
 have hg:g<w.heap.size:=(Array.getElem?_eq_some_iff.1 hb).1;unfold sortWorldK putRowK;rw [heap_grow_old _ _ (by simpa [putRow,mapBlock,Sort.ahead] using hg)];simp [putRow,mapBlock,Sort.ahead,Array.getElem?_modify,hb,onCells]
theorem iq [Inhabited α] {w:World} {g n:Nat} {os:Array Obj} (d:Array α):w.grownBy (sortWorldK L.enc L.k w g 0 n d os) (some g):=by
 unfold sortWorldK putRowK;refine ⟨rfl,rfl,rfl,by simp [putRow,mapBlock,Sort.ahead],fun k hk hne=>?_⟩;rw [heap_grow_old _ _ (by simpa [putRow,mapBlock,Sort.ahead] using hk)];have:g≠k:=fun e=>hne (by rw [e])
 simp [putRow,mapBlock,Sort.ahead,Array.getElem?_modify,this]
theorem yt (cur:Array Value) (F:Array Value) (h:F.size≤cur.size):(putCells id 0 F cur).toList.take F.size=F.toList:=by
 apply List.ext_getElem?
 intro j
 by_cases hj:j<F.size
 ·rw [List.getElem?_take_of_lt hj, Array.getElem?_toList];simp [putCells,hj,show j<cur.size by omega]
 ·rw [List.getElem?_take_eq_none (by omega),List.getElem?_eq_none (by simp;omega)]

theorem aU.sorted [Inhabited α] {w:World} {B g n cap m:Nat} {os:Array Obj} {l:List α} (h:aU L e w B (.slice (some ⟨g,0,none⟩) n cap) l) (d:Array α) (hs:d.size=l.length) :
  aU L e (sortWorldK L.enc L.k w g 0 m d os) B (.slice (some ⟨g,0,none⟩) n cap) d.toList:=by
 obtain ⟨h1,⟨h2,-⟩ | ⟨g',cap',cur,hv,hb,hg,hn,hm,hsz,ht⟩⟩:=h
 ·cases h2
 ·cases hv
  refine ⟨by rw [kY],.inr ⟨g,cap,_,by simp [hs],hb,BA d hg,by rw [Array.length_toList,hs];exact hn,hm,by simp [putCells,hsz],?_⟩⟩;have e1:d.toList.length*L.k=(flatK L.enc L.k d).size:=by simp
  rw [e1,yt _ _ (by rw [size_flatK,hs,hsz];exact Nat.mul_le_mul_right _ hn),Du]
end

theorem iw {α:Type} [Inhabited α] (enc:α→Value) (w:World) (g off m:Nat) (d:Array α) (os:Array Obj):sortWorld enc w g off m d os=sortWorldK (fun x=>[enc x]) 1 w g off m d os:=by
 have e:flatK (fun x=>[enc x]) 1 d=d.map enc:=by
  apply Array.ext
  ·simp
  ·intro i h1 h2;have g1:=get_flatK (fun x=>[enc x]) 1 d i (by simpa using h1);rw [getElem!_pos (flatK (fun x=>[enc x]) 1 d) i h1] at g1;rw [g1];have hi:i<d.size:=by simpa using h2
   simp [Nat.mod_one,hi]
 unfold sortWorld sortWorldK putRowK putRow;rw [e]
 congr 2
 funext cur
 unfold putCells;apply Array.ext
 ·simp
 ·intro i h1 h2;rw [Array.getElem_mapIdx,Array.getElem_mapIdx];have es:(d.map enc).size=d.size:=by simp
  by_cases hh:off≤i∧i<off+d.size
  ·rw [if_pos hh, if_pos (by rw [es]; exact hh), getElem!_pos (d.map enc) (i - off) (by simp; omega), getElem!_pos d (i - off) (by omega)];simp
  ·rw [if_neg hh,if_neg (by rw [es];exact hh)]
theorem holds_one {α:Type} [Inhabited α] {enc:α→Value} {w:World} {g off:Nat} {d:Array α} (h:HoldsK (fun x=>[enc x]) 1 w g off d):Holds enc w g off d:=by
 intro j hj;have:=h j (by rw [size_flatK];omega);have g1:=get_flatK (fun x=>[enc x]) 1 d j (by omega);rw [g1] at this;simpa [Nat.mod_one] using this
end
section
set_option linter.unusedVariables false
set_option linter.unusedSimpArgs false
open Go.Shelf
open Go.RowKit Go.Sort Go.Lib
variable {w0 w w':World}
def yN:Go.Shelf.Ren:=⟨fun | 6=>73 | 15=>138 | 14=>137 | 28=>196 | 29=>197 | 20=>188 | 21=>189 | 22=>190 | 23=>191 | 24=>192 | 25=>193 | 26=>194 | 27=>195 | 46=>231 | 47=>232 | 48=>233 | 49=>234 | 50=>235 | 57=>253 | n=>n,fun | 22=>45 | 24=>3 | 25=>22 | 3=>3 | 39=>191 | 0=>0 | 53=>235 | 55=>118 | 4=>4 | 46=>229 | 45=>228 | 50=>154 | 5=>5 | 9=>9 | 66=>259 | 70=>263 | 76=>277 | 77=>278 | n=>n,fun | n=>n⟩
theorem FL : Go.Proofs.SlLaysF.n6 Tryz.prog yN := {
 mixed:=by kernel_rfl
 f6:=⟨Tryz.f73.name,by decide,Tryz.func73.trans (congrArg some (by kernel_rfl))⟩
 f14:=⟨Tryz.f137.name,by decide,Tryz.func137.trans (congrArg some (by kernel_rfl))⟩
 f15:=Tryz.func138.trans (congrArg some (by kernel_rfl))
 f20:=⟨Tryz.f188.name,by decide,Tryz.func188.trans (congrArg some (by kernel_rfl))⟩
 f21:=⟨Tryz.f189.name,by decide,Tryz.func189.trans (congrArg some (by kernel_rfl))⟩
 f22:=⟨Tryz.f190.name,by decide,Tryz.func190.trans (congrArg some (by kernel_rfl))⟩
 f23:=⟨Tryz.f191.name,by decide,Tryz.func191.trans (congrArg some (by kernel_rfl))⟩
 f24:=⟨Tryz.f192.name,by decide,Tryz.func192.trans (congrArg some (by kernel_rfl))⟩
 f25:=⟨Tryz.f193.name,by decide,Tryz.func193.trans (congrArg some (by kernel_rfl))⟩
 f26:=⟨Tryz.f194.name,by decide,Tryz.func194.trans (congrArg some (by kernel_rfl))⟩
 f27:=⟨Tryz.f195.name,by decide,Tryz.func195.trans (congrArg some (by kernel_rfl))⟩
 f28:=Tryz.func196.trans (congrArg some (by kernel_rfl))
 f29:=Tryz.func197.trans (congrArg some (by kernel_rfl))
 f46:=⟨Tryz.f231.name,by decide,Tryz.func231.trans (congrArg some (by kernel_rfl))⟩
 f47:=Tryz.func232.trans (congrArg some (by kernel_rfl))
 f48:=Tryz.func233.trans (congrArg some (by kernel_rfl))
 f49:=⟨Tryz.f234.name,by decide,Tryz.func234.trans (congrArg some (by kernel_rfl))⟩
 f50:=⟨Tryz.f235.name,by decide,Tryz.func235.trans (congrArg some (by kernel_rfl))⟩
 f57:=⟨Tryz.f253.name,by decide,Tryz.func253.trans (congrArg some (by kernel_rfl))⟩
 t0:=Tryz.underlying0
 a0:=Tryz.isAgg0
 z0:=Tryz.sizeOf0
 v0:=Tryz.zeroValue0
 t3:=Tryz.underlying3
 a3:=Tryz.isAgg3
 z3:=Tryz.sizeOf3
 v3:=Tryz.zeroValue3
 t4:=Tryz.underlying4
 a4:=Tryz.isAgg4
 z4:=Tryz.sizeOf4
 v4:=Tryz.zeroValue4
 t5:=Tryz.underlying5
 a5:=Tryz.isAgg5
 z5:=Tryz.sizeOf5
 v5:=Tryz.zeroValue5
 t9:=Tryz.underlying9
 a9:=Tryz.isAgg9
 z9:=Tryz.sizeOf9
 v9:=Tryz.zeroValue9
 t22:=Tryz.underlying45
 a22:=Tryz.isAgg45
 z22:=Tryz.sizeOf45
 v22:=Tryz.zeroValue45
 a24:=Tryz.isAgg3
 z24:=Tryz.sizeOf3
 t25:=Tryz.underlying22
 a25:=Tryz.isAgg22
 z25:=Tryz.sizeOf22
 v25:=Tryz.zeroValue22
 t39:=Tryz.underlying191
 a39:=Tryz.isAgg191
 z39:=Tryz.sizeOf191
 v39:=Tryz.zeroValue191
 t45:=Tryz.underlying228
 a45:=Tryz.isAgg228
 z45:=Tryz.sizeOf228
 v45:=Tryz.zeroValue228
 t46:=Tryz.underlying229
 a46:=Tryz.isAgg229
 z46:=Tryz.sizeOf229
 v46:=Tryz.zeroValue229
 t50:=Tryz.underlying154
 a50:=Tryz.isAgg154
 z50:=Tryz.sizeOf154
 v50:=Tryz.zeroValue154
 t53:=Tryz.underlying235
 a53:=Tryz.isAgg235
 z53:=Tryz.sizeOf235
 v53:=Tryz.zeroValue235
 t55:=Tryz.underlying118
 a55:=Tryz.isAgg118
 z55:=Tryz.sizeOf118
 v55:=Tryz.zeroValue118
 t66:=Tryz.underlying259
 a66:=Tryz.isAgg259
 z66:=Tryz.sizeOf259
 v66:=Tryz.zeroValue259
 t70:=Tryz.underlying263
 a70:=Tryz.isAgg263
 z70:=Tryz.sizeOf263
 v70:=Tryz.zeroValue263
 t76:=Tryz.underlying277
 a76:=Tryz.isAgg277
 z76:=Tryz.sizeOf277
 v76:=Tryz.zeroValue277
 t77:=Tryz.underlying278
 a77:=Tryz.isAgg278
 z77:=Tryz.sizeOf278
 v77:=Tryz.zeroValue278 }
def vV:Go.Shelf.Ren:=⟨fun | 6=>78 | 15=>138 | 14=>141 | 28=>196 | 29=>197 | 20=>198 | 21=>199 | 22=>200 | 23=>201 | 24=>202 | 25=>203 | 26=>204 | 27=>205 | 46=>236 | 47=>232 | 48=>233 | 49=>237 | 50=>238 | 57=>254 | n=>n,fun | 22=>67 | 24=>72 | 25=>127 | 3=>3 | 39=>191 | 0=>0 | 53=>235 | 55=>118 | 4=>4 | 46=>229 | 45=>228 | 50=>154 | 5=>5 | 9=>9 | 66=>259 | 70=>263 | 76=>277 | 77=>278 | n=>n,fun | n=>n⟩
theorem vG : Go.Proofs.SlLaysF0.n6 Tryz.prog vV := {
 mixed:=by kernel_rfl
 f6:=⟨Tryz.f78.name,by decide,Tryz.func78.trans (congrArg some (by kernel_rfl))⟩
 f14:=⟨Tryz.f141.name,by decide,Tryz.func141.trans (congrArg some (by kernel_rfl))⟩
 f15:=Tryz.func138.trans (congrArg some (by kernel_rfl))
 f20:=⟨Tryz.f198.name,by decide,Tryz.func198.trans (congrArg some (by kernel_rfl))⟩
 f21:=⟨Tryz.f199.name,by decide,Tryz.func199.trans (congrArg some (by kernel_rfl))⟩
 f22:=⟨Tryz.f200.name,by decide,Tryz.func200.trans (congrArg some (by kernel_rfl))⟩
 f23:=⟨Tryz.f201.name,by decide,Tryz.func201.trans (congrArg some (by kernel_rfl))⟩
 f24:=⟨Tryz.f202.name,by decide,Tryz.func202.trans (congrArg some (by kernel_rfl))⟩
 f25:=⟨Tryz.f203.name,by decide,Tryz.func203.trans (congrArg some (by kernel_rfl))⟩
 f26:=⟨Tryz.f204.name,by decide,Tryz.func204.trans (congrArg some (by kernel_rfl))⟩
 f27:=⟨Tryz.f205.name,by decide,Tryz.func205.trans (congrArg some (by kernel_rfl))⟩
 f28:=Tryz.func196.trans (congrArg some (by kernel_rfl))
 f29:=Tryz.func197.trans (congrArg some (by kernel_rfl))
 f46:=⟨Tryz.f236.name,by decide,Tryz.func236.trans (congrArg some (by kernel_rfl))⟩
 f47:=Tryz.func232.trans (congrArg some (by kernel_rfl))
 f48:=Tryz.func233.trans (congrArg some (by kernel_rfl))
 f49:=⟨Tryz.f237.name,by decide,Tryz.func237.trans (congrArg some (by kernel_rfl))⟩
 f50:=⟨Tryz.f238.name,by decide,Tryz.func238.trans (congrArg some (by kernel_rfl))⟩
 f57:=⟨Tryz.f254.name,by decide,Tryz.func254.trans (congrArg some (by kernel_rfl))⟩
 t0:=Tryz.underlying0
 a0:=Tryz.isAgg0
 z0:=Tryz.sizeOf0
 v0:=Tryz.zeroValue0
 t3:=Tryz.underlying3
 a3:=Tryz.isAgg3
 z3:=Tryz.sizeOf3
 v3:=Tryz.zeroValue3
 t4:=Tryz.underlying4
 a4:=Tryz.isAgg4
 z4:=Tryz.sizeOf4
 v4:=Tryz.zeroValue4
 t5:=Tryz.underlying5
 a5:=Tryz.isAgg5
 z5:=Tryz.sizeOf5
 v5:=Tryz.zeroValue5
 t9:=Tryz.underlying9
 a9:=Tryz.isAgg9
 z9:=Tryz.sizeOf9
 v9:=Tryz.zeroValue9
 t22:=Tryz.underlying67
 a22:=Tryz.isAgg67
 z22:=Tryz.sizeOf67
 v22:=Tryz.zeroValue67
 t25:=Tryz.underlying127
 a25:=Tryz.isAgg127
 z25:=Tryz.sizeOf127
 v25:=Tryz.zeroValue127
 t39:=Tryz.underlying191
 a39:=Tryz.isAgg191
 z39:=Tryz.sizeOf191
 v39:=Tryz.zeroValue191
 t45:=Tryz.underlying228
 a45:=Tryz.isAgg228
 z45:=Tryz.sizeOf228
 v45:=Tryz.zeroValue228
 t46:=Tryz.underlying229
 a46:=Tryz.isAgg229
 z46:=Tryz.sizeOf229
 v46:=Tryz.zeroValue229
 t50:=Tryz.underlying154
 a50:=Tryz.isAgg154
 z50:=Tryz.sizeOf154
 v50:=Tryz.zeroValue154
 t53:=Tryz.underlying235
 a53:=Tryz.isAgg235
 z53:=Tryz.sizeOf235
 v53:=Tryz.zeroValue235
 t55:=Tryz.underlying118
 a55:=Tryz.isAgg118
 z55:=Tryz.sizeOf118
 v55:=Tryz.zeroValue118
 t66:=Tryz.underlying259
 a66:=Tryz.isAgg259
 z66:=Tryz.sizeOf259
 v66:=Tryz.zeroValue259
 t70:=Tryz.underlying263
 a70:=Tryz.isAgg263
 z70:=Tryz.sizeOf263
 v70:=Tryz.zeroValue263
 t76:=Tryz.underlying277
 a76:=Tryz.isAgg277
 z76:=Tryz.sizeOf277
 v76:=Tryz.zeroValue277
 t77:=Tryz.underlying278
 a77:=Tryz.isAgg278
 z77:=Tryz.sizeOf278
 v77:=Tryz.zeroValue278 }
def zq:Go.Shelf.Ren:=⟨fun | 10=>76 | 6=>140 | n=>n,fun | 22=>45 | 23=>3 | 25=>124 | 3=>3 | 4=>4 | 0=>0 | n=>n,fun | n=>n⟩
theorem Jr : Go.Proofs.SlLaysH.n10 Tryz.prog zq := {
 mixed:=by kernel_rfl
 f6:=⟨Tryz.f140.name,by decide,Tryz.func140.trans (congrArg some (by kernel_rfl))⟩
 f10:=⟨Tryz.f76.name,by decide,Tryz.func76.trans (congrArg some (by kernel_rfl))⟩
 t0:=Tryz.underlying0
 a0:=Tryz.isAgg0
 z0:=Tryz.sizeOf0
 v0:=Tryz.zeroValue0
 t3:=Tryz.underlying3
 a3:=Tryz.isAgg3
 z3:=Tryz.sizeOf3
 v3:=Tryz.zeroValue3
 t4:=Tryz.underlying4
 a4:=Tryz.isAgg4
 z4:=Tryz.sizeOf4
 v4:=Tryz.zeroValue4
 t22:=Tryz.underlying45
 a22:=Tryz.isAgg45
 z22:=Tryz.sizeOf45
 v22:=Tryz.zeroValue45
 a23:=Tryz.isAgg3
 z23:=Tryz.sizeOf3
 t25:=Tryz.underlying124
 a25:=Tryz.isAgg124
 z25:=Tryz.sizeOf124
 v25:=Tryz.zeroValue124 }

theorem AZ (l:List Bx) (i j gb b off n c:Nat) (hi:i<l.length) (hj:j<l.length) (W:World) (hbox:W.cell? ⟨gb,0,none⟩=some (.slice (some ⟨b,off,none⟩) l.length c)) (hc:aJ dP W b off l) :
  Calls Tryz.prog 74 #[.int .i64 i,.int .i64 j,.pointer (some ⟨gb,0,none⟩)] W fun e w'=>e = .returned (.int .i64 (Lib.compareInt (bG l i).1.1 (bG l j).1.1))∧w'=W.drew:=by
 obtain ⟨x0,-⟩:=hc.box hi;obtain ⟨y0,-⟩:=hc.box hj;have hbl:=hc.lt;have hi':(i:Int)<(l.length:Int):=by omega
 have hj':(j:Int)<(l.length:Int):=by omega
 have HC:Hid (∀ x y w,Calls Tryz.prog 75 #[.int .i64 x,.int .i64 y] w fun e w'=>e = .returned (.int .i64 (Lib.compareInt x y))∧w'=w):=kR;have hRd:Hid (∀ x y,Lib.compareInt x y=Lib.compareInt x y):=fun _ _=>rfl
 generalize (bG l i).1.1=x at *
 generalize (bG l j).1.1=y at *
 have HRZ:=hid (HC.out x y);generalize Lib.compareInt x y=z at *
 replace HC:=HRZ;clear HRZ hRd;obtain ⟨wd,hwd⟩:∃ wd,wd=W.drew:=⟨_,rfl⟩;have b0:wd.cell? ⟨gb,0,none⟩=some (.slice (some ⟨b,off,none⟩) l.length c):=by rw [hwd];exact hbox
 have x1:wd.cell? ⟨b,off+i*4,none⟩=some (.int .i64 x):=by rw [hwd];exact x0
 have y1:wd.cell? ⟨b,off+j*4,none⟩=some (.int .i64 y):=by rw [hwd];exact y0
 have HWD:=hid hwd;clear hc x0 y0 hwd hbox
 go_enter Tryz.func74,Tryz.ntmps74
 go_upto_region 1 with fail
 refine wp_region_noPanic ?_;refine au (S:=(S2 (fun w'=>w'=wd))) (T:=(fun _=>0)) (by kernel_rfl) (aC HWD.out.symm) (fun hH=>?_);have hWr1:aH (S2 (fun w'=>w'=wd)):=aK _;refine dn [(0,6),(1,7),(2,8),(3,9),(4,10),(5,11),(6,12),(7,13),(8,14),(9,15),(10,16),(11,17)] 2 0 0 (L':=?Lr1_1) hWr1 hH ?hyr1_1 ?_
 case hyr1_1=>((iterate 12 apply dA;rfl;kernel_rfl;intro w' hSw;replace hSw:=aA hSw;(try dsimp only at hSw);have q0:=hSw;subst q0;(try simp only [sB,sC]);go_simp;(try with_reducible rfl));exact dw)
 simp only [sB,sC];refine U1 12 0 rfl (fun K hK=>?_);go_simp
 (go_at_call 75;refine (HC.out _).mono ?_;rintro e wn ⟨rfl,rfl⟩)
 refine hK.out _ _ ?hsr1_13 (fun hH2=>?hrr1_13)
 case hsr1_13=>exact aC (by have hG:=hH;replace hG:=aA hG;(try dsimp only at hG);have q0:=hG;exact q0)
 clear hK K hH;have hH:=hH2;clear hH2
 try simp only [Act.put,sA,sB,sC]
 refine Ut 13 5 0 0 0 (v:=?vr1_14) rfl hWr1 hH ?hyr1_14 ?_
 case hyr1_14=>(intro w' hSw;clear hSw;go_simp;try (with_reducible rfl))
 simp only [sB,sC];refine ak (by kernel_rfl) ?_ _ _;refine NoPanic.normal ?_;replace hH:=aA hH
 (try dsimp only at hH)
 have q0:=hH;clear hH hWr1;go_wp2
 go_returns
 exact ⟨rfl,rfl⟩

theorem AU (l:List Bx) (i j gb gi b off c:Nat) (hi:i<l.length) (hj:j<l.length) (W:World) (hbox:W.cell? ⟨gb,0,none⟩=some (.slice (some ⟨b,off,none⟩) l.length c)) (hgi:W.cell? ⟨gi,0,none⟩=some (.int .i64 j)) (hc:aJ dP W b off l) :
  Calls Tryz.prog 77 #[.int .i64 i,.pointer (some ⟨gb,0,none⟩),.pointer (some ⟨gi,0,none⟩)] W fun e w'=>e = .returned (.bool (decide ((bG l i).2.1<(bG l j).1.1)))∧w'=W.drew:=by
 obtain ⟨-,-,x0,-⟩:=hc.box hi;obtain ⟨y0,-⟩:=hc.box hj;have hbl:=hc.lt;have hi':(i:Int)<(l.length:Int):=by omega
 have hj':(j:Int)<(l.length:Int):=by omega
 generalize (bG l i).2.1=x at *
 generalize (bG l j).1.1=y at *
 obtain ⟨wd,hwd⟩:∃ wd,wd=W.drew:=⟨_,rfl⟩;have b0:wd.cell? ⟨gb,0,none⟩=some (.slice (some ⟨b,off,none⟩) l.length c):=by rw [hwd];exact hbox
 have b1:wd.cell? ⟨gi,0,none⟩=some (.int .i64 j):=by rw [hwd];exact hgi
 have x1:wd.cell? ⟨b,off+i*4+2,none⟩=some (.int .i64 x):=by rw [hwd];exact x0
 have y1:wd.cell? ⟨b,off+j*4,none⟩=some (.int .i64 y):=by rw [hwd];exact y0
 have HWD:=hid hwd;clear hc x0 y0 hwd hbox hgi
 go_enter Tryz.func77,Tryz.ntmps77
 go_upto_region 1 with fail
 refine wp_region_noPanic ?_;refine au (S:=(S2 (fun w'=>w'=wd))) (T:=(fun _=>0)) (by kernel_rfl) (aC HWD.out.symm) (fun hH=>?_);have hWr2:aH (S2 (fun w'=>w'=wd)):=aK _;refine dn [(0,5),(1,6),(2,7),(3,8),(4,9),(5,10),(6,11),(7,12),(8,13),(9,14),(10,15),(11,16),(12,17),(13,4)] 0 0 0 (L':=?Lr2_1) hWr2 hH ?hyr2_1 ?_
 case hyr2_1=>((iterate 14 apply dA;rfl;kernel_rfl;intro w' hSw;replace hSw:=aA hSw;(try dsimp only at hSw);have q0:=hSw;subst q0;(try simp only [sB,sC]);go_simp;(try with_reducible rfl));exact dw)
 simp only [sB,sC];refine ak (by kernel_rfl) ?_ _ _;refine NoPanic.normal ?_;replace hH:=aA hH
 (try dsimp only at hH)
 have q0:=hH;clear hH hWr2;go_wp2
 go_returns
 exact ⟨rfl,rfl⟩
theorem Ez (b c:Nat) (x y:Int) (W:World) (h0:W.cell? ⟨b,0,none⟩=some (.int .i64 x)) (h1:W.cell? ⟨b,1,none⟩=some (.int .i64 y)) :
  Calls Tryz.prog 80 #[.slice (some ⟨b,0,none⟩) 2 c] W fun e w'=>e = .returned (.int .i64 (if x=0 then y else x))∧w'=W:=by
 have hbl:=lt_of_cell h0
 go_enter Tryz.func80,Tryz.ntmps80
 go_wp2
 go_loopw [8] (fun j wr=>∃ k:Nat,k≤2∧j = .int .i64 k∧(1≤k→x=0)∧(2≤k→y=0)∧wr=W) (fun j _=>2-(intOf j).toNat)
 case atStart=>exact ⟨0,by omega,rfl,by omega,by omega,rfl⟩
 case round =>
  obtain ⟨k,hk,rfl,hx,hy,rfl⟩:=hrel;have tri:k=0∨k=1∨k=2:=by omega
  rcases tri with rfl | rfl | rfl
  ·by_cases hz : x = 0
   ·subst hz;clear hx hy;go_wp2;go_roundw
    case rel=>exact ⟨1,by omega,rfl,fun _=>by simp,by omega,by simp⟩
    case measure=>simp [intOf]
   ·have hne : (x != 0) = true := by simp [hz]
    clear hx hy;go_wp2
    go_returns
    exact ⟨by simp [hz],rfl⟩
  ·obtain rfl := hx (by omega)
   by_cases hz:y=0
   ·subst hz;clear hx hy;go_wp2;go_roundw
    case rel=>exact ⟨2,by omega,rfl,fun _=>by simp,fun _=>by simp,by simp⟩
    case measure=>simp [intOf]
   ·have hne : (y != 0) = true := by simp [hz]
    clear hx hy;go_wp2
    go_returns
    exact ⟨by simp,rfl⟩
  ·obtain rfl := hx (by omega);obtain rfl:=hy (by omega);clear hx hy;go_wp2
   go_returns
   exact ⟨by simp,rfl⟩

def bW:Lay (Nat × Nat):=⟨fun p=>[.int .i64 p.1,.int .i64 p.2],2,fun _=>rfl,fun x v hv=>by simp at hv;rcases hv with rfl | rfl <;> rfl,by omega⟩
def jc (p q:Nat × Nat):Int:=if Lib.compareInt p.1 q.1=0 then Lib.compareInt p.2 q.2 else Lib.compareInt p.1 q.1
theorem BU (p q:Nat × Nat) (W:World):Calls Tryz.prog 79 #[.agg #[.int .i64 p.1,.int .i64 p.2],.agg #[.int .i64 q.1,.int .i64 q.2]] W fun e w'=>e = .returned (.int .i64 (jc p q))∧∃ k os,w'=grow (W.drewN k) os:=by
 have HZ:Hid (jc p q=if Lib.compareInt p.1 q.1=0 then Lib.compareInt p.2 q.2 else Lib.compareInt p.1 q.1):=rfl;have HC1:=hid (kR (p.1:Int) (q.1:Int));have HC2:=hid (kR (p.2:Int) (q.2:Int));generalize jc p q=Z at *
 generalize Lib.compareInt (p.1:Int) (q.1:Int)=r at *
 generalize Lib.compareInt (p.2:Int) (q.2:Int)=s at *
 obtain ⟨x1,hx1⟩:∃ z:Int,z=p.1:=⟨_,rfl⟩;obtain ⟨x2,hx2⟩:∃ z:Int,z=p.2:=⟨_,rfl⟩;obtain ⟨y1,hy1⟩:∃ z:Int,z=q.1:=⟨_,rfl⟩;obtain ⟨y2,hy2⟩:∃ z:Int,z=q.2:=⟨_,rfl⟩;rw [← hx1,← hx2,← hy1,← hy2];rw [← hx1,← hy1] at HC1;rw [← hx2,← hy2] at HC2;clear hx1 hx2 hy1 hy2;obtain ⟨wd,hwd⟩:∃ wd,wd=((W.alloc (.cells #[.int .i64 x1,.int .i64 x2] 72)).alloc (.cells #[.int .i64 y1,.int .i64 y2] 72)).drew:=⟨_,rfl⟩;have a0:wd.cell? ⟨W.heap.size,0,none⟩=some (.int .i64 x1):=by rw [hwd];go_simp
 have a1:wd.cell? ⟨W.heap.size,1,none⟩=some (.int .i64 x2):=by rw [hwd];go_simp
 have a2:wd.cell? ⟨W.heap.size+1,0,none⟩=some (.int .i64 y1):=by rw [hwd];go_simp
 have a3:wd.cell? ⟨W.heap.size+1,1,none⟩=some (.int .i64 y2):=by rw [hwd];go_simp
 have HWD:=hid hwd;clear hwd
 go_enter Tryz.func79,Tryz.ntmps79
 go_upto_region 1 with fail
 refine wp_region_noPanic ?_;refine au (S:=(S2 (fun w'=>w'=wd))) (T:=(fun j=>[0,0,0,0,0,0,0,0,0,0,1].getD j 0)) (by kernel_rfl) (aC HWD.out.symm) (fun hH=>?_);have hWr3:aH (S2 (fun w'=>w'=wd)):=aK _;refine dn [(0,5),(1,6),(2,7),(3,8),(5,10),(6,11),(7,12),(8,13)] 5 0 0 (L':=?Lr3_1) hWr3 hH ?hyr3_1 ?_
 case hyr3_1=>((iterate 8 apply dA;rfl;kernel_rfl;intro w' hSw;replace hSw:=aA hSw;(try dsimp only at hSw);have q0:=hSw;subst q0;(try simp only [sB,sC]);go_simp;(try with_reducible rfl));exact dw)
 simp only [sB,sC];refine U1 4 0 rfl (fun K hK=>?_);go_simp
 (go_at_call 75;refine (HC1.out _).mono ?_;rintro e wn ⟨rfl,rfl⟩)
 refine hK.out _ _ ?hsr3_9 (fun hH2=>?hrr3_9)
 case hsr3_9=>exact aC (by have hG:=hH;replace hG:=aA hG;(try dsimp only at hG);have q0:=hG;exact q0)
 clear hK K hH;have hH:=hH2;clear hH2
 try simp only [Act.put,sA,sB,sC]
 refine U1 9 0 rfl (fun K hK=>?_);go_simp
 (go_at_call 75;refine (HC2.out _).mono ?_;rintro e wn ⟨rfl,rfl⟩)
 refine hK.out _ _ ?hsr3_10 (fun hH2=>?hrr3_10)
 case hsr3_10=>exact aC (by have hG:=hH;replace hG:=aA hG;(try dsimp only at hG);have q0:=hG;exact q0)
 clear hK K hH;have hH:=hH2;clear hH2
 try simp only [Act.put,sA,sB,sC]
 refine U1 10 1 rfl (fun K hK=>?_);have hG:=hH;replace hG:=aA hG;(try dsimp only at hG);have q0:=hG;subst q0;go_simp;refine hK.out _ _ ?hsr3_11 (fun hH2=>?hrr3_11)
 case hsr3_11=>exact dY
 clear hK K hH;have hH:=hH2;clear hH2
 try simp only [Act.put,sA,sB,sC]
 refine U1 11 1 rfl (fun K hK=>?_);go_simp
 (go_at_call 80;refine (Ez _ _ r s _ (by go_simp) (by go_simp)).mono ?_;rw [← HZ.out];rintro e wn ⟨rfl,rfl⟩)
 refine hK.out _ _ ?hsr3_12 (fun hH2=>?hrr3_12)
 case hsr3_12=>exact dY
 clear hK K hH;have hH:=hH2;clear hH2
 try simp only [Act.put,sA,sB,sC]
 refine Ut 12 4 0 1 1 (v:=?vr3_13) rfl hWr3 hH ?hyr3_13 ?_
 case hyr3_13=>(intro w' hSw;clear hSw;go_simp;try (with_reducible rfl))
 simp only [sB,sC];refine ak (by kernel_rfl) ?_ _ _;refine NoPanic.normal ?_;clear hH;go_wp2
 go_returns
 refine ⟨rfl,?_⟩;exact ⟨1,_,by rw [alloc_eq_grow,alloc_eq_grow,alloc_eq_grow];show grow (grow (grow W.drew _) _) _=_;rw [grow_grow,grow_grow];rfl⟩
end
end Go.Proofs.YtokgmcomgflloaaGreat
