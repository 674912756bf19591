/- Parts of a proof: contracts and laws. -/
import Derived.Test.YtokgmcomgflloaaGreatQX30
import Derived.Test.YtokgmcomgflloaaGreatQX04
import Derived.Test.YtokgmcomgflloaaGreatQX19
set_option maxRecDepth 100000
set_option maxHeartbeats 16000000
namespace Go.Proofs.YtokgmcomgflloaaGreat
section
set_option linter.unusedVariables false
set_option linter.unusedSimpArgs false
open Go.RowKit
variable {w0 w w':World}

structure Gp (w : World) (gu gs : Nat) (up : List Nat) : Prop where
 cu:w.cell? ⟨gu,0,none⟩=some (.slice (some ⟨gs,0,none⟩) up.length up.length)
 cs:∀ i,i<up.length→w.cell? ⟨gs,i,none⟩=some (.int .i64 (gU up i:Nat))
 fr:∀ j,w.frozen? ⟨gs,j,none⟩=false
 lt:gs<w.heap.size
 ne:gu≠gs
 big:up.length≤1000000
theorem Gp.out {gu gs:Nat} {up:List Nat} {D:Nat→Prop} (h:Gp w gu gs up) (o:Out D w w') (n1:¬ D gu) (n2:¬ D gs):Gp w' gu gs up :=
 ⟨o.cell h.cu n1,fun i hi=>o.cell (h.cs i hi) n2,fun j=>(World.frozen?_of_block (o.block gs h.lt n2)).trans (h.fr j),Nat.lt_of_lt_of_le h.lt o.size,h.ne,h.big⟩
theorem Gp.set {gu gs:Nat} {up:List Nat} (h:Gp w gu gs up) {i:Nat} (hi:i<up.length) (v:Nat):Gp (w.setCell ⟨gs,i,none⟩ (.int .i64 (v:Nat))) gu gs (up.set i v):=by
 refine ⟨by rw [List.length_set];exact aW (fun e=>h.ne e.symm) h.cu,fun j hj=>?_,dL h.fr _ _,by rw [World.size_setCell];exact h.lt,h.ne,by rw [List.length_set];exact h.big⟩;rw [List.length_set] at hj;rw [fI hi]
 by_cases e:j=i
 ·subst e;rw [if_pos rfl];exact jh (h.cs j hj)
 ·rw [if_neg e];exact dS (h.cs j hj) (fun q=>e q.symm)

structure jM (w : World) (gu gs n : Nat) (f : Nat → Nat) (P : Nat → Prop) (wr : World) : Prop where
 ex:∃ up,up.length=n∧Gp wr gu gs up∧yL up f∧∀ j,P j→gU up j=f j
 out:Out (fun k=>k=gs) w wr
theorem jM.keep {gu gs n:Nat} {f:Nat→Nat} {P:Nat→Prop} {wr w':World} (h:jM w gu gs n f P wr) (hb:Below wr.heap.size wr w'):jM w gu gs n f P w':=by
 obtain ⟨⟨up,h1,h2,h3,h4⟩,o⟩:=h;exact ⟨⟨up,h1,h2.out (Out.below (D:=fun _=>False) hb) (fun q=>q) (fun q=>q),h3,h4⟩,o.trans (Out.below (D:=fun _=>False) hb) (fun i _ q=>q.elim)⟩
def Hz (gu gs n:Nat) (f:Nat→Nat) (P:Nat→Prop) (z:Nat) (w:World) (e:Ending) (w':World):Prop:=e = .returned (.int .i64 (z:Nat))∧jM w gu gs n f P w'
theorem jD {gu gs n:Nat} {f:Nat→Nat} {P:Nat→Prop} (h:jM w gu gs n f P w) {i:Nat} (hi:i<n) :
  Calls Tryz.prog 109 #[.int .i64 (i:Nat),.pointer (some ⟨gu,0,none⟩)] w (Hz gu gs n f P (f i) w):=by
 obtain ⟨z,hz⟩:∃ z,z=f i:=⟨_,rfl⟩;rw [← hz];have HK0:Hid (jM w gu gs n f P w∧i<n∧f i=z):=⟨h,hi,hz.symm⟩;clear h hi hz
 go_enter Tryz.func109,Tryz.ntmps109
 go_wp2
 go_loopw [0] (fun q wr=>∃ j:Nat,q = .int .i64 j∧Hid (jM w gu gs n f P wr∧j<n∧f j=z)) (fun q _=>(intOf q).toNat)
 case atStart=>exact ⟨i,rfl,HK0⟩
 case round =>
  clear HK0;obtain ⟨j,rfl,HK⟩:=hrel;obtain ⟨wo,rfl⟩:∃ wo:World,wo=wr:=⟨_,rfl⟩;obtain ⟨⟨⟨up,hl,hU,hf,hP⟩,hO⟩,hj,hz⟩:=HK.out;have HP:=hid hP;clear hP;have c0:=hU.cu;rw [hl] at c0;have hbig:=hU.big;rw [hl] at hbig;obtain ⟨a,ha⟩:∃ a,a=gU up j:=⟨_,rfl⟩;have ca:=hU.cs j (by omega);rw [← ha] at ca;have haj:a≤j:=by rw [ha];exact hf.le j
  obtain ⟨b,hb⟩:∃ b,b=gU up a:=⟨_,rfl⟩;have cb:=hU.cs a (by omega);rw [← hb] at cb;have hba:b≤a:=by rw [hb];exact hf.le a
  have hj':(j:Int)<(n:Int):=by omega
  have ha':(a:Int)<(n:Int):=by omega
  have lu:=lt_of_cell c0;have ls:=lt_of_cell ca;have HF:=hid hf;have HU:=hid hU;have HA:=hid ha;have HB:=hid hb;have HL:=hid hl;have HZ:=hid hz;have HO:=hid hO;clear hf hU ha hb hl hz hO
  by_cases e:a=j
  ·have HE := hid e;have hfz:f j=j:=HF.out.fix j (by rw [← HA.out];exact e);have HJ:Hid (z=j):=hid (by rw [← HZ.out,hfz]);have HR:Hid (jM w gu gs n f P wo):=hid HK.out.1;have e':(a:Int)=(j:Int):=by omega
   clear e hfz HK;go_wp2
   go_returns
   exact ⟨by rw [HJ.out];rfl,HR.out⟩
  ·have e' : ¬ (a : Int) = (j : Int) := by omega
   go_upto_region 2 with fail
   have C0:=hid c0;have CA:=hid ca;have CB:=hid cb;have CF:=hid HU.out.fr;clear c0 ca cb;refine wp_region_noPanic ?_;refine au (S:=(S2 (fun w'=>w'.cell? ⟨gu,0,none⟩=some (.slice (some ⟨gs,0,none⟩) n n)∧w'.cell? ⟨gs,j,none⟩=some (.int .i64 (a:Nat))∧w'.cell? ⟨gs,a,none⟩=some (.int .i64 (b:Nat))∧(∀ j,w'.frozen? ⟨gs,j,none⟩=false)))) (T:=(fun j=>[0,0,0,0,0,0,0,0,0,0,1].getD j 0)) (by kernel_rfl) (aM ⟨C0.out,CA.out,CB.out,CF.out⟩) (fun hH=>?_);have hWr1:aO (S2 (fun w'=>w'.cell? ⟨gu,0,none⟩=some (.slice (some ⟨gs,0,none⟩) n n)∧w'.cell? ⟨gs,j,none⟩=some (.int .i64 (a:Nat))∧w'.cell? ⟨gs,a,none⟩=some (.int .i64 (b:Nat))∧(∀ j,w'.frozen? ⟨gs,j,none⟩=false))):=aR _;refine gH [(0,10),(1,11),(2,12),(3,13),(4,14),(5,15),(6,16),(7,17),(8,18),(9,19)] 1 0 0 (L':=?Lr1_1) hWr1 hH ?yr1_1 ?_
   case yr1_1=>((iterate 10 apply gK;rfl;kernel_rfl;intro w' hSw;replace hSw:=aC hSw;(try dsimp only at hSw);have q0:=hSw.1;have q1:=hSw.2.1;have q2:=hSw.2.2.1;have q3:=hSw.2.2.2;(try simp only [sB,sC]);go_simp;(try with_reducible rfl));exact gF)
   simp only [sB,sC];refine U1 10 1 rfl (fun K hK=>?_);have hG:=hH;replace hG:=aC hG;(try dsimp only at hG);have q0:=hG.1;have q1:=hG.2.1;have q2:=hG.2.2.1;have q3:=hG.2.2.2;go_simp;refine hK.out _ _ (fZ) (fun hH2=>?_);clear hK K hH
   rename _=>hH
   try simp only [Act.put,sA,sB,sC]
   clear hG q0 q1 q2 q3;refine ak (by kernel_rfl) ?_ _ _;refine NoPanic.normal ?_;clear hWr1 hH;generalize hwB:World.drew _=wB;have HU2:Hid (Gp wB gu gs (up.set j b)):=hid (by rw [← hwB];exact (HU.out.set (by rw [HL.out];exact hj) b).out (Out.below (D:=fun _=>False) ((Below.refl _ _).drew)) (fun q=>q) (fun q=>q));have HO2:Hid (Out (fun k=>k=gs) w wB):=hid (by rw [← hwB];exact (HO.out.setCell (p:=⟨gs,j,none⟩) (.inr rfl) _).drew);have HF2:Hid (yL (up.set j b) f):=hid (by rw [HB.out,HA.out];exact HF.out.halve (by rw [HL.out];exact hj));have HZ2:Hid (f b=z):=hid (by rw [HB.out,HF.out.step,HA.out,HF.out.step,HZ.out]);have d0:=HU2.out.cu;rw [List.length_set,HL.out] at d0;have da:=HU2.out.cs j (by rw [List.length_set,HL.out];exact hj);rw [fI (by rw [HL.out];exact hj),if_pos rfl] at da;have lu2:=lt_of_cell d0;have ls2:=lt_of_cell da
   have HP2:Hid (∀ q,P q→gU (up.set j b) q=f q):=hid (fun q hq=>by
    rw [fI (by rw [HL.out];exact hj)]
    by_cases e:q=j
    ·subst e;rw [if_pos rfl,HB.out,HA.out,HP.out q hq];exact HF.out.ok.2 q
    ·rw [if_neg e]
     exact HP.out q hq)
   have HK2:Hid (jM w gu gs n f P wB∧b<n∧f b=z):=⟨⟨⟨_,by rw [List.length_set];exact HL.out,HU2.out,HF2.out,HP2.out⟩,HO2.out⟩,by omega,HZ2.out⟩;clear hwB C0 CA CB CF HK HU HU2 HO HO2 HF HF2 HZ HZ2 HA HB HL HP HP2;go_wp2;go_roundw
   case rel=>exact ⟨b,rfl,HK2⟩
   case measure=>simp [intOf];omega
theorem jM.here {gu gs n:Nat} {f:Nat→Nat} {P:Nat→Prop} {wr:World} (h:jM w gu gs n f P wr):jM wr gu gs n f P wr:=⟨h.ex,Out.refl _ _⟩
theorem jM.then {gu gs n:Nat} {f f':Nat→Nat} {P P':Nat→Prop} {a b:World} (h:jM w gu gs n f P a) (k:jM a gu gs n f' P' b):jM w gu gs n f' P' b:=⟨k.ex,h.out.trans k.out (fun i _ q=>q)⟩

structure Hr (w : World) (gl gr gu gs n bl off c : Nat) (mv : Nat → Bool) : Prop where
 cl:w.cell? ⟨gl,0,none⟩=some (.slice (some ⟨bl,off,none⟩) n c)
 cr:w.cell? ⟨gr,0,none⟩=some (.func (.func 109) #[] #[.pointer (some ⟨gu,0,none⟩)])
 cm:∀ j,j<n→∃ m:Int,w.cell? ⟨bl,off+j*13+6,none⟩=some (.int .i64 m)∧(mv j=true↔m≠0)
 ne:gl≠gs∧gr≠gs∧bl≠gs
theorem Hr.out {gl gr gu gs n bl off c:Nat} {mv:Nat→Bool} (h:Hr w gl gr gu gs n bl off c mv) (o:Out (fun k=>k=gs) w w'):Hr w' gl gr gu gs n bl off c mv :=
 ⟨o.cell h.cl h.ne.1,o.cell h.cr h.ne.2.1,fun j hj=>by obtain ⟨m,h1,h2⟩:=h.cm j hj;exact ⟨m,o.cell h1 h.ne.2.2,h2⟩,h.ne⟩
theorem Es {mv:Nat→Bool} {f:Nat→Nat} {i k:Nat} (h:¬ (mv i=true∧mv k=true)):uD mv f (i,k)=f:=by unfold uD;rw [if_neg h]
theorem oV {gl gr gu gs n bl off c:Nat} {mv:Nat→Bool} {f:Nat→Nat} (hJ:Hr w gl gr gu gs n bl off c mv) (h:jM w gu gs n f (fun _=>False) w) {i k:Nat} (hi:i<n) (hk:k<n) (hc:n≤c) (hn:n≤1000000) :
  Calls Tryz.prog 110 #[.int .i64 (i:Nat),.int .i64 (k:Nat),.pointer (some ⟨gl,0,none⟩),.pointer (some ⟨gr,0,none⟩),.pointer (some ⟨gu,0,none⟩)] w (fun e w'=>e = .returned (.tuple #[])∧jM w gu gs n (uD mv f (i,k)) (fun _=>False) w'):=by
 obtain ⟨mi,ci,hmi⟩:=hJ.cm i hi;obtain ⟨mk,ck,hmk⟩:=hJ.cm k hk;have cl:=hJ.cl;have cr:=hJ.cr;have hi':(i:Int)<(n:Int):=by omega
 have hk':(k:Int)<(n:Int):=by omega
 have ll:=lt_of_cell cl;have lb:=lt_of_cell ci;have lr:=lt_of_cell cr;have HI:=hid hi;have HI2:=hid hk;have HNE:Hid (¬ gr=gs):=hJ.ne.2.1;have HR:=hid h;have HM1:=hid hmi;have HM2:=hid hmk;clear hJ h hmi hmk hi hk
 go_enter Tryz.func110,Tryz.ntmps110
 by_cases z1:mi=0
 ·have HJ := hid (Es (mv := mv) (f := f) (i := i) (k := k) (fun q => HM1.out.1 q.1 z1));subst z1;clear cr;go_wp2
  go_returns
  exact ⟨by simp,by rw [HJ.out];exact HR.out⟩
 ·by_cases z2 : mk = 0
  ·have HJ := hid (Es (mv := mv) (f := f) (i := i) (k := k) (fun q => HM2.out.1 q.2 z2));subst z2;clear cr;go_wp2
   go_returns
   exact ⟨by simp,by rw [HJ.out];exact HR.out⟩
  ·have HMV : Hid (mv i = true ∧ mv k = true) := hid ⟨HM1.out.2 z1, HM2.out.2 z2⟩;have hb1:(mi == 0)=false:=by simpa using z1
   have hb2:(mk == 0)=false:=by simpa using z2
   go_upto_region 1 with fail
   have CR:=hid cr;clear cl cr ci ck HM1 HM2 z1 z2 hb1 hb2;refine wp_region_noPanic ?_;refine au (S:=(S2 (fun w'=>w'.cell? ⟨gr,0,none⟩=some (.func (.func 109) #[] #[.pointer (some ⟨gu,0,none⟩)])∧jM w gu gs n f (fun _=>False) w'))) (T:=(fun _=>0)) (by kernel_rfl) (aM ⟨CR.out,HR.out.keep ((Below.refl _ _).drew)⟩) (fun hH=>?_);have hWr2:aO (S2 (fun w'=>w'.cell? ⟨gr,0,none⟩=some (.func (.func 109) #[] #[.pointer (some ⟨gu,0,none⟩)])∧jM w gu gs n f (fun _=>False) w')):=aR _;refine gH [(0,21),(1,22),(3,24),(4,25)] 4 0 0 (L':=?Lr2_1) hWr2 hH ?yr2_1 ?_
   case yr2_1=>((iterate 4 apply gK;rfl;kernel_rfl;intro w' hSw;replace hSw:=aC hSw;(try dsimp only at hSw);have q0:=hSw.1;have q1:=hSw.2;(try simp only [sB,sC]);go_simp;(try with_reducible rfl));exact gF)
   simp only [sB,sC];refine U1 2 0 rfl (fun K hK=>?_);have hG:=hH;replace hG:=aC hG;(try dsimp only at hG);have q0:=hG.1;have q1:=hG.2;go_simp
   (go_at_call 109;refine (jD (jM.here q1) HI.out).mono ?_;rintro e wn ⟨rfl,hR⟩)
   refine hK.out _ _ (aM ⟨hR.out.cell q0 HNE.out,q1.then hR⟩) (fun hH2=>?_);clear hK K hH
   rename _=>hH
   try simp only [Act.put,sA,sB,sC]
   clear hG q0 q1 hR;refine U1 5 0 rfl (fun K hK=>?_);have hG:=hH;replace hG:=aC hG;(try dsimp only at hG);have q0:=hG.1;have q1:=hG.2;go_simp
   (go_at_call 109;refine (jD (jM.here q1) HI2.out).mono ?_;rintro e wn ⟨rfl,hR⟩)
   refine hK.out _ _ (aM ⟨hR.out.cell q0 HNE.out,q1.then hR⟩) (fun hH2=>?_);clear hK K hH
   rename _=>hH
   try simp only [Act.put,sA,sB,sC]
   clear hG q0 q1 hR;refine gH [(6,0),(7,1)] 0 0 0 (L':=?Lr2_7) hWr2 hH ?yr2_7 ?_
   case yr2_7=>((iterate 2 apply gK;rfl;kernel_rfl;intro w' hSw;clear hSw;(try simp only [sB,sC]);go_simp;(try with_reducible rfl));exact gF)
   simp only [sB,sC];refine ak (by kernel_rfl) ?_ _ _;refine NoPanic.normal ?_;clear hWr2;replace hH:=aC hH
   (try dsimp only at hH)
   have t0:=hH.1;have t1:=hH.2;obtain ⟨up,hl,hU,hf,-⟩:=t1.ex;have HO:=hid t1.out;obtain ⟨x,hx⟩:∃ x,x=f i:=⟨_,rfl⟩;obtain ⟨y,hy⟩:∃ y,y=f k:=⟨_,rfl⟩;rw [← hx,← hy];have hx1:x<n:=by have:=hf.ok.1.le i;have:=HI.out;omega
   have hy1:y<n:=by have:=hf.ok.1.le k;have:=HI2.out;omega
   obtain ⟨p,hp⟩:∃ p,p=max x y:=⟨_,rfl⟩;obtain ⟨q,hq⟩:∃ q,q=min x y:=⟨_,rfl⟩;have hp1:p<n:=by omega
   have hp2:(p:Int)<(n:Int):=by omega
   have c0:=hU.cu;rw [hl] at c0;have cp:=hU.cs p (by omega);have cf:=hU.fr;have lu:=lt_of_cell c0;have ls:=lt_of_cell cp
   have hrmax:∀ (ts:Array TypeId) (t:TypeId) (w:World),(Builtin.max_ ts t #[.int .i64 (x:Int),.int .i64 (y:Int)]).run Tryz.prog w = .ok (.int .i64 (p:Int)) w:=fun ts t w=>by
    rw [run_max_int2]
    congr 2
    omega
   have hrmin:∀ (ts:Array TypeId) (t:TypeId) (w:World),(Builtin.min_ ts t #[.int .i64 (x:Int),.int .i64 (y:Int)]).run Tryz.prog w = .ok (.int .i64 (q:Int)) w:=fun ts t w=>by
    rw [run_min_int2]
    congr 2
    omega
   have HU:=hid hU;have HL:=hid hl;have HJ:=hid (hf.join (mv:=mv) (p:=(i,k)) HMV.out (by rw [hl];exact HI.out) (by rw [hl];exact HI2.out));dsimp only at HJ;rw [← hx,← hy,← hp,← hq] at HJ;clear hU hl hf hx hy hp hq t0 t1;go_wp2
   go_returns
   exact ⟨by simp,⟨⟨_,by rw [List.length_set];exact HL.out,HU.out.set (by rw [HL.out];exact hp1) q,HJ.out,fun _ q=>q.elim⟩,HO.out.setCell (p:=⟨gs,p,none⟩) (.inr rfl) _⟩⟩
end
end Go.Proofs.YtokgmcomgflloaaGreat
