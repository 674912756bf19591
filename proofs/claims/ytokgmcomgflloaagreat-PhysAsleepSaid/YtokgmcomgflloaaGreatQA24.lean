/- Parts of a proof: contracts and laws. -/
import Derived.Test.YtokgmcomgflloaaGreatQA20
import Derived.Test.YtokgmcomgflloaaGreatQA23
import Derived.Test.YtokgmcomgflloaaGreatQA08
import Derived.Test.YtokgmcomgflloaaGreatQA21
import Derived.Test.YtokgmcomgflloaaGreatQA17
import Derived.Test.YtokgmcomgflloaaGreatQA19
import Derived.Test.YtokgmcomgflloaaGreatQA02
import Derived.Test.YtokgmcomgflloaaGreatQA14
set_option maxRecDepth 100000
set_option maxHeartbeats 16000000
namespace Go.Proofs.YtokgmcomgflloaaGreat
section
set_option linter.unusedVariables false
set_option linter.unusedSimpArgs false
open Go.RowKit
variable {w0 w w':World}
theorem nR {L:List BE} {J:List Jt} {C:List Ct} {gx gy st:Int} (h:fJ L J C gx gy st=0):bg L C=0∧bS L J=0∧o7 C C.length=true∧¬ jJ gx gy st:=by
 unfold fJ at h
 by_cases h1:bg L C=0
 ·rw [if_neg (by simpa using h1)] at h
  by_cases h2:bS L J=0
  ·rw [if_neg (by simpa using h2)] at h
   cases h3:o7 C C.length with
   | false=>rw [if_pos h3] at h;omega
   | true =>
    rw [if_neg (by rw [h3];simp)] at h
    by_cases h4:jJ gx gy st
    ·rw [if_pos h4] at h;omega
    ·exact ⟨h1,h2,rfl,h4⟩
  ·rw [if_pos h2] at h;exact absurd h h2
 ·rw [if_pos h1] at h;exact absurd h h1
theorem uK {L:List BE} {J:List Jt} {C:List Ct} {gx gy st:Int} {n:Nat} (hn:n=L.length) (h:fJ L J C gx gy st=0):(∀ x ∈ J,0≤x.a∧x.a<(n:Int)∧0≤x.b∧x.b<(n:Int))∧(∀ x ∈ C,0≤x.a∧x.a<(n:Int)∧0≤x.b∧x.b<(n:Int)):=by
 obtain ⟨h1,h2,-,-⟩:=nR h;subst hn;refine ⟨fun x hx=>?_,fun x hx=>?_⟩
 ·have := nC ((iK h2).2.2 x hx);omega
 ·have := (fV h1).2.2 x hx;unfold fT at this;omega

theorem qP (A:Option Addr) (n c:Nat) (l:List Jt) (w:World) (hS:dW gZ w A n c l) (hl:l.length≤100000):Calls Tryz.prog 42 #[.slice A n c] w fun e w'=>∃ s,e = .returned s∧aU gZ 37 w' w.heap.size s l∧Below w.heap.size w w':=by
 have hcmp:∀ w':World,(binOp .eql 30 (.slice A n c) (.slice none 0 0)).run Tryz.prog w' = .ok (.bool A.isNone) w':=fun w'=>Lib.run_eql_slice_nil w' 30 _ A n c 0 0 Tryz.underlying30
 cases A with
 | none =>
  have hl0:l=[]:=by
   rcases l with _ | ⟨a,r⟩
   ·rfl
   ·obtain ⟨b,off,h,_⟩:=hS.at_ (by simp);cases h
  subst hl0;clear hS
  go_enter Tryz.func42,Tryz.ntmps42
  go_wp2;refine bodyPost_ret (v:=.slice none 0 0) (by simp [results,Tryz.results42,go_sem]) rfl ⟨_,rfl,aU.nil _ _ _ _,Below.refl _ _⟩
 | some ad =>
  have hn:=hS.len;have HS:=hid hS;clear hS;subst hn;have HO:Hid (aU gZ 37 (w.alloc (.cells #[] 37)) w.heap.size (.slice (some ⟨w.heap.size,0,none⟩) 0 0) []):=⟨by simp [fB],.inr ⟨w.heap.size,0,#[],rfl,Nat.le_refl _,heap_alloc_new w _,Nat.le_refl _,Nat.zero_le _,by simp,by simp [fB]⟩⟩;have hb0:Below w.heap.size w (w.alloc (.cells #[] 37)):=by go_grown
  go_enter Tryz.func42,Tryz.ntmps42
  go_wp2_with (at_builtin;refine kC Gz rfl _ _ rfl w.heap.size _ [] rfl HO.out _ _ _ l rfl (HS.out.below hb0) (by first | omega | (simp;omega)) (by first | omega | (simp;omega)) (by simp) ?_;intro v' w1 ho1 hg1 hat;have HO1:=hid ho1;have hb1:=hid (hb0.grown hg1 (by simp) (fun k hk=>(HO.out.lt hk).1));clear ho1 hg1 hat)
  obtain ⟨A',n',c',rfl,-,-⟩:=HO1.out.sl;refine bodyPost_ret (v:=.slice A' n' c') (by simp [results,Tryz.results42,go_sem]) rfl ⟨_,rfl,by simpa using HO1.out,hb1.out⟩
theorem BL.cell {g:Nat} {L:List BE} (h:BL w g L) {k:Nat} (hk:k<L.length) (x:BE) {o:Nat} {v:Value} (ho:o<13) (hx:kQ x=(kQ L[k]).set o v) (hA:x.A=L[k].A∧x.n=L[k].n∧x.c=L[k].c∧x.l=L[k].l):BL (w.setCell ⟨g,k*13+o,none⟩ v) g (L.set k x):=by
 have hlen:∀ y:BE,(kQ y).length=13:=fun _=>rfl
 have hmem:∀ y ∈ L.set k x,∃ z ∈ L,y.A=z.A∧y.n=z.n∧y.c=z.c∧y.l=z.l:=fun y hy=>by
  rcases List.mem_or_eq_of_mem_set hy with q | rfl
  ·exact ⟨y,q,rfl,rfl,rfl,rfl⟩
  ·exact ⟨L[k],List.getElem_mem _,hA⟩
 refine ⟨⟨by rw [World.size_setCell];exact h.cl.lt,fun j hj i u hu=>?_⟩,fun j=>by rw [World.frozen?_setCell];exact h.free j,fun y hy=>?_,fun y hy=>?_⟩
 ·have hj' : j < L.length := by simpa using hj
  show World.cell? _ ⟨g,0+j*13+i,none⟩=some u;rw [Nat.zero_add]
  have hold:∀ m t,(kQ L[j])[m]? = some t→w.cell? ⟨g,j*13+m,none⟩=some t:=fun m t q=>by
   have:=h.cl.at_ j hj' m t q;have this:w.cell? ⟨g,0+j*13+m,none⟩=some t:=this;rwa [Nat.zero_add] at this
  by_cases e:j=k
  ·subst e;have hu:(kQ x)[i]? = some u:=by have hv2:(kQ (L.set j x)[j])[i]? = some u:=hu;rwa [List.getElem_set_self] at hv2
   rw [hx,List.getElem?_set] at hu
   by_cases e2:o=i
   ·subst e2;rw [if_pos rfl,if_pos (by rw [hlen];exact ho)] at hu
    cases hu
    exact nE (hold o _ (List.getElem?_eq_getElem (by rw [hlen];exact ho)))
   ·rw [if_neg e2] at hu;exact iG (hold i u hu) (by omega)
  ·have hu : (kQ L[j])[i]? = some u := by have hv2 : (kQ (L.set k x)[j])[i]? = some u := hu; rwa [List.getElem_set_ne (by omega)] at hv2
   have hi:i<13:=by
    rcases Nat.lt_or_ge i 13 with q | q
    ·exact q
    ·rw [List.getElem?_eq_none (by rw [hlen];exact q)] at hu;cases hu
   exact iG (hold i u hu) (by omega)
 ·obtain ⟨z, hz, e1, e2, e3, e4⟩ := hmem y hy;rw [e1,e2,e3,e4];exact (h.co z hz).setAt (h.ne z hz)
 ·obtain ⟨z, hz, e1, e2, e3, e4⟩ := hmem y hy;rw [e1];exact h.ne z hz

def awB (L:List BE) (j:Nat):Bool:=match L[j]? with | some x=>decide (x.b.mass > 0) && !x.b.asleep | none=>false
def LM (L : List BE) (f : Nat → Nat) : Nat → Nat → Bool
 | 0,_=>false
 | k+1,i=>LM L f k i || (decide (f k=i) && awB L k)
def Md (p:Nat→Bool) (j:Nat) (x:BE):BE:=if x.b.asleep=true∧p j=true then { x with b:={ x.b with asleep:=false,calm:=0 } } else x
def jQ (L:List BE) (f:Nat→Nat):List BE:=L.mapIdx (Md (fun j=>LM L f L.length (f j)))

structure NV (w0 : World) (ga n k : Nat) (L : List BE) (f : Nat → Nat) (wr : World) : Prop where
 cs:∀ i,i<n→wr.cell? ⟨ga,i,none⟩=some (.bool (LM L f k i))
 fr:∀ j,wr.frozen? ⟨ga,j,none⟩=false
 bel:Below w0.heap.size w0 wr
 ge:w0.heap.size≤ga
theorem E9:(Tryz.prog.info? 4).map (fun i=>(i.zero,i.size,i.bytes))=some (some (.bool false),1,1):=by kernel_rfl
theorem uH (n:Nat) (hn:n≤1000000) (w:World):(Instr.makeSlice 163 (.int .i64 (n:Int)) (.int .i64 (n:Int))).run Tryz.prog w = .ok (.slice (some ⟨w.heap.size,0,none⟩) n n) (w.alloc (.cells (List.replicate n (.bool false)).toArray 4)):=by
 obtain ⟨i0,hi,hz0,hz1,hz2⟩:=info_parts E9;have:=run_makeSlice (P:=Tryz.prog) w 163 4 i0 (.bool false) Tryz.underlying163 hi hz0 .i64 .i64 n n (by omega) (Int.le_refl _) (by rw [hz1];omega) (by rw [hz2];omega) (by omega);rw [this,hz1,Int.toNat_natCast,Nat.mul_one]
 have e:madeCells (Value.cells (.bool false)) n=(List.replicate n (Value.bool false)).toArray:=by
  have:=toList_madeCells_one (.bool false) n;rw [show Value.cells (.bool false)=#[.bool false] from rfl,← this]
 rw [e]
theorem NV.keep {ga n k:Nat} {L:List BE} {f:Nat→Nat} {wr w':World} (h:NV w0 ga n k L f wr) (hl:ga<wr.heap.size) (hb:Below wr.heap.size wr w'):NV w0 ga n k L f w' :=
 ⟨fun i hi=>keepCell hb (h.cs i hi),fun j=>(World.frozen?_of_block (hb.block _ hl)).trans (h.fr j),aj hb h.bel,h.ge⟩

structure PI (w0 : World) (g n k : Nat) (L : List BE) (p : Nat → Bool) (M : List BE) (wr : World) : Prop where
 len:M.length=n
 at_:∀ j:Nat,j<n→M[j]? = if j<k then (L[j]?).map (Md p j) else L[j]?
 bl:BL wr g M
 out:Out (fun k=>k=g) w0 wr
theorem EI {g gs n c c':Nat} {L:List BE} {f:Nat→Nat} (hB:BL w g L) (hn:n=L.length) (hG:∀ j,j<n→w.cell? ⟨gs,j,none⟩=some (.int .i64 (f j:Nat))) (hne:g≠gs) (hf:∀ j,j<n→f j<n) (hc:n≤c) (hc':n≤c') (hN:n≤1000000) :
  Calls Tryz.prog 46 #[.slice (some ⟨g,0,none⟩) n c,.slice (some ⟨gs,0,none⟩) n c'] w (fun e w'=>e = .returned (.tuple #[])∧BL w' g (jQ L f)∧Out (fun k=>k=g) w w'):=by
 obtain ⟨rep,hrep⟩:∃ x,x=(List.replicate n (Value.bool false)).toArray:=⟨_,rfl⟩;have hmk:∀ w:World,(Instr.makeSlice 163 (.int .i64 (n:Int)) (.int .i64 (n:Int))).run Tryz.prog w = .ok (.slice (some ⟨w.heap.size,0,none⟩) n n) (w.alloc (.cells rep 4)):=fun w=>by rw [hrep];exact uH n hN w
 obtain ⟨w2,hw2⟩:∃ x,x=w.alloc (.cells rep 4):=⟨_,rfl⟩;obtain ⟨ga,hga⟩:∃ x,x=w.heap.size:=⟨_,rfl⟩;have hb2:Below w.heap.size w w2:=by rw [hw2];exact (Below.refl _ _).alloc (Nat.le_refl _) _
 have h2:w2.heap[ga]? = some (.cells rep 4):=by rw [hw2,hga];exact heap_alloc_new w _
 have HA0:Hid (NV w ga n 0 L f w2):=hid ⟨fun i hi=>by
  unfold World.cell?
  rw [h2,hrep];show (List.replicate n (Value.bool false)).toArray[i]? = _;rw [List.getElem?_toArray,List.getElem?_replicate,if_pos hi]
  rfl,fun j=>by unfold World.frozen?;rw [h2];simp,hb2,by omega⟩
 have HGA:Hid (g<ga∧w.heap.size≤ga∧ga<w2.heap.size):=hid ⟨by rw [hga];exact hB.cl.lt,by omega,(Array.getElem?_eq_some_iff.1 h2).1⟩;have HS2:Hid (w.heap.size≤w2.heap.size):=hid hb2.size;have HB:=hid hB;have HL:=hid hn;have HG:=hid hG;have HF:=hid hf;clear hB hn hG hf hb2 h2 hrep
 go_enter Tryz.func46,Tryz.ntmps46
 go_upto_region 2 with fail
 rw [← hw2,← hga];clear hw2 hga hmk
 go_loopw [13] (fun j wr=>∃ k:Nat,k≤n∧j = .int .i64 k∧Hid (NV w ga n k L f wr∧ga<wr.heap.size)) (fun j _=>n-(intOf j).toNat)
 case atStart=>exact ⟨0,Nat.zero_le _,rfl,hid ⟨HA0.out,HGA.out.2.2⟩⟩
 case round =>
  clear HA0;obtain ⟨k,hk,rfl,HA⟩:=hrel;obtain ⟨wo,rfl⟩:∃ wo:World,wo=wr:=⟨_,rfl⟩
  by_cases hlt:k<n
  ·have hlt' : (k : Int) < (n : Int) := by omega
   have hwk:IntKind.i64.wrap ((k:Int)+1)=(k:Int)+1:=IntWalk.i64_in _ (by omega);have hkL:k<L.length:=by rw [← HL.out];exact hlt
   have hBo:=fI HA.out.1.bel HB.out;obtain ⟨x,hx⟩:∃ x,x=L[k]:=⟨_,rfl⟩;obtain ⟨d0,d1,d2,d3,d4,d5,d6,d7,d8,d9,d10,d11,d12⟩:=bK hBo.cl hkL hx;have HAB:Hid (awB L k=(decide (x.b.mass > 0) && !x.b.asleep)):=hid (by unfold awB;rw [List.getElem?_eq_getElem hkL,← hx]);obtain ⟨⟨px,py,vx,vy,ang,spin,ms,iner,bounce,rub,asl,calm⟩,xA,xn,xc,xl⟩:=x;dsimp only at d0 d1 d2 d3 d4 d5 d6 d7 d8 d9 d10 d11 d12 HAB;have ld:=lt_of_cell d0;obtain ⟨w5,hw5⟩:∃ y,y=wo.alloc (.cells #[.int .i64 px,.int .i64 py,.int .i64 vx,.int .i64 vy,.int .i64 ang,.int .i64 spin,.int .i64 ms,.int .i64 iner,.int .i64 bounce,.int .i64 rub,.slice xA xn xc,.bool asl,.int .i64 calm] 27):=⟨_,rfl⟩;obtain ⟨gb,hgb⟩:∃ y,y=wo.heap.size:=⟨_,rfl⟩;have hb5:Below wo.heap.size wo w5:=by rw [hw5];exact (Below.refl _ _).alloc (Nat.le_refl _) _
   have E6:Hid (w5.cell? ⟨gb,6,none⟩=some (.int .i64 ms)):=hid (by rw [hw5,hgb];go_simp);have E11:Hid (w5.cell? ⟨gb,11,none⟩=some (.bool asl)):=hid (by rw [hw5,hgb];go_simp);obtain ⟨fk,hfk⟩:∃ y,y=f k:=⟨_,rfl⟩;have hfn:fk<n:=by rw [hfk];exact HF.out k hlt
   have hfn':(fk:Int)<(n:Int):=by omega
   have CG:Hid (w5.cell? ⟨gs,k,none⟩=some (.int .i64 (fk:Nat))):=hid (by rw [hfk];exact keepCell hb5 (keepCell HA.out.1.bel (HG.out k hlt)));obtain ⟨a,ha⟩:∃ y,y=LM L f k fk:=⟨_,rfl⟩;have HA5:=hid (HA.out.1.keep HA.out.2 hb5);have CA:Hid (w5.cell? ⟨ga,fk,none⟩=some (.bool a)):=hid (by rw [ha];exact HA5.out.cs fk hfn);have CF:=hid HA5.out.fr
   have HA2:Hid (∀ v,v=(a || awB L k)→NV w ga n (k+1) L f (w5.setCell ⟨ga,fk,none⟩ (.bool v)).drew∧ga<(w5.setCell ⟨ga,fk,none⟩ (.bool v)).drew.heap.size):=hid (fun v hv=>by
    have hlt5:ga<(w5.setCell ⟨ga,fk,none⟩ (.bool v)).heap.size:=by rw [World.size_setCell];exact lt_of_cell CA.out
    refine ⟨NV.keep ⟨fun i hi=>?_,eu HA5.out.fr _ _,HA5.out.bel.setCell (p:=⟨ga,fk,none⟩) HGA.out.2.1 _,HA5.out.ge⟩ hlt5 ((Below.refl _ _).drew),hlt5⟩
    by_cases e:i=fk
    ·subst e;rw [hv,ha];show _=some (Value.bool (LM L f k i || (decide (f k=i) && awB L k)));rw [← hfk,decide_eq_true rfl,Bool.true_and];exact nE CA.out
    ·show _ = some (Value.bool (LM L f k i || (decide (f k = i) && awB L k)));rw [← hfk,decide_eq_false (fun q=>e q.symm),Bool.false_and,Bool.or_false]
     exact iG (HA5.out.cs i hi) (fun q=>e q.symm))
   clear hx hBo hb5 HA HA5 ha hfk hkL
   go_upto_region 4 with fail
   rw [← hw5,← hgb];clear hw5 hgb d0 d1 d2 d3 d4 d5 d6 d7 d8 d9 d10 d11 d12 ld
   cases a with
   | true =>
    refine wp_region_noPanic ?_;refine au (S:=(S2 (fun w'=>w'.cell? ⟨gs,k,none⟩=some (.int .i64 (fk:Nat))∧w'.cell? ⟨ga,fk,none⟩=some (.bool true)∧w'.cell? ⟨gb,6,none⟩=some (.int .i64 ms)∧w'.cell? ⟨gb,11,none⟩=some (.bool asl)∧(∀ j,w'.frozen? ⟨ga,j,none⟩=false)))) (T:=(fun j=>[0,0,0,0,0,0,0,0,0,0,0,0,0,0,0,0,0,0,0,0,0,0,0,1].getD j 0)) (by kernel_rfl) (aC ⟨CG.out,CA.out,E6.out,E11.out,CF.out⟩) (fun hH=>?_);have hWr1:aH (S2 (fun w'=>w'.cell? ⟨gs,k,none⟩=some (.int .i64 (fk:Nat))∧w'.cell? ⟨ga,fk,none⟩=some (.bool true)∧w'.cell? ⟨gb,6,none⟩=some (.int .i64 ms)∧w'.cell? ⟨gb,11,none⟩=some (.bool asl)∧(∀ j,w'.frozen? ⟨ga,j,none⟩=false))):=aK _;refine dn [(0,18),(1,19),(2,20),(3,21),(4,22),(5,23),(6,24),(7,25),(8,26),(9,27),(10,28),(11,29),(12,30)] 11 0 0 (L':=?Lr1_1) hWr1 hH ?yr1_1 ?_
    case yr1_1=>((iterate 13 apply dA;rfl;kernel_rfl;intro w' hSw;replace hSw:=aA hSw;(try dsimp only at hSw);have q0:=hSw.1;have q1:=hSw.2.1;have q2:=hSw.2.2.1;have q3:=hSw.2.2.2.1;have q4:=hSw.2.2.2.2;(try simp only [sB,sC]);go_simp;(try with_reducible rfl));exact dw)
    simp only [sB,sC];refine kX (by kernel_rfl) (fun _ _ _ _ h=>h) hWr1 0 0 (by omega) hH [(13,31),(14,32),(15,33),(16,34),(17,35),(18,36),(19,37),(20,38)] 3 _ _ _ (by kernel_rfl) (by kernel_rfl) ?_;simp only [fZ,List.set_cons_zero,List.set_cons_succ];refine dn [(21,39),(22,40)] 1 0 0 (L':=?Lr1_14) hWr1 hH ?yr1_14 ?_
    case yr1_14=>((iterate 2 apply dA;rfl;kernel_rfl;intro w' hSw;clear hSw;(try simp only [sB,sC]);go_simp;(try with_reducible rfl));exact dw)
    simp only [sB,sC];refine U1 23 1 rfl (fun K hK=>?_);have hG:=hH;replace hG:=aA hG;(try dsimp only at hG);have q0:=hG.1;have q1:=hG.2.1;have q2:=hG.2.2.1;have q3:=hG.2.2.2.1;have q4:=hG.2.2.2.2;go_simp;refine hK.out _ _ (dY) (fun hH2=>?_);clear hK K hH
    rename _=>hH
    try simp only [Act.put,sA,sB,sC]
    clear hG q0 q1 q2 q3 q4;refine ak (by kernel_rfl) ?_ _ _;refine NoPanic.normal ?_;clear hWr1 hH;replace HA2:=hid (HA2.out true (by rw [Bool.true_or]));clear CG CA E6 E11 CF HAB;go_wp2;go_roundw
    case rel=>exact ⟨k+1,hlt,by go_num,HA2⟩
    case measure=>simp [intOf];omega
   | false =>
    by_cases hm:ms > 0
    ·rw [decide_eq_true hm] at HAB;refine wp_region_noPanic ?_;refine au (S:=(S2 (fun w'=>w'.cell? ⟨gs,k,none⟩=some (.int .i64 (fk:Nat))∧w'.cell? ⟨ga,fk,none⟩=some (.bool false)∧w'.cell? ⟨gb,6,none⟩=some (.int .i64 ms)∧w'.cell? ⟨gb,11,none⟩=some (.bool asl)∧(∀ j,w'.frozen? ⟨ga,j,none⟩=false)))) (T:=(fun j=>[0,0,0,0,0,0,0,0,0,0,0,0,0,0,0,0,0,0,0,0,0,0,0,1].getD j 0)) (by kernel_rfl) (aC ⟨CG.out,CA.out,E6.out,E11.out,CF.out⟩) (fun hH=>?_);have hWr2:aH (S2 (fun w'=>w'.cell? ⟨gs,k,none⟩=some (.int .i64 (fk:Nat))∧w'.cell? ⟨ga,fk,none⟩=some (.bool false)∧w'.cell? ⟨gb,6,none⟩=some (.int .i64 ms)∧w'.cell? ⟨gb,11,none⟩=some (.bool asl)∧(∀ j,w'.frozen? ⟨ga,j,none⟩=false))):=aK _;refine dn [(0,18),(1,19),(2,20),(3,21),(4,22),(5,23),(6,24),(7,25),(8,26),(9,27),(10,28),(11,29),(12,30),(13,31),(14,32),(15,33),(16,34),(17,35),(18,36),(19,37),(20,38),(21,39),(22,40)] 1 0 0 (L':=?Lr2_1) hWr2 hH ?yr2_1 ?_
     case yr2_1=>((iterate 23 apply dA;rfl;kernel_rfl;intro w' hSw;replace hSw:=aA hSw;(try dsimp only at hSw);have q0:=hSw.1;have q1:=hSw.2.1;have q2:=hSw.2.2.1;have q3:=hSw.2.2.2.1;have q4:=hSw.2.2.2.2;(try simp only [sB,sC]);go_simp;(try with_reducible rfl));exact dw)
     simp only [sB,sC];refine U1 23 1 rfl (fun K hK=>?_);have hG:=hH;replace hG:=aA hG;(try dsimp only at hG);have q0:=hG.1;have q1:=hG.2.1;have q2:=hG.2.2.1;have q3:=hG.2.2.2.1;have q4:=hG.2.2.2.2;go_simp;refine hK.out _ _ (dY) (fun hH2=>?_);clear hK K hH
     rename _=>hH
     try simp only [Act.put,sA,sB,sC]
     clear hG q0 q1 q2 q3 q4;refine ak (by kernel_rfl) ?_ _ _;refine NoPanic.normal ?_;clear hWr2 hH;replace HA2:=hid (HA2.out (!asl) (by rw [HAB.out];rfl));clear CG CA E6 E11 CF HAB;go_wp2;go_roundw
     case rel=>exact ⟨k+1,hlt,by go_num,HA2⟩
     case measure=>simp [intOf];omega
    ·rw [decide_eq_false hm] at HAB;refine wp_region_noPanic ?_;refine au (S:=(S2 (fun w'=>w'.cell? ⟨gs,k,none⟩=some (.int .i64 (fk:Nat))∧w'.cell? ⟨ga,fk,none⟩=some (.bool false)∧w'.cell? ⟨gb,6,none⟩=some (.int .i64 ms)∧w'.cell? ⟨gb,11,none⟩=some (.bool asl)∧(∀ j,w'.frozen? ⟨ga,j,none⟩=false)))) (T:=(fun j=>[0,0,0,0,0,0,0,0,0,0,0,0,0,0,0,0,0,0,0,0,0,0,0,1].getD j 0)) (by kernel_rfl) (aC ⟨CG.out,CA.out,E6.out,E11.out,CF.out⟩) (fun hH=>?_);have hWr3:aH (S2 (fun w'=>w'.cell? ⟨gs,k,none⟩=some (.int .i64 (fk:Nat))∧w'.cell? ⟨ga,fk,none⟩=some (.bool false)∧w'.cell? ⟨gb,6,none⟩=some (.int .i64 ms)∧w'.cell? ⟨gb,11,none⟩=some (.bool asl)∧(∀ j,w'.frozen? ⟨ga,j,none⟩=false))):=aK _;refine dn [(0,18),(1,19),(2,20),(3,21),(4,22),(5,23),(6,24),(7,25),(8,26),(9,27),(10,28),(11,29),(12,30),(13,31),(14,32),(15,33),(16,34)] 7 0 0 (L':=?Lr3_1) hWr3 hH ?yr3_1 ?_
     case yr3_1=>((iterate 17 apply dA;rfl;kernel_rfl;intro w' hSw;replace hSw:=aA hSw;(try dsimp only at hSw);have q0:=hSw.1;have q1:=hSw.2.1;have q2:=hSw.2.2.1;have q3:=hSw.2.2.2.1;have q4:=hSw.2.2.2.2;(try simp only [sB,sC]);go_simp;(try with_reducible rfl));exact dw)
     simp only [sB,sC];refine kX (by kernel_rfl) (fun _ _ _ _ h=>h) hWr3 0 0 (by omega) hH [(17,35),(18,36),(19,37)] 4 _ _ _ (by kernel_rfl) (by kernel_rfl) ?_;simp only [fZ,List.set_cons_zero,List.set_cons_succ];refine dn [(20,38),(21,39),(22,40)] 1 0 0 (L':=?Lr3_18) hWr3 hH ?yr3_18 ?_
     case yr3_18=>((iterate 3 apply dA;rfl;kernel_rfl;intro w' hSw;clear hSw;(try simp only [sB,sC]);go_simp;(try with_reducible rfl));exact dw)
     simp only [sB,sC];refine U1 23 1 rfl (fun K hK=>?_);have hG:=hH;replace hG:=aA hG;(try dsimp only at hG);have q0:=hG.1;have q1:=hG.2.1;have q2:=hG.2.2.1;have q3:=hG.2.2.2.1;have q4:=hG.2.2.2.2;go_simp;refine hK.out _ _ (dY) (fun hH2=>?_);clear hK K hH
     rename _=>hH
     try simp only [Act.put,sA,sB,sC]
     clear hG q0 q1 q2 q3 q4;refine ak (by kernel_rfl) ?_ _ _;refine NoPanic.normal ?_;clear hWr3 hH;replace HA2:=hid (HA2.out false (by rw [HAB.out];rfl));clear CG CA E6 E11 CF HAB;go_wp2;go_roundw
     case rel=>exact ⟨k+1,hlt,by go_num,HA2⟩
     case measure=>simp [intOf];omega
  ·have hke : n = k := by omega
   subst hke;obtain ⟨p,hp⟩:∃ p:Nat→Bool,p=fun j=>LM L f n (f j):=⟨_,rfl⟩
   have HP:=hid hp;obtain ⟨wl,hwl⟩:∃ y:World,y=wo:=⟨_,rfl⟩;rw [← hwl] at HA ⊢;have HAC:Hid (∀ i,i<n→wl.cell? ⟨ga,i,none⟩=some (.bool (LM L f n i))):=hid HA.out.1.cs;have HGC:Hid (∀ i,i<n→wl.cell? ⟨gs,i,none⟩=some (.int .i64 (f i:Nat))):=hid (fun i hi=>keepCell HA.out.1.bel (HG.out i hi));have HBL:Hid (Below w.heap.size w wl):=hid HA.out.1.bel;have HW0:Hid (PI wl g n 0 L p L wl):=hid ⟨HL.out.symm,fun j hj=>by rw [if_neg (by omega)],fI HBL.out HB.out,Out.refl _ _⟩;clear hwl hp HA hlt hk
   go_upto_region 7 with fail
   go_loopw [44] (fun j wr=>∃ (k:Nat) (M:List BE),k≤n∧j = .int .i64 k∧Hid (PI wl g n k L p M wr)) (fun j _=>n-(intOf j).toNat)
   case atStart=>exact ⟨0,L,Nat.zero_le _,rfl,HW0⟩
   case round =>
    clear HW0;obtain ⟨k,M,hk,rfl,HW⟩:=hrel;obtain ⟨wo,rfl⟩:∃ wo:World,wo=wr:=⟨_,rfl⟩
    by_cases hlt:k<n
    ·have hlt' : (k : Int) < (n : Int) := by omega
     have hwk:IntKind.i64.wrap ((k:Int)+1)=(k:Int)+1:=IntWalk.i64_in _ (by omega);have hkM:k<M.length:=by rw [HW.out.len];exact hlt
     obtain ⟨x,hx⟩:∃ x,x=M[k]:=⟨_,rfl⟩;obtain ⟨-,-,-,-,-,-,-,-,-,-,-,d11,d12⟩:=bK HW.out.bl.cl hkM hx;have ld:=lt_of_cell d11;have cf:=HW.out.bl.free;obtain ⟨fk,hfk⟩:∃ y,y=f k:=⟨_,rfl⟩;have hfn:fk<n:=by rw [hfk];exact HF.out k hlt
     have hfn':(fk:Int)<(n:Int):=by omega
     have cg:wo.cell? ⟨gs,k,none⟩=some (.int .i64 (fk:Nat)):=by rw [hfk];exact HW.out.out.cell (HGC.out k hlt) (fun q=>hne q.symm)
     obtain ⟨a,ha⟩:∃ y,y=p k:=⟨_,rfl⟩;have ca:wo.cell? ⟨ga,fk,none⟩=some (.bool a):=by rw [ha,HP.out,hfk];exact HW.out.out.cell (HAC.out (f k) (HF.out k hlt)) (fun q=>by have q:ga=g:=q;have:=HGA.out.1;omega)
     have lg:=lt_of_cell cg;have la:=lt_of_cell ca;have hML:M[k]? = L[k]? := by have:=HW.out.at_ k hlt;rwa [if_neg (by omega)] at this
     have hLk:L[k]? = some x:=by rw [← hML,List.getElem?_eq_getElem hkM,hx]
     have HWN:Hid (∀ M' w',M'.length=n→M'[k]? = some (Md p k x)→(∀ j,j≠k→M'[j]? = M[j]?)→BL w' g M'→Out (fun k=>k=g) wl w'→PI wl g n (k+1) L p M' w'):=hid (fun M' w' h1 h2 h3 h4 h5=>⟨h1,fun j hj=>by
      by_cases e:j=k
      ·subst e;rw [h2,if_pos (by omega),hLk];rfl
      ·rw [h3 j e, HW.out.at_ j hj]
       by_cases e2:j<k
       ·rw [if_pos e2,if_pos (by omega)]
       ·rw [if_neg e2,if_neg (by omega)],h4,h5⟩)
     have HSK:Hid (Md p k x=x→PI wl g n (k+1) L p M wo):=hid (fun e=>HWN.out M wo HW.out.len (by rw [e,List.getElem?_eq_getElem hkM,hx]) (fun _ _=>rfl) HW.out.bl HW.out.out);have HX:=hid hx;have HAP:=hid ha;clear hML hLk hx hfk ha
     cases hs:x.b.asleep with
     | false =>
      have HR:=hid (HSK.out (by unfold Md;rw [if_neg (by rw [hs];simp)]));rw [hs] at d11;clear HX hs HSK HWN HW hkM;go_wp2;go_roundw
      case rel=>exact ⟨k+1,M,hlt,by go_num,HR⟩
      case measure=>simp [intOf];omega
     | true =>
      rw [hs] at d11
      cases a with
      | false =>
       have HR:=hid (HSK.out (by unfold Md;rw [if_neg (by rw [← HAP.out];simp)]));clear HX hs HSK HWN HW hkM;go_wp2;go_roundw
       case rel=>exact ⟨k+1,M,hlt,by go_num,HR⟩
       case measure=>simp [intOf];omega
      | true =>
       have hB1:=HW.out.bl.cell hkM { x with b:={ x.b with asleep:=false } } (o:=11) (v:=.bool false) (by omega) (by rw [← HX.out];rfl) (by rw [← HX.out];exact ⟨rfl,rfl,rfl,rfl⟩);have hB2:=hB1.cell (k:=k) (by rw [List.length_set];exact hkM) { x with b:={ x.b with asleep:=false,calm:=0 } } (o:=12) (v:=.int .i64 0) (by omega) (by rw [List.getElem_set_self];rfl) (by rw [List.getElem_set_self];exact ⟨rfl,rfl,rfl,rfl⟩);rw [List.set_set] at hB2;have hwb:Md p k x={ x with b:={ x.b with asleep:=false,calm:=0 } }:=by unfold Md;rw [if_pos ⟨hs,HAP.out.symm⟩]
       have HR:=hid (HWN.out _ _ (by rw [List.length_set];exact HW.out.len) (by rw [List.getElem?_set_self hkM,hwb]) (fun j hj=>List.getElem?_set_ne (fun q=>hj q.symm)) hB2 ((HW.out.out.setCell (p:=⟨g,k*13+11,none⟩) (.inr rfl) (.bool false)).setCell (p:=⟨g,k*13+12,none⟩) (.inr rfl) (.int .i64 0)));clear HX hs HSK HWN HW hkM hB1 hB2 hwb;go_wp2;go_roundw
       case rel=>exact ⟨k+1,_,hlt,by go_num,HR⟩
       case measure=>simp [intOf];omega
    ·have hke : n = k := by omega
     subst hke
     have HE:Hid (M=jQ L f):=hid (by
      refine List.ext_getElem? fun j=>?_
      unfold jQ;rw [List.getElem?_mapIdx,← HL.out,← HP.out]
      by_cases e:j<n
      ·rw [HW.out.at_ j e,if_pos e]
      ·rw [List.getElem?_eq_none (by rw [HW.out.len]; omega), List.getElem?_eq_none (by rw [← HL.out]; omega)]
       rfl)
     have HFIN:Hid (BL wo g (jQ L f)∧Out (fun k=>k=g) w wo):=hid ⟨by rw [← HE.out];exact HW.out.bl,(Out.below (D:=fun k=>k=g) HBL.out).trans HW.out.out (fun _ _ q=>q)⟩;clear HW HE;go_wp2
     go_returns
     exact ⟨by simp,HFIN.out.1,HFIN.out.2⟩
end
end Go.Proofs.YtokgmcomgflloaaGreat
