/- Parts of a proof: contracts and laws. -/
import Derived.Test.YtokgmcomgflloaaGreatQP21
import Derived.Laws.StructEq
import Derived.Test.YtokgmcomgflloaaGreatQP03
set_option maxRecDepth 100000
set_option maxHeartbeats 16000000
namespace Go.Proofs.YtokgmcomgflloaaGreat
section
set_option linter.unusedVariables false
set_option linter.unusedSimpArgs false
open Go.RowKit
variable {w0 w w':World}

structure Vb (w : World) (g : Nat) : Prop where
 c:(∃ v,w.cell? ⟨g,0,none⟩=some v)∧(∃ v,w.cell? ⟨g,1,none⟩=some v)∧(∃ v,w.cell? ⟨g,2,none⟩=some v)∧∃ v,w.cell? ⟨g,3,none⟩=some v
 f:∀ j,w.frozen? ⟨g,j,none⟩=false
theorem xw {g:Nat} (hb:Below w.heap.size w w') (h:Vb w g):Vb w' g:=by
 obtain ⟨⟨⟨v0,h0⟩,⟨v1,h1⟩,⟨v2,h2⟩,⟨v3,h3⟩⟩,hf⟩:=h;exact ⟨⟨⟨v0,keepCell hb h0⟩,⟨v1,keepCell hb h1⟩,⟨v2,keepCell hb h2⟩,⟨v3,keepCell hb h3⟩⟩,fun j=>((cO hb).2 _ _ (lt_of_cell h0)).trans (hf j)⟩
def fF (a b:Bx):Bx:=if fJ a=false∧fJ b=false then ((0,0),(0,0)) else if fJ a=false then b else if fJ b=false then a else ((min a.1.1 b.1.1,min a.1.2 b.1.2),(max a.2.1 b.2.1,max a.2.2 b.2.2))
theorem Ep (a1 a2 a3 a4 b1 b2 b3 b4:Int) (w:World):Calls Tryz.prog 145 #[pJ ((a1,a2),(a3,a4)),pJ ((b1,b2),(b3,b4))] w (dS (.bool (dY ((a1,a2),(a3,a4)) ((b1,b2),(b3,b4)))) w):=by
 have HT:Hid (dY ((a1,a2),(a3,a4)) ((b1,b2),(b3,b4))=(fJ ((a1,a2),(a3,a4)) && (fJ ((b1,b2),(b3,b4)) && (decide (a1≤b3) && (decide (b1≤a3) && (decide (a2≤b4) && decide (b2≤a4))))))):=rfl;have HVA:=hid (iM a1 a2 a3 a4);have HVB:=hid (iM b1 b2 b3 b4);generalize dY ((a1,a2),(a3,a4)) ((b1,b2),(b3,b4))=T at *
 generalize fJ ((a1,a2),(a3,a4))=va at *
 generalize fJ ((b1,b2),(b3,b4))=vb at *
 obtain ⟨W,hW⟩:∃ W,W=(w.alloc (.cells #[.int .i64 a1,.int .i64 a2,.int .i64 a3,.int .i64 a4] 64)).alloc (.cells #[.int .i64 b1,.int .i64 b2,.int .i64 b3,.int .i64 b4] 64):=⟨_,rfl⟩;have ca0:W.cell? ⟨w.heap.size,0,none⟩=some (.int .i64 a1):=by rw [hW];go_simp
 have ca1:W.cell? ⟨w.heap.size,1,none⟩=some (.int .i64 a2):=by rw [hW];go_simp
 have ca2:W.cell? ⟨w.heap.size,2,none⟩=some (.int .i64 a3):=by rw [hW];go_simp
 have ca3:W.cell? ⟨w.heap.size,3,none⟩=some (.int .i64 a4):=by rw [hW];go_simp
 have cb0:W.cell? ⟨w.heap.size+1,0,none⟩=some (.int .i64 b1):=by rw [hW];go_simp
 have cb1:W.cell? ⟨w.heap.size+1,1,none⟩=some (.int .i64 b2):=by rw [hW];go_simp
 have cb2:W.cell? ⟨w.heap.size+1,2,none⟩=some (.int .i64 b3):=by rw [hW];go_simp
 have cb3:W.cell? ⟨w.heap.size+1,3,none⟩=some (.int .i64 b4):=by rw [hW];go_simp
 have hB:Below w.heap.size w W:=by rw [hW];go_grown
 go_enter Tryz.func145,Tryz.ntmps145
 go_wp2_with fail
 rw [← hW];clear hW;refine (HVA.out _).mono ?_;rintro e w1 ⟨rfl,hb1⟩;replace ca0:=keepCell hb1 ca0;replace ca1:=keepCell hb1 ca1;replace ca2:=keepCell hb1 ca2;replace ca3:=keepCell hb1 ca3;replace cb0:=keepCell hb1 cb0;replace cb1:=keepCell hb1 cb1;replace cb2:=keepCell hb1 cb2;replace cb3:=keepCell hb1 cb3;replace hB:=aj hb1 hB;clear hb1 HVA
 cases va with
 | false =>
  have HR:Hid (T=false):=HT.out;clear HT HVB;go_wp2
  go_returns
  exact bg (by rw [HR.out]) hB
 | true =>
  go_wp2_with fail
  refine (HVB.out _).mono ?_;rintro e w2 ⟨rfl,hb2⟩;replace ca0:=keepCell hb2 ca0;replace ca1:=keepCell hb2 ca1;replace ca2:=keepCell hb2 ca2;replace ca3:=keepCell hb2 ca3;replace cb0:=keepCell hb2 cb0;replace cb1:=keepCell hb2 cb1;replace cb2:=keepCell hb2 cb2;replace cb3:=keepCell hb2 cb3;replace hB:=aj hb2 hB;clear hb2 HVB
  cases vb with
  | false =>
   have HR:Hid (T=false):=HT.out;clear HT;go_wp2
   go_returns
   exact bg (by rw [HR.out]) hB
  | true =>
   by_cases k0:a1≤b3
   ·by_cases k1 : b1 ≤ a3
    ·by_cases k2 : a2 ≤ b4
     ·by_cases k3 : b2 ≤ a4
      ·have HR : Hid (T = true) := by show _ = _; rw [HT.out, decide_eq_true k0, decide_eq_true k1, decide_eq_true k2, decide_eq_true k3]; rfl
       clear HT;go_wp2
       go_returns
       exact bg (by rw [HR.out];try simp [*]) hB
      ·have HR : Hid (T = false) := by show _ = _; rw [HT.out, decide_eq_true k0, decide_eq_true k1, decide_eq_true k2, decide_eq_false k3]; simp
       clear HT;go_wp2
       go_returns
       exact bg (by rw [HR.out];try simp [*]) hB
     ·have HR : Hid (T = false) := by show _ = _; rw [HT.out, decide_eq_true k0, decide_eq_true k1, decide_eq_false k2]; simp
      clear HT;go_wp2
      go_returns
      exact bg (by rw [HR.out];try simp [*]) hB
    ·have HR : Hid (T = false) := by show _ = _; rw [HT.out, decide_eq_true k0, decide_eq_false k1]; simp
     clear HT;go_wp2
     go_returns
     exact bg (by rw [HR.out];try simp [*]) hB
   ·have HR : Hid (T = false) := by show _ = _; rw [HT.out, decide_eq_false k0]; simp
    clear HT;go_wp2
    go_returns
    exact bg (by rw [HR.out];try simp [*]) hB
theorem om (a1 a2 a3 a4 b1 b2 b3 b4:Int) (w:World):Calls Tryz.prog 120 #[pJ ((a1,a2),(a3,a4)),pJ ((b1,b2),(b3,b4))] w (dS (pJ (fF ((a1,a2),(a3,a4)) ((b1,b2),(b3,b4)))) w):=by
 have HJ:Hid (fF ((a1,a2),(a3,a4)) ((b1,b2),(b3,b4))=if fJ ((a1,a2),(a3,a4))=false∧fJ ((b1,b2),(b3,b4))=false then ((0,0),(0,0)) else if fJ ((a1,a2),(a3,a4))=false then ((b1,b2),(b3,b4)) else if fJ ((b1,b2),(b3,b4))=false then ((a1,a2),(a3,a4)) else ((min a1 b1,min a2 b2),(max a3 b3,max a4 b4))):=rfl;have HVA:=hid (iM a1 a2 a3 a4);have HVB:=hid (iM b1 b2 b3 b4);generalize fF ((a1,a2),(a3,a4)) ((b1,b2),(b3,b4))=J at *
 generalize fJ ((a1,a2),(a3,a4))=va at *
 generalize fJ ((b1,b2),(b3,b4))=vb at *
 obtain ⟨W,hW⟩:∃ W,W=((w.alloc (.cells #[.int .i64 a1,.int .i64 a2,.int .i64 a3,.int .i64 a4] 64)).alloc (.cells #[.int .i64 b1,.int .i64 b2,.int .i64 b3,.int .i64 b4] 64)).alloc (.cells #[.int .i64 0,.int .i64 0,.int .i64 0,.int .i64 0] 64):=⟨_,rfl⟩;have ca0:W.cell? ⟨w.heap.size,0,none⟩=some (.int .i64 a1):=by rw [hW];go_simp
 have ca1:W.cell? ⟨w.heap.size,1,none⟩=some (.int .i64 a2):=by rw [hW];go_simp
 have ca2:W.cell? ⟨w.heap.size,2,none⟩=some (.int .i64 a3):=by rw [hW];go_simp
 have ca3:W.cell? ⟨w.heap.size,3,none⟩=some (.int .i64 a4):=by rw [hW];go_simp
 have cb0:W.cell? ⟨w.heap.size+1,0,none⟩=some (.int .i64 b1):=by rw [hW];go_simp
 have cb1:W.cell? ⟨w.heap.size+1,1,none⟩=some (.int .i64 b2):=by rw [hW];go_simp
 have cb2:W.cell? ⟨w.heap.size+1,2,none⟩=some (.int .i64 b3):=by rw [hW];go_simp
 have cb3:W.cell? ⟨w.heap.size+1,3,none⟩=some (.int .i64 b4):=by rw [hW];go_simp
 have hB:Below w.heap.size w W:=by rw [hW];go_grown
 obtain ⟨g,hg⟩:∃ g,g=w.heap.size+2:=⟨_,rfl⟩;have HG:=hid hg
 have HZ:Hid (Vb W g):=by
  show Vb _ _;rw [hW,hg];exact ⟨⟨⟨.int .i64 0,by go_simp⟩,⟨.int .i64 0,by go_simp⟩,⟨.int .i64 0,by go_simp⟩,⟨.int .i64 0,by go_simp⟩⟩,fun j=>by go_simp⟩
 go_enter Tryz.func120,Tryz.ntmps120
 go_wp2_with fail
 rw [← hW];clear hW hg;refine (HVA.out _).mono ?_;rintro e v0 ⟨rfl,hb0⟩;replace ca0:=keepCell hb0 ca0;replace ca1:=keepCell hb0 ca1;replace ca2:=keepCell hb0 ca2;replace ca3:=keepCell hb0 ca3;replace cb0:=keepCell hb0 cb0;replace cb1:=keepCell hb0 cb1;replace cb2:=keepCell hb0 cb2;replace cb3:=keepCell hb0 cb3;replace HZ:=hid (xw hb0 HZ.out);replace hB:=aj hb0 hB;clear hb0
 cases va with
 | false =>
  go_wp2_with fail
  refine (HVB.out _).mono ?_;rintro e v1 ⟨rfl,hb1⟩;replace ca0:=keepCell hb1 ca0;replace ca1:=keepCell hb1 ca1;replace ca2:=keepCell hb1 ca2;replace ca3:=keepCell hb1 ca3;replace cb0:=keepCell hb1 cb0;replace cb1:=keepCell hb1 cb1;replace cb2:=keepCell hb1 cb2;replace cb3:=keepCell hb1 cb3;replace HZ:=hid (xw hb1 HZ.out);replace hB:=aj hb1 hB;clear hb1
  cases vb with
  | false =>
   have HR:Hid (J=((0,0),(0,0))):=by show _=_;rw [HJ.out];simp
   clear HJ;obtain ⟨⟨⟨y0,z0⟩,⟨y1,z1⟩,⟨y2,z2⟩,⟨y3,z3⟩⟩,zf⟩:=HZ.out;obtain rfl:g=w.heap.size+1+1:=HG.out;have hn1:¬ w.heap.size=w.heap.size+1+1:=by omega
   have hn2:¬ w.heap.size+1=w.heap.size+1+1:=by omega
   have hgl:=lt_of_cell z0;have hwg:w.heap.size≤w.heap.size+1+1:=by omega
   clear HVA HVB HZ;go_wp2;refine bodyPost_ret (v:=pJ ((0,0),(0,0))) (by simp [results,Tryz.results120,go_sem,z0,z1,z2,z3]) rfl ⟨by rw [HR.out],by go_grown⟩
  | true =>
   have HR:Hid (J=((b1,b2),(b3,b4))):=by show _=_;rw [HJ.out];simp
   clear HJ
   go_wp2_with fail
   refine (HVA.out _).mono ?_;rintro e v2 ⟨rfl,hb2⟩;replace ca0:=keepCell hb2 ca0;replace ca1:=keepCell hb2 ca1;replace ca2:=keepCell hb2 ca2;replace ca3:=keepCell hb2 ca3;replace cb0:=keepCell hb2 cb0;replace cb1:=keepCell hb2 cb1;replace cb2:=keepCell hb2 cb2;replace cb3:=keepCell hb2 cb3;replace HZ:=hid (xw hb2 HZ.out);replace hB:=aj hb2 hB;clear hb2;obtain ⟨⟨⟨y0,z0⟩,⟨y1,z1⟩,⟨y2,z2⟩,⟨y3,z3⟩⟩,zf⟩:=HZ.out;obtain rfl:g=w.heap.size+1+1:=HG.out;have hn1:¬ w.heap.size=w.heap.size+1+1:=by omega
   have hn2:¬ w.heap.size+1=w.heap.size+1+1:=by omega
   have hgl:=lt_of_cell z0;have hwg:w.heap.size≤w.heap.size+1+1:=by omega
   clear HVA HVB HZ;go_wp2;refine bodyPost_ret (v:=pJ ((b1,b2),(b3,b4))) (by simp [results,Tryz.results120,go_sem,z0,z1,z2,z3]) rfl ⟨by rw [HR.out],by go_grown⟩
 | true =>
  go_wp2_with fail
  refine (HVA.out _).mono ?_;rintro e v3 ⟨rfl,hb3⟩;replace ca0:=keepCell hb3 ca0;replace ca1:=keepCell hb3 ca1;replace ca2:=keepCell hb3 ca2;replace ca3:=keepCell hb3 ca3;replace cb0:=keepCell hb3 cb0;replace cb1:=keepCell hb3 cb1;replace cb2:=keepCell hb3 cb2;replace cb3:=keepCell hb3 cb3;replace HZ:=hid (xw hb3 HZ.out);replace hB:=aj hb3 hB;clear hb3
  go_wp2_with fail
  refine (HVB.out _).mono ?_;rintro e v4 ⟨rfl,hb4⟩;replace ca0:=keepCell hb4 ca0;replace ca1:=keepCell hb4 ca1;replace ca2:=keepCell hb4 ca2;replace ca3:=keepCell hb4 ca3;replace cb0:=keepCell hb4 cb0;replace cb1:=keepCell hb4 cb1;replace cb2:=keepCell hb4 cb2;replace cb3:=keepCell hb4 cb3;replace HZ:=hid (xw hb4 HZ.out);replace hB:=aj hb4 hB;clear hb4
  cases vb with
  | false =>
   have HR:Hid (J=((a1,a2),(a3,a4))):=by show _=_;rw [HJ.out];simp
   clear HJ;obtain ⟨⟨⟨y0,z0⟩,⟨y1,z1⟩,⟨y2,z2⟩,⟨y3,z3⟩⟩,zf⟩:=HZ.out;obtain rfl:g=w.heap.size+1+1:=HG.out;have hn1:¬ w.heap.size=w.heap.size+1+1:=by omega
   have hn2:¬ w.heap.size+1=w.heap.size+1+1:=by omega
   have hgl:=lt_of_cell z0;have hwg:w.heap.size≤w.heap.size+1+1:=by omega
   clear HVA HVB HZ;go_wp2;refine bodyPost_ret (v:=pJ ((a1,a2),(a3,a4))) (by simp [results,Tryz.results120,go_sem,z0,z1,z2,z3]) rfl ⟨by rw [HR.out],by go_grown⟩
  | true =>
   have HR:Hid (J=((min a1 b1,min a2 b2),(max a3 b3,max a4 b4))):=by show _=_;rw [HJ.out];simp
   clear HJ;obtain ⟨⟨⟨y0,z0⟩,⟨y1,z1⟩,⟨y2,z2⟩,⟨y3,z3⟩⟩,zf⟩:=HZ.out;obtain rfl:g=w.heap.size+1+1:=HG.out;have hn1:¬ w.heap.size=w.heap.size+1+1:=by omega
   have hn2:¬ w.heap.size+1=w.heap.size+1+1:=by omega
   have hgl:=lt_of_cell z0;have hwg:w.heap.size≤w.heap.size+1+1:=by omega
   clear HVA HVB HZ;go_wp2;refine bodyPost_ret (v:=pJ ((min a1 b1,min a2 b2),(max a3 b3,max a4 b4))) (by simp [results,Tryz.results120,go_sem,z0,z1,z2,z3]) rfl ⟨by rw [HR.out],by go_grown⟩
theorem H9 (x1 x2 y1 y2:Int) (w:World):(Op.equalIn 10000 72 (.agg #[.int .i64 x1,.int .i64 x2]) (.agg #[.int .i64 y1,.int .i64 y2])).run Tryz.prog w = .ok (x1 == y1 && x2 == y2) w:=by
 have u3:=Tryz.underlying3;have a3:=Tryz.isAgg3;have z3:=Tryz.sizeOf3;rw [show (10000:Nat)=9999+1 from rfl,Op.equalIn];simp only [Sem.run_bind,run_underlying Tryz.underlying72,Result.andThen_ok];simp only [Std.Legacy.Range.forIn_eq_forIn_range',Std.Legacy.Range.size,Nat.sub_zero,Nat.add_sub_cancel,Nat.div_one,List.range'_succ,List.range'_zero,List.forIn_cons,List.forIn_nil];go_simp
 by_cases h1:x1=y1 <;> by_cases h2:x2=y2 <;> simp [h1,h2]
theorem aM.pair {b off:Nat} {l:List (Nat × Nat)} (h:aM aJ w b off l) {i:Nat} (hi:i<l.length) :
  w.cell? ⟨b,off+i*2,none⟩=some (.int .i64 (l[i].1:Nat))∧w.cell? ⟨b,off+i*2+1,none⟩=some (.int .i64 (l[i].2:Nat)):=⟨h.at_ i hi 0 _ rfl,h.at_ i hi 1 _ rfl⟩
theorem BK (A B:Option Addr) (n c m c':Nat) (l r:List (Nat × Nat)) (w:World) (hS:dN aJ w A n c l) (hR:dN aJ w B m c' r) :
  Calls Tryz.prog 32 #[.slice A n c,.slice B m c'] w (dS (.bool (decide (l=r))) w):=by
 have hn:=hS.len;have hm:=hR.len;subst hn hm;have HS:=hid hS;have HR:=hid hR;have hbig:=Nat.le_trans hS.cap hS.big;clear hS hR
 by_cases hlen:l.length=r.length
 ·obtain ⟨N, hN⟩ : ∃ N, N = l.length := ⟨_, rfl⟩;have hrN:r.length=N:=by omega
  go_enter Tryz.func32,Tryz.ntmps32
  rw [hrN,← hN];rw [← hN] at HS hbig;rw [hrN] at HR;have HN:=hid hN;have HRN:=hid hrN;clear hlen hN hrN;go_wp2
  go_loopw [13] (fun j wr=>∃ k:Nat,k≤N∧j = .int .i64 k∧(∀ i (h1:i<l.length) (h2:i<r.length),i<k→l[i]=r[i])∧Below w.heap.size w wr) (fun j _=>N-(intOf j).toNat)
  case atStart=>exact ⟨0,Nat.zero_le _,rfl,fun i _ _ h=>by omega,Below.refl _ _⟩
  case round =>
   obtain ⟨i,hi,rfl,heq,hB⟩:=hrel;obtain ⟨wo,rfl⟩:∃ wo:World,wo=wr:=⟨_,rfl⟩;have HEQ:=hid heq;clear heq
   by_cases hlt:i<N
   ·have hlt' : (i : Int) < (N : Int) := by omega
    have hwk:IntKind.i64.wrap ((i:Int)+1)=(i:Int)+1:=IntWalk.i64_in _ (by omega);have hl1:i<l.length:=by have:=HN.out;omega
    have hl2:i<r.length:=by have:=HRN.out;omega
    obtain ⟨bA,oA,rfl,hC⟩:=(HS.out.below hB).at_ (by intro h;rw [h] at hl1;simp at hl1);obtain ⟨bB,oB,rfl,hD⟩:=(HR.out.below hB).at_ (by intro h;rw [h] at hl2;simp at hl2);obtain ⟨c0,c1⟩:=hC.pair hl1;obtain ⟨d0,d1⟩:=hD.pair hl2;have hbl:=hC.lt;have hbl2:=hD.lt;obtain ⟨p,hp⟩:∃ p,p=l[i]:=⟨_,rfl⟩;obtain ⟨q,hq⟩:∃ p,p=r[i]:=⟨_,rfl⟩;rw [← hp] at c0 c1;rw [← hq] at d0 d1;obtain ⟨e1,he1⟩:∃ e:Bool,e=((p.1:Int) == (q.1:Int) && (p.2:Int) == (q.2:Int)):=⟨_,rfl⟩
    have HE1:Hid (e1=true↔p=q):=by
     show _↔_;rw [he1];simp only [Bool.and_eq_true,beq_iff_eq];exact ⟨fun ⟨a,b⟩=>by ext <;> omega,fun h=>by rw [h];exact ⟨rfl,rfl⟩⟩
    obtain ⟨x1,hx1⟩:∃ z:Int,z=p.1:=⟨_,rfl⟩;obtain ⟨x2,hx2⟩:∃ z:Int,z=p.2:=⟨_,rfl⟩;obtain ⟨y1,hy1⟩:∃ z:Int,z=q.1:=⟨_,rfl⟩;obtain ⟨y2,hy2⟩:∃ z:Int,z=q.2:=⟨_,rfl⟩;rw [← hx1] at c0 he1;rw [← hx2] at c1 he1;rw [← hy1] at d0 he1;rw [← hy2] at d1 he1;have HQ1:=H9 x1 x2 y1 y2;rw [← he1] at HQ1;have HPQ:=hid (And.intro hp hq);have hBd:Below wo.heap.size wo wo.drew:=(Below.refl _ _).drew;clear hC hD hp hq he1 hx1 hx2 hy1 hy2
    cases e1 with
    | true =>
     have HEQ2:Hid (∀ i' (h1:i'<l.length) (h2:i'<r.length),i'<i+1→l[i']=r[i']):=fun i' h1 h2 h=>by
      rcases Nat.lt_or_ge i' i with g | g
      ·exact HEQ.out i' h1 h2 g
      ·have : i' = i := by omega
       subst this;rw [← HPQ.out.1,← HPQ.out.2];exact HE1.out.1 rfl
     clear HEQ HE1 HPQ
     go_upto_region 6 with fail
     refine wp_region_noPanic ?_;refine au (S:=(S2 (fun w'=>w'.cell? ⟨bA,oA+i*2,none⟩=some (.int .i64 x1)∧w'.cell? ⟨bA,oA+i*2+1,none⟩=some (.int .i64 x2)∧w'.cell? ⟨bB,oB+i*2,none⟩=some (.int .i64 y1)∧w'.cell? ⟨bB,oB+i*2+1,none⟩=some (.int .i64 y2)∧Below wo.heap.size wo w'))) (T:=(fun _=>0)) (by kernel_rfl) (aK ⟨c0,c1,d0,d1,hBd⟩) (fun hH=>?_);have hWr1:aG (S2 (fun w'=>w'.cell? ⟨bA,oA+i*2,none⟩=some (.int .i64 x1)∧w'.cell? ⟨bA,oA+i*2+1,none⟩=some (.int .i64 x2)∧w'.cell? ⟨bB,oB+i*2,none⟩=some (.int .i64 y1)∧w'.cell? ⟨bB,oB+i*2+1,none⟩=some (.int .i64 y2)∧Below wo.heap.size wo w')):=aI _;refine dG [(0,16),(1,17),(2,18),(3,19),(4,20),(5,21),(6,22),(7,23),(8,24)] 0 0 0 (L':=?Lr1_1) hWr1 hH ?hyr1_1 ?_
     case hyr1_1=>((iterate 9 apply dF;rfl;kernel_rfl;intro w' hSw;replace hSw:=aB hSw;(try dsimp only at hSw);have q0:=hSw.1;have q1:=hSw.2.1;have q2:=hSw.2.2.1;have q3:=hSw.2.2.2.1;have q4:=hSw.2.2.2.2;(try simp only [sB,sC]);go_simp;(try with_reducible rfl));exact dD)
     simp only [sB,sC];refine ak (by kernel_rfl) ?_ _ _;refine NoPanic.normal ?_;clear hWr1;replace hH:=aB hH
     (try dsimp only at hH)
     have q0:=hH.1;have q1:=hH.2.1;have q2:=hH.2.2.1;have q3:=hH.2.2.2.1;have q4:=hH.2.2.2.2;clear hH;have hB2:=aj q4 hB;clear c0 c1 d0 d1 q0 q1 q2 q3 q4 hBd;generalize wo.drew=wq at *
     go_wp2;go_roundw
     case rel=>exact ⟨i+1,hlt,by go_num,HEQ2.out,hB2⟩
     case measure=>simp [intOf];omega
    | false =>
     have HNE:Hid (decide (l=r)=false):=by
      refine decide_eq_false fun h=>?_
      have:p=q:=by rw [HPQ.out.1,HPQ.out.2];simp only [h]
      have:=HE1.out.2 this
      cases this
     clear HEQ HE1 HPQ
     go_upto_region 6 with fail
     refine wp_region_noPanic ?_;refine au (S:=(S2 (fun w'=>w'.cell? ⟨bA,oA+i*2,none⟩=some (.int .i64 x1)∧w'.cell? ⟨bA,oA+i*2+1,none⟩=some (.int .i64 x2)∧w'.cell? ⟨bB,oB+i*2,none⟩=some (.int .i64 y1)∧w'.cell? ⟨bB,oB+i*2+1,none⟩=some (.int .i64 y2)∧Below wo.heap.size wo w'))) (T:=(fun _=>0)) (by kernel_rfl) (aK ⟨c0,c1,d0,d1,hBd⟩) (fun hH=>?_);have hWr2:aG (S2 (fun w'=>w'.cell? ⟨bA,oA+i*2,none⟩=some (.int .i64 x1)∧w'.cell? ⟨bA,oA+i*2+1,none⟩=some (.int .i64 x2)∧w'.cell? ⟨bB,oB+i*2,none⟩=some (.int .i64 y1)∧w'.cell? ⟨bB,oB+i*2+1,none⟩=some (.int .i64 y2)∧Below wo.heap.size wo w')):=aI _;refine dG [(0,16),(1,17),(2,18),(3,19),(4,20),(5,21),(6,22),(7,23),(8,24)] 0 0 0 (L':=?Lr2_1) hWr2 hH ?hyr2_1 ?_
     case hyr2_1=>((iterate 9 apply dF;rfl;kernel_rfl;intro w' hSw;replace hSw:=aB hSw;(try dsimp only at hSw);have q0:=hSw.1;have q1:=hSw.2.1;have q2:=hSw.2.2.1;have q3:=hSw.2.2.2.1;have q4:=hSw.2.2.2.2;(try simp only [sB,sC]);go_simp;(try with_reducible rfl));exact dD)
     simp only [sB,sC];refine ak (by kernel_rfl) ?_ _ _;refine NoPanic.normal ?_;clear hWr2;replace hH:=aB hH
     (try dsimp only at hH)
     have q0:=hH.1;have q1:=hH.2.1;have q2:=hH.2.2.1;have q3:=hH.2.2.2.1;have q4:=hH.2.2.2.2;clear hH;have hB2:=aj q4 hB;clear c0 c1 d0 d1 q0 q1 q2 q3 q4 hBd;generalize wo.drew=wq at *
     go_wp2
     go_returns
     exact bg HNE.out.symm hB2
   ·have hge : N ≤ i := by omega
    have HEQ2:Hid (decide (l=r)=true):=by
     refine decide_eq_true (List.ext_getElem (by have:=HN.out;have:=HRN.out;omega) fun j h1 h2=>?_);exact HEQ.out j h1 h2 (by have:=HN.out;omega)
    clear HEQ;go_wp2
    go_returns
    exact bg HEQ2.out.symm hB
 ·have hne : ((l.length : Int) != (r.length : Int)) = true := by simp; omega
  have HNE:Hid (decide (l=r)=false):=decide_eq_false fun h=>hlen (by rw [h])
  clear hlen
  go_enter Tryz.func32,Tryz.ntmps32
  go_wp2
  go_returns
  exact bg HNE.out.symm (Below.refl _ _)
end
end Go.Proofs.YtokgmcomgflloaaGreat
