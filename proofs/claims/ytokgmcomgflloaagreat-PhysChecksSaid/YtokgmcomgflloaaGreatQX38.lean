/- Parts of a proof: contracts and laws. -/
import Derived.Test.YtokgmcomgflloaaGreatQX26
import Derived.Laws.StructEq
set_option maxRecDepth 100000
set_option maxHeartbeats 16000000
namespace Go.Proofs.YtokgmcomgflloaaGreat
section
set_option linter.unusedVariables false
set_option linter.unusedSimpArgs false
open Go.RowKit
variable {w0 w w':World}

structure Vb (w : World) (g : Nat) : Prop where
 c:(∃ v,w.cell? ⟨g,0,none⟩=some v)∧(∃ v,w.cell? ⟨g,1,none⟩=some v)∧(∃ v,w.cell? ⟨g,2,none⟩=some v)∧∃ v,w.cell? ⟨g,3,none⟩=some v
 f:∀ j,w.frozen? ⟨g,j,none⟩=false
theorem qR {g:Nat} (hb:Below w.heap.size w w') (h:Vb w g):Vb w' g:=by
 obtain ⟨⟨⟨v0,h0⟩,⟨v1,h1⟩,⟨v2,h2⟩,⟨v3,h3⟩⟩,hf⟩:=h;exact ⟨⟨⟨v0,keepCell hb h0⟩,⟨v1,keepCell hb h1⟩,⟨v2,keepCell hb h2⟩,⟨v3,keepCell hb h3⟩⟩,fun j=>((bX hb).2 _ _ (lt_of_cell h0)).trans (hf j)⟩
def wH (a b:Bx):Bx:=if iw a=false∧iw b=false then ((0,0),(0,0)) else if iw a=false then b else if iw b=false then a else ((min a.1.1 b.1.1,min a.1.2 b.1.2),(max a.2.1 b.2.1,max a.2.2 b.2.2))
theorem yP (a1 a2 a3 a4 b1 b2 b3 b4:Int) (w:World):Calls Tryz.prog 120 #[CP ((a1,a2),(a3,a4)),CP ((b1,b2),(b3,b4))] w (dw (CP (wH ((a1,a2),(a3,a4)) ((b1,b2),(b3,b4)))) w):=by
 have HJ:Hid (wH ((a1,a2),(a3,a4)) ((b1,b2),(b3,b4))=if iw ((a1,a2),(a3,a4))=false∧iw ((b1,b2),(b3,b4))=false then ((0,0),(0,0)) else if iw ((a1,a2),(a3,a4))=false then ((b1,b2),(b3,b4)) else if iw ((b1,b2),(b3,b4))=false then ((a1,a2),(a3,a4)) else ((min a1 b1,min a2 b2),(max a3 b3,max a4 b4))):=rfl;have HVA:=hid (kI a1 a2 a3 a4);have HVB:=hid (kI b1 b2 b3 b4);generalize wH ((a1,a2),(a3,a4)) ((b1,b2),(b3,b4))=J at *
 generalize iw ((a1,a2),(a3,a4))=va at *
 generalize iw ((b1,b2),(b3,b4))=vb at *
 obtain ⟨W,hW⟩:∃ W,W=((w.alloc (.cells #[.int .i64 a1,.int .i64 a2,.int .i64 a3,.int .i64 a4] 64)).alloc (.cells #[.int .i64 b1,.int .i64 b2,.int .i64 b3,.int .i64 b4] 64)).alloc (.cells #[.int .i64 0,.int .i64 0,.int .i64 0,.int .i64 0] 64):=⟨_,rfl⟩;have ca0:W.cell? ⟨w.heap.size,0,none⟩=some (.int .i64 a1):=by rw [hW];go_simp
 have ca1:W.cell? ⟨w.heap.size,1,none⟩=some (.int .i64 a2):=by rw [hW];go_simp
 have ca2:W.cell? ⟨w.heap.size,2,none⟩=some (.int .i64 a3):=by rw [hW];go_simp
 have ca3:W.cell? ⟨w.heap.size,3,none⟩=some (.int .i64 a4):=by rw [hW];go_simp
 have cb0:W.cell? ⟨w.heap.size+1,0,none⟩=some (.int .i64 b1):=by rw [hW];go_simp
 have cb1:W.cell? ⟨w.heap.size+1,1,none⟩=some (.int .i64 b2):=by rw [hW];go_simp
 have cb2:W.cell? ⟨w.heap.size+1,2,none⟩=some (.int .i64 b3):=by rw [hW];go_simp
 have cb3:W.cell? ⟨w.heap.size+1,3,none⟩=some (.int .i64 b4):=by rw [hW];go_simp
 have hB:Below w.heap.size w W:=by rw [hW];go_grown
 obtain ⟨g,hg⟩:∃ g,g=w.heap.size+2:=⟨_,rfl⟩;have HG:=hid hg
 have HZ:Hid (Vb W g):=by
  show Vb _ _;rw [hW,hg];exact ⟨⟨⟨.int .i64 0,by go_simp⟩,⟨.int .i64 0,by go_simp⟩,⟨.int .i64 0,by go_simp⟩,⟨.int .i64 0,by go_simp⟩⟩,fun j=>by go_simp⟩
 go_enter Tryz.func120,Tryz.ntmps120
 go_wp2_with fail
 rw [← hW];clear hW hg;refine (HVA.out _).mono ?_;rintro e v0 ⟨rfl,hb0⟩;replace ca0:=keepCell hb0 ca0;replace ca1:=keepCell hb0 ca1;replace ca2:=keepCell hb0 ca2;replace ca3:=keepCell hb0 ca3;replace cb0:=keepCell hb0 cb0;replace cb1:=keepCell hb0 cb1;replace cb2:=keepCell hb0 cb2;replace cb3:=keepCell hb0 cb3;replace HZ:=hid (qR hb0 HZ.out);replace hB:=ah hb0 hB;clear hb0
 cases va with
 | false =>
  go_wp2_with fail
  refine (HVB.out _).mono ?_;rintro e v1 ⟨rfl,hb1⟩;replace ca0:=keepCell hb1 ca0;replace ca1:=keepCell hb1 ca1;replace ca2:=keepCell hb1 ca2;replace ca3:=keepCell hb1 ca3;replace cb0:=keepCell hb1 cb0;replace cb1:=keepCell hb1 cb1;replace cb2:=keepCell hb1 cb2;replace cb3:=keepCell hb1 cb3;replace HZ:=hid (qR hb1 HZ.out);replace hB:=ah hb1 hB;clear hb1
  cases vb with
  | false =>
   have HR:Hid (J=((0,0),(0,0))):=by show _=_;rw [HJ.out];simp
   clear HJ;obtain ⟨⟨⟨y0,z0⟩,⟨y1,z1⟩,⟨y2,z2⟩,⟨y3,z3⟩⟩,zf⟩:=HZ.out;obtain rfl:g=w.heap.size+1+1:=HG.out;have hn1:¬ w.heap.size=w.heap.size+1+1:=by omega
   have hn2:¬ w.heap.size+1=w.heap.size+1+1:=by omega
   have hgl:=lt_of_cell z0;have hwg:w.heap.size≤w.heap.size+1+1:=by omega
   clear HVA HVB HZ;go_wp2;refine bodyPost_ret (v:=CP ((0,0),(0,0))) (by simp [results,Tryz.results120,go_sem,z0,z1,z2,z3]) rfl ⟨by rw [HR.out],by go_grown⟩
  | true =>
   have HR:Hid (J=((b1,b2),(b3,b4))):=by show _=_;rw [HJ.out];simp
   clear HJ
   go_wp2_with fail
   refine (HVA.out _).mono ?_;rintro e v2 ⟨rfl,hb2⟩;replace ca0:=keepCell hb2 ca0;replace ca1:=keepCell hb2 ca1;replace ca2:=keepCell hb2 ca2;replace ca3:=keepCell hb2 ca3;replace cb0:=keepCell hb2 cb0;replace cb1:=keepCell hb2 cb1;replace cb2:=keepCell hb2 cb2;replace cb3:=keepCell hb2 cb3;replace HZ:=hid (qR hb2 HZ.out);replace hB:=ah hb2 hB;clear hb2;obtain ⟨⟨⟨y0,z0⟩,⟨y1,z1⟩,⟨y2,z2⟩,⟨y3,z3⟩⟩,zf⟩:=HZ.out;obtain rfl:g=w.heap.size+1+1:=HG.out;have hn1:¬ w.heap.size=w.heap.size+1+1:=by omega
   have hn2:¬ w.heap.size+1=w.heap.size+1+1:=by omega
   have hgl:=lt_of_cell z0;have hwg:w.heap.size≤w.heap.size+1+1:=by omega
   clear HVA HVB HZ;go_wp2;refine bodyPost_ret (v:=CP ((b1,b2),(b3,b4))) (by simp [results,Tryz.results120,go_sem,z0,z1,z2,z3]) rfl ⟨by rw [HR.out],by go_grown⟩
 | true =>
  go_wp2_with fail
  refine (HVA.out _).mono ?_;rintro e v3 ⟨rfl,hb3⟩;replace ca0:=keepCell hb3 ca0;replace ca1:=keepCell hb3 ca1;replace ca2:=keepCell hb3 ca2;replace ca3:=keepCell hb3 ca3;replace cb0:=keepCell hb3 cb0;replace cb1:=keepCell hb3 cb1;replace cb2:=keepCell hb3 cb2;replace cb3:=keepCell hb3 cb3;replace HZ:=hid (qR hb3 HZ.out);replace hB:=ah hb3 hB;clear hb3
  go_wp2_with fail
  refine (HVB.out _).mono ?_;rintro e v4 ⟨rfl,hb4⟩;replace ca0:=keepCell hb4 ca0;replace ca1:=keepCell hb4 ca1;replace ca2:=keepCell hb4 ca2;replace ca3:=keepCell hb4 ca3;replace cb0:=keepCell hb4 cb0;replace cb1:=keepCell hb4 cb1;replace cb2:=keepCell hb4 cb2;replace cb3:=keepCell hb4 cb3;replace HZ:=hid (qR hb4 HZ.out);replace hB:=ah hb4 hB;clear hb4
  cases vb with
  | false =>
   have HR:Hid (J=((a1,a2),(a3,a4))):=by show _=_;rw [HJ.out];simp
   clear HJ;obtain ⟨⟨⟨y0,z0⟩,⟨y1,z1⟩,⟨y2,z2⟩,⟨y3,z3⟩⟩,zf⟩:=HZ.out;obtain rfl:g=w.heap.size+1+1:=HG.out;have hn1:¬ w.heap.size=w.heap.size+1+1:=by omega
   have hn2:¬ w.heap.size+1=w.heap.size+1+1:=by omega
   have hgl:=lt_of_cell z0;have hwg:w.heap.size≤w.heap.size+1+1:=by omega
   clear HVA HVB HZ;go_wp2;refine bodyPost_ret (v:=CP ((a1,a2),(a3,a4))) (by simp [results,Tryz.results120,go_sem,z0,z1,z2,z3]) rfl ⟨by rw [HR.out],by go_grown⟩
  | true =>
   have HR:Hid (J=((min a1 b1,min a2 b2),(max a3 b3,max a4 b4))):=by show _=_;rw [HJ.out];simp
   clear HJ;obtain ⟨⟨⟨y0,z0⟩,⟨y1,z1⟩,⟨y2,z2⟩,⟨y3,z3⟩⟩,zf⟩:=HZ.out;obtain rfl:g=w.heap.size+1+1:=HG.out;have hn1:¬ w.heap.size=w.heap.size+1+1:=by omega
   have hn2:¬ w.heap.size+1=w.heap.size+1+1:=by omega
   have hgl:=lt_of_cell z0;have hwg:w.heap.size≤w.heap.size+1+1:=by omega
   clear HVA HVB HZ;go_wp2;refine bodyPost_ret (v:=CP ((min a1 b1,min a2 b2),(max a3 b3,max a4 b4))) (by simp [results,Tryz.results120,go_sem,z0,z1,z2,z3]) rfl ⟨by rw [HR.out],by go_grown⟩
theorem aH.pair {b off:Nat} {l:List (Nat × Nat)} (h:aH aZ w b off l) {i:Nat} (hi:i<l.length) :
  w.cell? ⟨b,off+i*2,none⟩=some (.int .i64 (l[i].1:Nat))∧w.cell? ⟨b,off+i*2+1,none⟩=some (.int .i64 (l[i].2:Nat)):=⟨h.at_ i hi 0 _ rfl,h.at_ i hi 1 _ rfl⟩
end
end Go.Proofs.YtokgmcomgflloaaGreat
