/- Parts of a proof: contracts and laws. -/
import Derived.Test.YtokgmcomgflloaaGreatQX30
import Derived.Test.YtokgmcomgflloaaGreatQX43
import Derived.Test.YtokgmcomgflloaaGreatQX04
set_option maxRecDepth 100000
set_option maxHeartbeats 16000000
namespace Go.Proofs.YtokgmcomgflloaaGreat
section
set_option linter.unusedVariables false
set_option linter.unusedSimpArgs false
open Go.RowKit
variable {w0 w w':World}

structure xL (w : World) (g : Nat) (a b c : Int) : Prop where
 a:w.cell? ⟨g,0,none⟩=some (.int .i64 a)
 b:w.cell? ⟨g,1,none⟩=some (.int .i64 b)
 c:w.cell? ⟨g,2,none⟩=some (.int .i64 c)
theorem Bt {g:Nat} {a b c:Int} (hb:Below w.heap.size w w') (h:xL w g a b c):xL w' g a b c:=⟨keepCell hb h.a,keepCell hb h.b,keepCell hb h.c⟩
theorem xL.drew {g:Nat} {a b c:Int} (h:xL w g a b c):xL w.drew g a b c:=⟨h.a,h.b,h.c⟩
theorem xL.here (w:World) (a b c:Int) (t:TypeId):xL (w.alloc (.cells #[.int .i64 a,.int .i64 b,.int .i64 c] t)) w.heap.size a b c:=⟨by go_simp,by go_simp,by go_simp⟩
theorem vR (x y:Ct) (w:World):Calls Tryz.prog 64 #[.agg #[.int .i64 x.a,.int .i64 x.b,.int .i64 x.id,.int .i64 x.px,.int .i64 x.py,.int .i64 x.nx,.int .i64 x.ny,.int .i64 x.dep,.int .i64 x.push,.int .i64 x.sli],.agg #[.int .i64 y.a,.int .i64 y.b,.int .i64 y.id,.int .i64 y.px,.int .i64 y.py,.int .i64 y.nx,.int .i64 y.ny,.int .i64 y.dep,.int .i64 y.push,.int .i64 y.sli]] w (dw (.int .i64 (Ad x y)) w):=by
 have HR:Hid (Ad x y=wu (lK x.a y.a) (lK x.b y.b) (lK x.id y.id)):=rfl;obtain ⟨gx,hgx⟩:∃ g,g=w.heap.size:=⟨_,rfl⟩;obtain ⟨gy,hgy⟩:∃ g,g=w.heap.size+1:=⟨_,rfl⟩;obtain ⟨w1,hw1⟩:∃ z,z=w.alloc (.cells #[.int .i64 x.a,.int .i64 x.b,.int .i64 x.id,.int .i64 x.px,.int .i64 x.py,.int .i64 x.nx,.int .i64 x.ny,.int .i64 x.dep,.int .i64 x.push,.int .i64 x.sli] 106):=⟨_,rfl⟩;obtain ⟨W,hW⟩:∃ z,z=w1.alloc (.cells #[.int .i64 y.a,.int .i64 y.b,.int .i64 y.id,.int .i64 y.px,.int .i64 y.py,.int .i64 y.nx,.int .i64 y.ny,.int .i64 y.dep,.int .i64 y.push,.int .i64 y.sli] 106):=⟨_,rfl⟩;have hb1:Below w.heap.size w w1:=by rw [hw1];exact (Below.refl _ _).alloc (Nat.le_refl _) _
 have hb2:Below w1.heap.size w1 W:=by rw [hW];exact (Below.refl _ _).alloc (Nat.le_refl _) _
 have hs1:w1.heap.size=gy:=by rw [hw1,hgy,World.size_alloc]
 have HX:=hid (jF hb2 (show Kg w1 gx x by rw [hw1,hgx];exact ⟨by go_simp,by go_simp,by go_simp,by go_simp,by go_simp,by go_simp,by go_simp,by go_simp,by go_simp,by go_simp⟩));have HY:=hid (show Kg W gy y by rw [hW,← hs1];exact ⟨by go_simp,by go_simp,by go_simp,by go_simp,by go_simp,by go_simp,by go_simp,by go_simp,by go_simp,by go_simp⟩);have HB:=hid (ah hb2 hb1);clear hb1 hb2 hs1
 go_enter Tryz.func64,Tryz.ntmps64
 go_upto_region 1 with fail
 rw [← hgy,← hgx,← hw1,← hW];clear hgx hgy hw1 hW;refine wp_region_noPanic ?_;refine au (S:=(S2 (fun w'=>Kg w' gx x∧Kg w' gy y∧Bq w w'))) (T:=(fun _=>0)) (by kernel_rfl) (aM ⟨HX.out.drew,HY.out.drew,⟨HB.out.drew⟩⟩) (fun hH=>?_);have hWr5:aO (S2 (fun w'=>Kg w' gx x∧Kg w' gy y∧Bq w w')):=aR _;refine gH [(0,7),(1,8),(2,9),(3,10),(4,11),(5,12),(7,14),(8,15),(9,16),(10,17),(11,18),(12,19)] 4 0 0 (L':=?Lr5_1) hWr5 hH ?yr5_1 ?_
 case yr5_1=>((iterate 12 apply gK;rfl;kernel_rfl;intro w' hSw;replace hSw:=aC hSw;(try dsimp only at hSw);have q0:=hSw.1;have q1:=hSw.2.1;have q2:=hSw.2.2;obtain ⟨qa0_0,qa0_1,qa0_2,qa0_3,qa0_4,qa0_5,qa0_6,qa0_7,qa0_8,qa0_9⟩:=id q0;obtain ⟨qa1_0,qa1_1,qa1_2,qa1_3,qa1_4,qa1_5,qa1_6,qa1_7,qa1_8,qa1_9⟩:=id q1;(try simp only [sB,sC]);go_simp;(try with_reducible rfl));exact gF)
 simp only [sB,sC];refine Ur [6,13] ?_;refine Uc 0 rfl (fun K hK=>?_) ?_
 ·try clear hb
  have hG:=hH;replace hG:=aC hG;(try dsimp only at hG);have q0:=hG.1;have q1:=hG.2.1;have q2:=hG.2.2;go_simp;refine hK.out _ _ (aM (by have hG:=hH;replace hG:=aC hG;(try dsimp only at hG);have q0:=hG.1;have q1:=hG.2.1;have q2:=hG.2.2;exact ⟨jF Ba q0,jF Ba q1,jm Ba q2⟩)) (fun hH2=>?_);clear hK K hH
  rename _=>hH
  try simp only [Act.put,sA,sB,sC]
  have hP:xL ((W.alloc (.cells #[.int .i64 x.a,.int .i64 x.b,.int .i64 x.id] 3)).drew) W.heap.size x.a x.b x.id:=xL.drew (xL.here W _ _ _ _);obtain ⟨gP,hgP⟩:∃ g,g=W.heap.size:=⟨_,rfl⟩;have hlP:w.heap.size≤gP:=by rw [hgP];exact q2.b.size
  rw [← hgP] at hP
  try rw [← hgP]
  clear hgP q0 q1 q2;generalize (W.alloc (.cells #[.int .i64 x.a,.int .i64 x.b,.int .i64 x.id] 3)).drew=wx6 at *
  refine Ut 14 5 2 0 0 (v:=?vr5_14) rfl hWr5 hH ?yr5_14 ?_
  case yr5_14=>(intro w' hSw;clear hSw;go_simp;try (with_reducible rfl))
  simp only [sB,sC];refine U1 13 0 rfl (fun K hK=>?_)
  try clear hb
  have hG:=hH;replace hG:=aC hG;(try dsimp only at hG);have q0:=hG.1;have q1:=hG.2.1;have q2:=hG.2.2;go_simp;refine hK.out _ _ (aM (by have hG:=hH;replace hG:=aC hG;(try dsimp only at hG);have q0:=hG.1;have q1:=hG.2.1;have q2:=hG.2.2;exact ⟨jF Ba q0,jF Ba q1,jm Ba q2⟩)) (fun hH2=>?_);clear hK K hH
  rename _=>hH
  try simp only [Act.put,sA,sB,sC]
  have hQ:xL (wx6.alloc (.cells #[.int .i64 y.a,.int .i64 y.b,.int .i64 y.id] 3)) wx6.heap.size y.a y.b y.id:=xL.here wx6 _ _ _ _;replace hP:=Bt ((Below.refl _ _).alloc (Nat.le_refl _) (.cells #[.int .i64 y.a,.int .i64 y.b,.int .i64 y.id] 3)) hP;obtain ⟨gQ,hgQ⟩:∃ g,g=wx6.heap.size:=⟨_,rfl⟩;have hlQ:w.heap.size≤gQ:=by rw [hgQ];exact q2.b.size
  rw [← hgQ] at hQ
  try rw [← hgQ]
  clear hgQ q0 q1 q2;generalize wx6.alloc (.cells #[.int .i64 y.a,.int .i64 y.b,.int .i64 y.id] 3)=wx13 at *
  refine Ut 15 6 0 0 0 (v:=?vr5_16) rfl hWr5 hH ?yr5_16 ?_
  case yr5_16=>(intro w' hSw;clear hSw;go_simp;try (with_reducible rfl))
  simp only [sB,sC];refine ak (by kernel_rfl) ?_ _ _;refine NoPanic.normal ?_;replace hH:=aC hH
  (try dsimp only at hH)
  have t0:=hH.1;have t1:=hH.2.1;have t2:=hH.2.2;have HB9:=hid t2.b;clear t0 t1 t2 hH
  try clear hlP
  try clear hlQ
  have hP0:=hP.a;have hQ0:=hQ.a;have lP:=lt_of_cell hP0;have lQ:=lt_of_cell hQ0
  go_wp2_with fail
  refine (rE gP gQ 3 3 x.a x.b x.id y.a y.b y.id _ hP.a hP.b hP.c hQ.a hQ.b hQ.c).mono ?_;rw [← HR.out];rintro e wz ⟨rfl,hbz⟩;have HBZ:=hid (ah hbz HB9.out);clear hP hQ hP0 hQ0 lP lQ hbz;go_wp2
  go_returns
  exact aj rfl HBZ.out
 refine Uc 0 rfl (fun K hK=>?_) ?_
 ·try clear hb
  have hG:=hH;replace hG:=aC hG;(try dsimp only at hG);have q0:=hG.1;have q1:=hG.2.1;have q2:=hG.2.2;go_simp;refine hK.out _ _ (aM (by have hG:=hH;replace hG:=aC hG;(try dsimp only at hG);have q0:=hG.1;have q1:=hG.2.1;have q2:=hG.2.2;exact ⟨jF Ba q0,jF Ba q1,jm Ba q2⟩)) (fun hH2=>?_);clear hK K hH
  rename _=>hH
  try simp only [Act.put,sA,sB,sC]
  have hQ:xL ((W.alloc (.cells #[.int .i64 y.a,.int .i64 y.b,.int .i64 y.id] 3)).drew) W.heap.size y.a y.b y.id:=xL.drew (xL.here W _ _ _ _);obtain ⟨gQ,hgQ⟩:∃ g,g=W.heap.size:=⟨_,rfl⟩;have hlQ:w.heap.size≤gQ:=by rw [hgQ];exact q2.b.size
  rw [← hgQ] at hQ
  try rw [← hgQ]
  clear hgQ q0 q1 q2;generalize (W.alloc (.cells #[.int .i64 y.a,.int .i64 y.b,.int .i64 y.id] 3)).drew=wx13 at *
  refine U1 6 0 rfl (fun K hK=>?_)
  try clear hb
  have hG:=hH;replace hG:=aC hG;(try dsimp only at hG);have q0:=hG.1;have q1:=hG.2.1;have q2:=hG.2.2;go_simp;refine hK.out _ _ (aM (by have hG:=hH;replace hG:=aC hG;(try dsimp only at hG);have q0:=hG.1;have q1:=hG.2.1;have q2:=hG.2.2;exact ⟨jF Ba q0,jF Ba q1,jm Ba q2⟩)) (fun hH2=>?_);clear hK K hH
  rename _=>hH
  try simp only [Act.put,sA,sB,sC]
  have hP:xL (wx13.alloc (.cells #[.int .i64 x.a,.int .i64 x.b,.int .i64 x.id] 3)) wx13.heap.size x.a x.b x.id:=xL.here wx13 _ _ _ _;replace hQ:=Bt ((Below.refl _ _).alloc (Nat.le_refl _) (.cells #[.int .i64 x.a,.int .i64 x.b,.int .i64 x.id] 3)) hQ;obtain ⟨gP,hgP⟩:∃ g,g=wx13.heap.size:=⟨_,rfl⟩;have hlP:w.heap.size≤gP:=by rw [hgP];exact q2.b.size
  rw [← hgP] at hP
  try rw [← hgP]
  clear hgP q0 q1 q2;generalize wx13.alloc (.cells #[.int .i64 x.a,.int .i64 x.b,.int .i64 x.id] 3)=wx6 at *
  refine gH [(14,5),(15,6)] 0 0 0 (L':=?Lr5_19) hWr5 hH ?yr5_19 ?_
  case yr5_19=>((iterate 2 apply gK;rfl;kernel_rfl;intro w' hSw;clear hSw;(try simp only [sB,sC]);go_simp;(try with_reducible rfl));exact gF)
  simp only [sB,sC];refine ak (by kernel_rfl) ?_ _ _;refine NoPanic.normal ?_;replace hH:=aC hH
  (try dsimp only at hH)
  have t0:=hH.1;have t1:=hH.2.1;have t2:=hH.2.2;have HB9:=hid t2.b;clear t0 t1 t2 hH
  try clear hlP
  try clear hlQ
  have hP0:=hP.a;have hQ0:=hQ.a;have lP:=lt_of_cell hP0;have lQ:=lt_of_cell hQ0
  go_wp2_with fail
  refine (rE gP gQ 3 3 x.a x.b x.id y.a y.b y.id _ hP.a hP.b hP.c hQ.a hQ.b hQ.c).mono ?_;rw [← HR.out];rintro e wz ⟨rfl,hbz⟩;have HBZ:=hid (ah hbz HB9.out);clear hP hQ hP0 hQ0 lP lQ hbz;go_wp2
  go_returns
  exact aj rfl HBZ.out
 exact bQ.nil
end
end Go.Proofs.YtokgmcomgflloaaGreat
