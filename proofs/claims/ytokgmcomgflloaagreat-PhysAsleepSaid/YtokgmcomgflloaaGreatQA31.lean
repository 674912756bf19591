/- Parts of a proof: contracts and laws. -/
import Derived.Test.YtokgmcomgflloaaGreatQA30
import Derived.Test.YtokgmcomgflloaaGreatQA02
import Derived.Test.YtokgmcomgflloaaGreatQA07
set_option maxRecDepth 100000
set_option maxHeartbeats 16000000
namespace Go.Proofs.YtokgmcomgflloaaGreat
section
set_option linter.unusedVariables false
set_option linter.unusedSimpArgs false
open Go.RowKit
variable {w0 w w':World}

structure Vm (w : World) (g : Nat) (x y : Int) : Prop where
 a:w.cell? ⟨g,0,none⟩=some (.int .i64 x)
 b:w.cell? ⟨g,1,none⟩=some (.int .i64 y)
 f:∀ j,w.frozen? ⟨g,j,none⟩=false
theorem fH {g:Nat} {x y:Int} (hb:Below w.heap.size w w') (h:Vm w g x y):Vm w' g x y :=
 ⟨keepCell hb h.a,keepCell hb h.b,fun j=>((dF hb).2 _ _ (lt_of_cell h.a)).trans (h.f j)⟩
theorem Vm.lt {g:Nat} {x y:Int} (h:Vm w g x y):g<w.heap.size:=lt_of_cell h.a
theorem Vm.drew {g:Nat} {x y:Int} (h:Vm w g x y):Vm w.drew g x y:=⟨h.a,h.b,h.f⟩
theorem Vm.vz {g:Nat} {x y:Int} (h:Vm w g x y):VZ w g:=⟨⟨_,_,h.a,h.b⟩,h.f⟩
theorem Vm.here (w:World) (x y:Int) (t:TypeId):Vm (w.alloc (.cells #[.int .i64 x,.int .i64 y] t)) w.heap.size x y:=⟨by go_simp,by go_simp,fun j=>by go_simp⟩
abbrev yX (w:World) (g:Nat) (x y:Int):World:=(w.setCell ⟨g,0,none⟩ (.int .i64 x)).setCell ⟨g,1,none⟩ (.int .i64 y)
theorem Vm.new {g:Nat} (h:VZ w g) (x y:Int):Vm (yX w g x y) g x y:=by
 obtain ⟨⟨_,_,z0,z1⟩,zf⟩:=h;have hgl:=lt_of_cell z0;exact ⟨by go_simp,by go_simp,fun j=>by go_simp⟩
theorem Vm.set {g:Nat} {a b:Int} (h:Vm w g a b) (x y:Int):Vm (yX w g x y) g x y:=Vm.new h.vz x y
theorem Vm.off2 {g k:Nat} {x y:Int} (h:Vm w g x y) (hne:k≠g) (a b:Int):Vm (yX w k a b) g x y :=
 ⟨lW hne h.a,lW hne h.b,fun j=>by rw [World.frozen?_setCell,World.frozen?_setCell];exact h.f j⟩
theorem VZ.off2 {g k:Nat} (h:VZ w g) (hne:k≠g) (a b:Int):VZ (yX w k a b) g:=by
 obtain ⟨⟨u,v,z0,z1⟩,zf⟩:=h;exact ⟨⟨u,v,lW hne z0,lW hne z1⟩,fun j=>by rw [World.frozen?_setCell,World.frozen?_setCell];exact zf j⟩
theorem gH {B:Nat} {w w':World} (h:Below B w w') {g:Nat} (hg:B≤g) (x y:Int):Below B w (yX w' g x y):=(h.setCell (p:=⟨g,0,none⟩) hg _).setCell (p:=⟨g,1,none⟩) hg _

def tT (p at_ way:V):Int:=(p.1-at_.1)*way.1+(p.2-at_.2)*way.2
def kL (p q:V) (a b:Int):(V × V) × Bool :=
 if a<0∧b<0 then ((p,q),false)
 else if a<0 then (((p.1+kH (q.1-p.1) a b,p.2+kH (q.2-p.2) a b),q),true)
 else if b<0 then ((p,(p.1+kH (q.1-p.1) a b,p.2+kH (q.2-p.2) a b)),true)
 else ((p,q),true)
def mW (p q at_ way:V):(V × V) × Bool:=kL p q (tT p at_ way) (tT q at_ way)
def P5 (r:(V × V) × Bool):Value:=.tuple #[aR r.1.1.1 r.1.1.2,aR r.1.2.1 r.1.2.2,.bool r.2]
theorem Hf {p at_ way:V} (h1:aI 65536000 p.1 p.2=true) (h2:aI 65536000 at_.1 at_.2=true) (h3:aI 131072000 way.1 way.2=true) : -36028797018963968≤tT p at_ way∧tT p at_ way≤36028797018963968:=by
 obtain ⟨_,_,_,_⟩:=aD.1 h1;obtain ⟨_,_,_,_⟩:=aD.1 h2;obtain ⟨_,_,_,_⟩:=aD.1 h3;have m1:=dh (x:=p.1-at_.1) (y:=way.1) (M:=131072000) (N:=131072000) (by omega) (by omega) (by omega) (by omega);have m2:=dh (x:=p.2-at_.2) (y:=way.2) (M:=131072000) (N:=131072000) (by omega) (by omega) (by omega) (by omega);unfold tT;omega

theorem xw {p q:V} {a b:Int} (h1:aI 65536000 p.1 p.2=true) (h2:aI 65536000 q.1 q.2=true):aI 65536000 (kL p q a b).1.1.1 (kL p q a b).1.1.2=true∧aI 65536000 (kL p q a b).1.2.1 (kL p q a b).1.2.2=true:=by
 obtain ⟨_,_,_,_⟩:=aD.1 h1;obtain ⟨_,_,_,_⟩:=aD.1 h2;unfold kL
 by_cases ha:a<0 <;> by_cases hb:b<0
 ·rw [if_pos ⟨ha,hb⟩];exact ⟨h1,h2⟩
 ·have k1 := jW (D := q.1 - p.1) (a := a) (b := b) (by omega) (by omega);have k2:=jW (D:=q.2-p.2) (a:=a) (b:=b) (by omega) (by omega);rw [if_neg (by omega),if_pos ha];exact ⟨aD.2 (by dsimp only;omega),h2⟩
 ·have k1 := jW (D := q.1 - p.1) (a := a) (b := b) (by omega) (by omega);have k2:=jW (D:=q.2-p.2) (a:=a) (b:=b) (by omega) (by omega);rw [if_neg (by omega),if_neg ha,if_pos hb];exact ⟨h1,aD.2 (by dsimp only;omega)⟩
 ·rw [if_neg (by omega),if_neg ha,if_neg hb];exact ⟨h1,h2⟩
theorem vH (x1 y1 x2 y2 x3 y3 dx dy:Int) (hp:aI 65536000 x1 y1=true) (hq:aI 65536000 x2 y2=true) (ha:aI 65536000 x3 y3=true) (hd:aI 131072000 dx dy=true) (w:World) :
  Calls Tryz.prog 169 #[aR x1 y1,aR x2 y2,aR x3 y3,aR dx dy] w (dG (P5 (mW (x1,y1) (x2,y2) (x3,y3) (dx,dy))) w):=by
 have bA:=Hf (p:=(x1,y1)) (at_:=(x3,y3)) (way:=(dx,dy)) hp ha hd;have bB:=Hf (p:=(x2,y2)) (at_:=(x3,y3)) (way:=(dx,dy)) hq ha hd;obtain ⟨_,_,_,_⟩:=aD.1 hp;obtain ⟨_,_,_,_⟩:=aD.1 hq;obtain ⟨_,_,_,_⟩:=aD.1 ha;obtain ⟨_,_,_,_⟩:=aD.1 hd;have HM1:=hid (jq x1 y1 x3 y3 (by omega) (by omega));have HM2:=hid (jq x2 y2 x3 y3 (by omega) (by omega));have HD1:=hid (jf (x1-x3) (y1-y3) dx dy (by omega) (by omega) (by omega) (by omega));have HD2:=hid (jf (x2-x3) (y2-y3) dx dy (by omega) (by omega) (by omega) (by omega));have HBT0:=hid (fun a b h1 h2 h3=>xR x1 y1 x2 y2 a b hp hq h1 h2 h3);have HR:Hid (∀ a b,a=tT (x1,y1) (x3,y3) (dx,dy)→b=tT (x2,y2) (x3,y3) (dx,dy)→mW (x1,y1) (x2,y2) (x3,y3) (dx,dy)=kL (x1,y1) (x2,y2) a b):=fun a b e1 e2=>by rw [e1,e2];rfl
 change -36028797018963968≤(x1-x3)*dx+(y1-y3)*dy∧(x1-x3)*dx+(y1-y3)*dy≤36028797018963968 at bA
 change -36028797018963968≤(x2-x3)*dx+(y2-y3)*dy∧(x2-x3)*dx+(y2-y3)*dy≤36028797018963968 at bB
 obtain ⟨a,hae⟩:∃ a,a=(x1-x3)*dx+(y1-y3)*dy:=⟨_,rfl⟩;obtain ⟨b,hbe⟩:∃ b,b=(x2-x3)*dx+(y2-y3)*dy:=⟨_,rfl⟩;have HC:=hid (HR.out a b hae hbe);rw [← hae] at HD1 bA;rw [← hbe] at HD2 bB;obtain ⟨R,hR⟩:∃ R,R=mW (x1,y1) (x2,y2) (x3,y3) (dx,dy):=⟨_,rfl⟩;rw [← hR] at HC ⊢;clear hae hbe HR hR hp hq ha hd;obtain ⟨W,hW⟩:∃ W,W=(((((w.alloc (.cells #[.int .i64 x1,.int .i64 y1] 24)).alloc (.cells #[.int .i64 x2,.int .i64 y2] 24)).alloc (.cells #[.int .i64 x3,.int .i64 y3] 24)).alloc (.cells #[.int .i64 dx,.int .i64 dy] 24)).alloc (.cells #[.int .i64 0,.int .i64 0] 24)).alloc (.cells #[.int .i64 0,.int .i64 0] 24):=⟨_,rfl⟩;obtain ⟨g9,e9⟩:∃ g,g=w.heap.size+1+1+1+1+1:=⟨_,rfl⟩;obtain ⟨g8,e8⟩:∃ g,g=w.heap.size+1+1+1+1:=⟨_,rfl⟩;obtain ⟨g7,e7⟩:∃ g,g=w.heap.size+1+1+1:=⟨_,rfl⟩;obtain ⟨g6,e6⟩:∃ g,g=w.heap.size+1+1:=⟨_,rfl⟩;obtain ⟨g5,e5⟩:∃ g,g=w.heap.size+1:=⟨_,rfl⟩;obtain ⟨g4,e4⟩:∃ g,g=w.heap.size:=⟨_,rfl⟩;have h4:Vm W g4 x1 y1:=by rw [hW,e4];exact ⟨by go_simp,by go_simp,fun j=>by go_simp⟩
 have h5:Vm W g5 x2 y2:=by rw [hW,e5];exact ⟨by go_simp,by go_simp,fun j=>by go_simp⟩
 have h6:Vm W g6 x3 y3:=by rw [hW,e6];exact ⟨by go_simp,by go_simp,fun j=>by go_simp⟩
 have h7:Vm W g7 dx dy:=by rw [hW,e7];exact ⟨by go_simp,by go_simp,fun j=>by go_simp⟩
 have h8:VZ W g8:=by rw [hW,e8];exact ⟨⟨.int .i64 0,.int .i64 0,by go_simp,by go_simp⟩,fun j=>by go_simp⟩
 have h9:VZ W g9:=by rw [hW,e9];exact ⟨⟨.int .i64 0,.int .i64 0,by go_simp,by go_simp⟩,fun j=>by go_simp⟩
 have hB:Below w.heap.size w W:=by rw [hW];go_grown
 have n85:g8≠g5:=by omega
 have n89:g8≠g9:=by omega
 have n98:g9≠g8:=by omega
 have n45:g4≠g5:=by omega
 have n54:g5≠g4:=by omega
 have n48:g4≠g8:=by omega
 have n58:g5≠g8:=by omega
 have n49:g4≠g9:=by omega
 have n59:g5≠g9:=by omega
 have n4:w.heap.size≤g4:=by omega
 have n5:w.heap.size≤g5:=by omega
 have n8:w.heap.size≤g8:=by omega
 have n9:w.heap.size≤g9:=by omega
 go_enter Tryz.func169,Tryz.ntmps169
 go_upto_region 1 with fail
 rw [← hW,← e9,← e8,← e7,← e6,← e5];simp only [← e4];clear hW e4 e5 e6 e7 e8 e9;refine wp_region_noPanic ?_;refine au (S:=(S2 (fun w'=>Vm w' g4 (x1) (y1)∧Vm w' g5 (x2) (y2)∧Vm w' g6 (x3) (y3)∧Vm w' g7 (dx) (dy)∧VZ w' g8∧VZ w' g9∧Below w.heap.size w w'))) (T:=(fun _=>0)) (by kernel_rfl) (aC ⟨h4.drew,h5.drew,h6.drew,h7.drew,h8.drew,h9.drew,hB.drew⟩) (fun hH=>?_);have hWr1:aH (S2 (fun w'=>Vm w' g4 (x1) (y1)∧Vm w' g5 (x2) (y2)∧Vm w' g6 (x3) (y3)∧Vm w' g7 (dx) (dy)∧VZ w' g8∧VZ w' g9∧Below w.heap.size w w')):=aK _;refine dn [(0,13),(1,14),(3,16),(5,18),(6,19),(8,21)] 6 0 0 (L':=?Lr1_1) hWr1 hH ?yr1_1 ?_
 case yr1_1=>((iterate 6 apply dA;rfl;kernel_rfl;intro w' hSw;replace hSw:=aA hSw;(try dsimp only at hSw);have q0:=hSw.1;have q1:=hSw.2.1;have q2:=hSw.2.2.1;have q3:=hSw.2.2.2.1;have q4:=hSw.2.2.2.2.1;have q5:=hSw.2.2.2.2.2.1;have q6:=hSw.2.2.2.2.2.2;obtain ⟨qa0_0,qa0_1,-⟩:=q0;obtain ⟨qa1_0,qa1_1,-⟩:=q1;obtain ⟨qa2_0,qa2_1,-⟩:=q2;obtain ⟨qa3_0,qa3_1,-⟩:=q3;(try simp only [sB,sC]);go_simp;(try with_reducible rfl));exact dw)
 simp only [sB,sC];refine U1 2 0 rfl (fun K hK=>?_)
 try clear hb
 go_simp
 (go_at_call 167;refine (HM1.out _).mono ?_;rintro e wn ⟨rfl,hb⟩)
 refine hK.out _ _ (aC (by have hG:=hH;replace hG:=aA hG;(try dsimp only at hG);have q0:=hG.1;have q1:=hG.2.1;have q2:=hG.2.2.1;have q3:=hG.2.2.2.1;have q4:=hG.2.2.2.2.1;have q5:=hG.2.2.2.2.2.1;have q6:=hG.2.2.2.2.2.2;exact ⟨fH hb q0,fH hb q1,fH hb q2,fH hb q3,aG hb q4,aG hb q5,aj hb q6⟩)) (fun hH2=>?_);clear hK K hH
 rename _=>hH
 try simp only [Act.put,sA,sB,sC]
 refine U1 4 0 rfl (fun K hK=>?_)
 try clear hb
 go_simp
 (go_at_call 166;refine (HD1.out _).mono ?_;rintro e wn ⟨rfl,hb⟩)
 refine hK.out _ _ (aC (by have hG:=hH;replace hG:=aA hG;(try dsimp only at hG);have q0:=hG.1;have q1:=hG.2.1;have q2:=hG.2.2.1;have q3:=hG.2.2.2.1;have q4:=hG.2.2.2.2.1;have q5:=hG.2.2.2.2.2.1;have q6:=hG.2.2.2.2.2.2;exact ⟨fH hb q0,fH hb q1,fH hb q2,fH hb q3,aG hb q4,aG hb q5,aj hb q6⟩)) (fun hH2=>?_);clear hK K hH
 rename _=>hH
 try simp only [Act.put,sA,sB,sC]
 refine U1 7 0 rfl (fun K hK=>?_)
 try clear hb
 go_simp
 (go_at_call 167;refine (HM2.out _).mono ?_;rintro e wn ⟨rfl,hb⟩)
 refine hK.out _ _ (aC (by have hG:=hH;replace hG:=aA hG;(try dsimp only at hG);have q0:=hG.1;have q1:=hG.2.1;have q2:=hG.2.2.1;have q3:=hG.2.2.2.1;have q4:=hG.2.2.2.2.1;have q5:=hG.2.2.2.2.2.1;have q6:=hG.2.2.2.2.2.2;exact ⟨fH hb q0,fH hb q1,fH hb q2,fH hb q3,aG hb q4,aG hb q5,aj hb q6⟩)) (fun hH2=>?_);clear hK K hH
 rename _=>hH
 try simp only [Act.put,sA,sB,sC]
 refine U1 9 0 rfl (fun K hK=>?_)
 try clear hb
 go_simp
 (go_at_call 166;refine (HD2.out _).mono ?_;rintro e wn ⟨rfl,hb⟩)
 refine hK.out _ _ (aC (by have hG:=hH;replace hG:=aA hG;(try dsimp only at hG);have q0:=hG.1;have q1:=hG.2.1;have q2:=hG.2.2.1;have q3:=hG.2.2.2.1;have q4:=hG.2.2.2.2.1;have q5:=hG.2.2.2.2.2.1;have q6:=hG.2.2.2.2.2.2;exact ⟨fH hb q0,fH hb q1,fH hb q2,fH hb q3,aG hb q4,aG hb q5,aj hb q6⟩)) (fun hH2=>?_);clear hK K hH
 rename _=>hH
 try simp only [Act.put,sA,sB,sC]
 refine dn [(10,11),(11,12)] 0 0 0 (L':=?Lr1_11) hWr1 hH ?yr1_11 ?_
 case yr1_11=>((iterate 2 apply dA;rfl;kernel_rfl;intro w' hSw;clear hSw;(try simp only [sB,sC]);go_simp;(try with_reducible rfl));exact dw)
 simp only [sB,sC];refine ak (by kernel_rfl) ?_ _ _;refine NoPanic.normal ?_;clear hWr1;replace hH:=aA hH
 (try dsimp only at hH)
 have q0:=hH.1;have q1:=hH.2.1;have q2:=hH.2.2.1;have q3:=hH.2.2.2.1;have q4:=hH.2.2.2.2.1;have q5:=hH.2.2.2.2.2.1;have q6:=hH.2.2.2.2.2.2;clear hH h4 h5 h6 h7 h8 h9 hB;have h4:=q0;have h5:=q1;have h8:=q4;have h9:=q5;have hB:=q6;clear q0 q1 q2 q3 q4 q5 q6 HM1 HM2 HD1 HD2
 try clear hb
 by_cases ha:a<0
 ·by_cases hb : b < 0
  ·have HC2 : Hid (R = (((x1, y1), (x2, y2)), false)) := by show _ = _; rw [HC.out]; unfold kL; rw [if_pos ⟨ha, hb⟩]
   clear HC HBT0
   go_upto_region 3 with fail
   refine wp_region_noPanic ?_;refine au (S:=(S3 (fun w'=>Vm w' g4 (x1) (y1)∧Vm w' g5 (x2) (y2)) (fun w'=>Vm w' g5 (x2) (y2)))) (T:=(fun j=>[0,0,1,2].getD j 0)) (by kernel_rfl) (iC ⟨h4.drew,h5.drew⟩) (fun hH=>?_);have hWr2:aH (S3 (fun w'=>Vm w' g4 (x1) (y1)∧Vm w' g5 (x2) (y2)) (fun w'=>Vm w' g5 (x2) (y2))):=fP (fun _ ⟨q0,q1⟩=>q1);refine Ut 0 30 4 0 0 (v:=?vr2_1) rfl hWr2 hH ?yr2_1 ?_
   case yr2_1=>(intro w' hSw;replace hSw:=dR hSw;(try dsimp only at hSw);have q0:=hSw.1;have q1:=hSw.2;obtain ⟨qa0_0,qa0_1,-⟩:=q0;obtain ⟨qa1_0,qa1_1,-⟩:=q1;go_simp;try (with_reducible rfl))
   simp only [sB,sC];refine Ut 1 31 3 1 0 (v:=?vr2_2) rfl hWr2 hH ?yr2_2 ?_
   case yr2_2=>(intro w' hSw;replace hSw:=rV hSw;(try dsimp only at hSw);have q1:=hSw;obtain ⟨qa1_0,qa1_1,-⟩:=q1;go_simp;try (with_reducible rfl))
   simp only [sB,sC];refine U1 2 1 rfl (fun K hK=>?_);obtain ⟨⟨_,_,z0,z1⟩,zf⟩:=id h8;have hgl:=lt_of_cell z0;go_simp;refine hK.out _ _ (rF ((h5.off2 n85 _ _).drew)) (fun hH2=>?_);clear hK K hH
   rename _=>hH
   try simp only [Act.put,sA,sB,sC]
   obtain ⟨wy,hwy⟩:∃ w',w'=((wn.setCell ⟨g8,0,none⟩ (.int .i64 (x1))).setCell ⟨g8,1,none⟩ (.int .i64 (y1))).drew:=⟨_,rfl⟩;have k8:Vm wy g8 (x1) (y1):=by rw [hwy];exact (Vm.new ⟨⟨_,_,z0,z1⟩,zf⟩ _ _).drew
   have k9:VZ wy g9:=by rw [hwy];exact (h9.off2 n89 _ _).drew
   have kB:Below w.heap.size w wy:=by rw [hwy];exact (gH hB n8 _ _).drew
   try rw [← hwy] at hH
   rw [← hwy];clear hwy z0 z1 zf hgl;refine U1 3 2 rfl (fun K hK=>?_);obtain ⟨⟨_,_,z0,z1⟩,zf⟩:=id k9;have hgl:=lt_of_cell z0;go_simp;refine hK.out _ _ (vR) (fun hH2=>?_);clear hK K hH
   rename _=>hH
   try simp only [Act.put,sA,sB,sC]
   obtain ⟨wz,hwz⟩:∃ w',w'=(wy.setCell ⟨g9,0,none⟩ (.int .i64 (x2))).setCell ⟨g9,1,none⟩ (.int .i64 (y2)):=⟨_,rfl⟩;have m8:Vm wz g8 (x1) (y1):=by rw [hwz];exact k8.off2 n98 _ _
   have m9:Vm wz g9 (x2) (y2):=by rw [hwz];exact Vm.new ⟨⟨_,_,z0,z1⟩,zf⟩ _ _
   have mB:Below w.heap.size w wz:=by rw [hwz];exact gH kB n9 _ _
   rw [← hwz];clear hwz z0 z1 zf hgl k8 k9 kB;refine Ut 4 10 0 2 2 (v:=?vr2_5) rfl hWr2 hH ?yr2_5 ?_
   case yr2_5=>(intro w' hSw;clear hSw;go_simp;try (with_reducible rfl))
   simp only [sB,sC];refine ak (by kernel_rfl) ?_ _ _;refine NoPanic.normal ?_;obtain ⟨r0,r1,-⟩:=m8;obtain ⟨t0,t1,-⟩:=m9;go_wp2;refine bodyPost_ret (v:=.tuple #[aR (x1) (y1),aR (x2) (y2),.bool false]) (by simp [results,Tryz.results169,go_sem,r0,r1,t0,t1]) rfl ⟨by rw [HC2.out];rfl,mB⟩
  ·have HC2 : Hid (R = (((x1 + kH (x2 - x1) a b, y1 + kH (y2 - y1) a b), (x2, y2)), true)) := by show _ = _; rw [HC.out]; unfold kL; rw [if_neg (fun h => hb h.2), if_pos ha]
   have HBT:=hid (HBT0.out a b bA bB (.inl ⟨ha,by omega⟩));generalize x1+kH (x2-x1) a b=u1 at *
   generalize y1+kH (y2-y1) a b=v1 at *
   clear HC HBT0;obtain ⟨k0,k1,-⟩:=id h4;obtain ⟨k2,k3,-⟩:=id h5
   go_wp2_with fail
   refine (HBT.out _).mono ?_;rintro e wb ⟨rfl,hb1⟩;clear k0 k1 k2 k3 HBT;replace h4:=fH hb1 h4;replace h5:=fH hb1 h5;replace h8:=aG hb1 h8;replace h9:=aG hb1 h9;replace hB:=aj hb1 hB;clear hb1;obtain ⟨c0,c1,cf⟩:=id h4;have hgl:=lt_of_cell c0;obtain ⟨wc,hwc⟩:∃ w',w'=(wb.setCell ⟨g4,0,none⟩ (.int .i64 (u1))).setCell ⟨g4,1,none⟩ (.int .i64 (v1)):=⟨_,rfl⟩;have j4:Vm wc g4 (u1) (v1):=by rw [hwc];exact Vm.set h4 _ _
   have j5:Vm wc g5 x2 y2:=by rw [hwc];exact h5.off2 n45 _ _
   have j8:VZ wc g8:=by rw [hwc];exact h8.off2 n48 _ _
   have j9:VZ wc g9:=by rw [hwc];exact h9.off2 n49 _ _
   have jB:Below w.heap.size w wc:=by rw [hwc];exact gH hB n4 _ _
   clear h4 h5 h8 h9 hB;have h4:=j4;have h5:=j5;have h8:=j8;have h9:=j9;have hB:=jB;clear j4 j5 j8 j9 jB
   go_upto_region 8 with fail
   rw [← hwc];clear hwc c0 c1 cf hgl;refine wp_region_noPanic ?_;refine au (S:=(S3 (fun w'=>Vm w' g4 (u1) (v1)∧Vm w' g5 (x2) (y2)) (fun w'=>Vm w' g5 (x2) (y2)))) (T:=(fun j=>[0,0,1,2].getD j 0)) (by kernel_rfl) (iC ⟨h4.drew,h5.drew⟩) (fun hH=>?_);have hWr3:aH (S3 (fun w'=>Vm w' g4 (u1) (v1)∧Vm w' g5 (x2) (y2)) (fun w'=>Vm w' g5 (x2) (y2))):=fP (fun _ ⟨q0,q1⟩=>q1);refine Ut 0 48 4 0 0 (v:=?vr3_1) rfl hWr3 hH ?yr3_1 ?_
   case yr3_1=>(intro w' hSw;replace hSw:=dR hSw;(try dsimp only at hSw);have q0:=hSw.1;have q1:=hSw.2;obtain ⟨qa0_0,qa0_1,-⟩:=q0;obtain ⟨qa1_0,qa1_1,-⟩:=q1;go_simp;try (with_reducible rfl))
   simp only [sB,sC];refine Ut 1 49 3 1 0 (v:=?vr3_2) rfl hWr3 hH ?yr3_2 ?_
   case yr3_2=>(intro w' hSw;replace hSw:=rV hSw;(try dsimp only at hSw);have q1:=hSw;obtain ⟨qa1_0,qa1_1,-⟩:=q1;go_simp;try (with_reducible rfl))
   simp only [sB,sC];refine U1 2 1 rfl (fun K hK=>?_);obtain ⟨⟨_,_,z0,z1⟩,zf⟩:=id h8;have hgl:=lt_of_cell z0;go_simp;refine hK.out _ _ (rF ((h5.off2 n85 _ _).drew)) (fun hH2=>?_);clear hK K hH
   rename _=>hH
   try simp only [Act.put,sA,sB,sC]
   obtain ⟨wy,hwy⟩:∃ w',w'=((wc.setCell ⟨g8,0,none⟩ (.int .i64 (u1))).setCell ⟨g8,1,none⟩ (.int .i64 (v1))).drew:=⟨_,rfl⟩;have k8:Vm wy g8 (u1) (v1):=by rw [hwy];exact (Vm.new ⟨⟨_,_,z0,z1⟩,zf⟩ _ _).drew
   have k9:VZ wy g9:=by rw [hwy];exact (h9.off2 n89 _ _).drew
   have kB:Below w.heap.size w wy:=by rw [hwy];exact (gH hB n8 _ _).drew
   try rw [← hwy] at hH
   rw [← hwy];clear hwy z0 z1 zf hgl;refine U1 3 2 rfl (fun K hK=>?_);obtain ⟨⟨_,_,z0,z1⟩,zf⟩:=id k9;have hgl:=lt_of_cell z0;go_simp;refine hK.out _ _ (vR) (fun hH2=>?_);clear hK K hH
   rename _=>hH
   try simp only [Act.put,sA,sB,sC]
   obtain ⟨wz,hwz⟩:∃ w',w'=(wy.setCell ⟨g9,0,none⟩ (.int .i64 (x2))).setCell ⟨g9,1,none⟩ (.int .i64 (y2)):=⟨_,rfl⟩;have m8:Vm wz g8 (u1) (v1):=by rw [hwz];exact k8.off2 n98 _ _
   have m9:Vm wz g9 (x2) (y2):=by rw [hwz];exact Vm.new ⟨⟨_,_,z0,z1⟩,zf⟩ _ _
   have mB:Below w.heap.size w wz:=by rw [hwz];exact gH kB n9 _ _
   rw [← hwz];clear hwz z0 z1 zf hgl k8 k9 kB;refine Ut 4 10 0 2 2 (v:=?vr3_5) rfl hWr3 hH ?yr3_5 ?_
   case yr3_5=>(intro w' hSw;clear hSw;go_simp;try (with_reducible rfl))
   simp only [sB,sC];refine ak (by kernel_rfl) ?_ _ _;refine NoPanic.normal ?_;obtain ⟨r0,r1,-⟩:=m8;obtain ⟨t0,t1,-⟩:=m9;go_wp2;refine bodyPost_ret (v:=.tuple #[aR (u1) (v1),aR (x2) (y2),.bool true]) (by simp [results,Tryz.results169,go_sem,r0,r1,t0,t1]) rfl ⟨by rw [HC2.out];rfl,mB⟩
 ·by_cases hb : b < 0
  ·have HC2 : Hid (R = (((x1, y1), (x1 + kH (x2 - x1) a b, y1 + kH (y2 - y1) a b)), true)) := by show _ = _; rw [HC.out]; unfold kL; rw [if_neg (fun h => ha h.1), if_neg ha, if_pos hb]
   have HBT:=hid (HBT0.out a b bA bB (.inr ⟨by omega,hb⟩));generalize x1+kH (x2-x1) a b=u1 at *
   generalize y1+kH (y2-y1) a b=v1 at *
   clear HC HBT0;obtain ⟨k0,k1,-⟩:=id h4;obtain ⟨k2,k3,-⟩:=id h5
   go_wp2_with fail
   refine (HBT.out _).mono ?_;rintro e wb ⟨rfl,hb1⟩;clear k0 k1 k2 k3 HBT;replace h4:=fH hb1 h4;replace h5:=fH hb1 h5;replace h8:=aG hb1 h8;replace h9:=aG hb1 h9;replace hB:=aj hb1 hB;clear hb1;obtain ⟨c0,c1,cf⟩:=id h5;have hgl:=lt_of_cell c0;obtain ⟨wc,hwc⟩:∃ w',w'=(wb.setCell ⟨g5,0,none⟩ (.int .i64 (u1))).setCell ⟨g5,1,none⟩ (.int .i64 (v1)):=⟨_,rfl⟩;have j5:Vm wc g5 (u1) (v1):=by rw [hwc];exact Vm.set h5 _ _
   have j4:Vm wc g4 x1 y1:=by rw [hwc];exact h4.off2 n54 _ _
   have j8:VZ wc g8:=by rw [hwc];exact h8.off2 n58 _ _
   have j9:VZ wc g9:=by rw [hwc];exact h9.off2 n59 _ _
   have jB:Below w.heap.size w wc:=by rw [hwc];exact gH hB n5 _ _
   clear h4 h5 h8 h9 hB;have h4:=j4;have h5:=j5;have h8:=j8;have h9:=j9;have hB:=jB;clear j4 j5 j8 j9 jB
   go_upto_region 8 with fail
   rw [← hwc];clear hwc c0 c1 cf hgl;refine wp_region_noPanic ?_;refine au (S:=(S3 (fun w'=>Vm w' g4 (x1) (y1)∧Vm w' g5 (u1) (v1)) (fun w'=>Vm w' g5 (u1) (v1)))) (T:=(fun j=>[0,0,1,2].getD j 0)) (by kernel_rfl) (iC ⟨h4.drew,h5.drew⟩) (fun hH=>?_);have hWr4:aH (S3 (fun w'=>Vm w' g4 (x1) (y1)∧Vm w' g5 (u1) (v1)) (fun w'=>Vm w' g5 (u1) (v1))):=fP (fun _ ⟨q0,q1⟩=>q1);refine Ut 0 48 4 0 0 (v:=?vr4_1) rfl hWr4 hH ?yr4_1 ?_
   case yr4_1=>(intro w' hSw;replace hSw:=dR hSw;(try dsimp only at hSw);have q0:=hSw.1;have q1:=hSw.2;obtain ⟨qa0_0,qa0_1,-⟩:=q0;obtain ⟨qa1_0,qa1_1,-⟩:=q1;go_simp;try (with_reducible rfl))
   simp only [sB,sC];refine Ut 1 49 3 1 0 (v:=?vr4_2) rfl hWr4 hH ?yr4_2 ?_
   case yr4_2=>(intro w' hSw;replace hSw:=rV hSw;(try dsimp only at hSw);have q1:=hSw;obtain ⟨qa1_0,qa1_1,-⟩:=q1;go_simp;try (with_reducible rfl))
   simp only [sB,sC];refine U1 2 1 rfl (fun K hK=>?_);obtain ⟨⟨_,_,z0,z1⟩,zf⟩:=id h8;have hgl:=lt_of_cell z0;go_simp;refine hK.out _ _ (rF ((h5.off2 n85 _ _).drew)) (fun hH2=>?_);clear hK K hH
   rename _=>hH
   try simp only [Act.put,sA,sB,sC]
   obtain ⟨wy,hwy⟩:∃ w',w'=((wc.setCell ⟨g8,0,none⟩ (.int .i64 (x1))).setCell ⟨g8,1,none⟩ (.int .i64 (y1))).drew:=⟨_,rfl⟩;have k8:Vm wy g8 (x1) (y1):=by rw [hwy];exact (Vm.new ⟨⟨_,_,z0,z1⟩,zf⟩ _ _).drew
   have k9:VZ wy g9:=by rw [hwy];exact (h9.off2 n89 _ _).drew
   have kB:Below w.heap.size w wy:=by rw [hwy];exact (gH hB n8 _ _).drew
   try rw [← hwy] at hH
   rw [← hwy];clear hwy z0 z1 zf hgl;refine U1 3 2 rfl (fun K hK=>?_);obtain ⟨⟨_,_,z0,z1⟩,zf⟩:=id k9;have hgl:=lt_of_cell z0;go_simp;refine hK.out _ _ (vR) (fun hH2=>?_);clear hK K hH
   rename _=>hH
   try simp only [Act.put,sA,sB,sC]
   obtain ⟨wz,hwz⟩:∃ w',w'=(wy.setCell ⟨g9,0,none⟩ (.int .i64 (u1))).setCell ⟨g9,1,none⟩ (.int .i64 (v1)):=⟨_,rfl⟩;have m8:Vm wz g8 (x1) (y1):=by rw [hwz];exact k8.off2 n98 _ _
   have m9:Vm wz g9 (u1) (v1):=by rw [hwz];exact Vm.new ⟨⟨_,_,z0,z1⟩,zf⟩ _ _
   have mB:Below w.heap.size w wz:=by rw [hwz];exact gH kB n9 _ _
   rw [← hwz];clear hwz z0 z1 zf hgl k8 k9 kB;refine Ut 4 10 0 2 2 (v:=?vr4_5) rfl hWr4 hH ?yr4_5 ?_
   case yr4_5=>(intro w' hSw;clear hSw;go_simp;try (with_reducible rfl))
   simp only [sB,sC];refine ak (by kernel_rfl) ?_ _ _;refine NoPanic.normal ?_;obtain ⟨r0,r1,-⟩:=m8;obtain ⟨t0,t1,-⟩:=m9;go_wp2;refine bodyPost_ret (v:=.tuple #[aR (x1) (y1),aR (u1) (v1),.bool true]) (by simp [results,Tryz.results169,go_sem,r0,r1,t0,t1]) rfl ⟨by rw [HC2.out];rfl,mB⟩
  ·have HC2 : Hid (R = (((x1, y1), (x2, y2)), true)) := by show _ = _; rw [HC.out]; unfold kL; rw [if_neg (fun h => ha h.1), if_neg ha, if_neg hb]
   clear HC HBT0
   go_upto_region 8 with fail
   refine wp_region_noPanic ?_;refine au (S:=(S3 (fun w'=>Vm w' g4 (x1) (y1)∧Vm w' g5 (x2) (y2)) (fun w'=>Vm w' g5 (x2) (y2)))) (T:=(fun j=>[0,0,1,2].getD j 0)) (by kernel_rfl) (iC ⟨h4.drew,h5.drew⟩) (fun hH=>?_);have hWr5:aH (S3 (fun w'=>Vm w' g4 (x1) (y1)∧Vm w' g5 (x2) (y2)) (fun w'=>Vm w' g5 (x2) (y2))):=fP (fun _ ⟨q0,q1⟩=>q1);refine Ut 0 48 4 0 0 (v:=?vr5_1) rfl hWr5 hH ?yr5_1 ?_
   case yr5_1=>(intro w' hSw;replace hSw:=dR hSw;(try dsimp only at hSw);have q0:=hSw.1;have q1:=hSw.2;obtain ⟨qa0_0,qa0_1,-⟩:=q0;obtain ⟨qa1_0,qa1_1,-⟩:=q1;go_simp;try (with_reducible rfl))
   simp only [sB,sC];refine Ut 1 49 3 1 0 (v:=?vr5_2) rfl hWr5 hH ?yr5_2 ?_
   case yr5_2=>(intro w' hSw;replace hSw:=rV hSw;(try dsimp only at hSw);have q1:=hSw;obtain ⟨qa1_0,qa1_1,-⟩:=q1;go_simp;try (with_reducible rfl))
   simp only [sB,sC];refine U1 2 1 rfl (fun K hK=>?_);obtain ⟨⟨_,_,z0,z1⟩,zf⟩:=id h8;have hgl:=lt_of_cell z0;go_simp;refine hK.out _ _ (rF ((h5.off2 n85 _ _).drew)) (fun hH2=>?_);clear hK K hH
   rename _=>hH
   try simp only [Act.put,sA,sB,sC]
   obtain ⟨wy,hwy⟩:∃ w',w'=((wn.setCell ⟨g8,0,none⟩ (.int .i64 (x1))).setCell ⟨g8,1,none⟩ (.int .i64 (y1))).drew:=⟨_,rfl⟩;have k8:Vm wy g8 (x1) (y1):=by rw [hwy];exact (Vm.new ⟨⟨_,_,z0,z1⟩,zf⟩ _ _).drew
   have k9:VZ wy g9:=by rw [hwy];exact (h9.off2 n89 _ _).drew
   have kB:Below w.heap.size w wy:=by rw [hwy];exact (gH hB n8 _ _).drew
   try rw [← hwy] at hH
   rw [← hwy];clear hwy z0 z1 zf hgl;refine U1 3 2 rfl (fun K hK=>?_);obtain ⟨⟨_,_,z0,z1⟩,zf⟩:=id k9;have hgl:=lt_of_cell z0;go_simp;refine hK.out _ _ (vR) (fun hH2=>?_);clear hK K hH
   rename _=>hH
   try simp only [Act.put,sA,sB,sC]
   obtain ⟨wz,hwz⟩:∃ w',w'=(wy.setCell ⟨g9,0,none⟩ (.int .i64 (x2))).setCell ⟨g9,1,none⟩ (.int .i64 (y2)):=⟨_,rfl⟩;have m8:Vm wz g8 (x1) (y1):=by rw [hwz];exact k8.off2 n98 _ _
   have m9:Vm wz g9 (x2) (y2):=by rw [hwz];exact Vm.new ⟨⟨_,_,z0,z1⟩,zf⟩ _ _
   have mB:Below w.heap.size w wz:=by rw [hwz];exact gH kB n9 _ _
   rw [← hwz];clear hwz z0 z1 zf hgl k8 k9 kB;refine Ut 4 10 0 2 2 (v:=?vr5_5) rfl hWr5 hH ?yr5_5 ?_
   case yr5_5=>(intro w' hSw;clear hSw;go_simp;try (with_reducible rfl))
   simp only [sB,sC];refine ak (by kernel_rfl) ?_ _ _;refine NoPanic.normal ?_;obtain ⟨r0,r1,-⟩:=m8;obtain ⟨t0,t1,-⟩:=m9;go_wp2;refine bodyPost_ret (v:=.tuple #[aR (x1) (y1),aR (x2) (y2),.bool true]) (by simp [results,Tryz.results169,go_sem,r0,r1,t0,t1]) rfl ⟨by rw [HC2.out];rfl,mB⟩
theorem pW (p q r1 r2 n1 n2 : Int) (gR gN : Nat) (hp : aI 65536000 p q = true) (hr : aI 65536000 r1 r2 = true) (hn1 : -131072000 ≤ n1 ∧ n1 ≤ 131072000) (hn2 : -131072000 ≤ n2 ∧ n2 ≤ 131072000) (w : World)
  (r_0':w.cell? ⟨gR,0,none⟩=some (.int .i64 r1)) (r_1':w.cell? ⟨gR,1,none⟩=some (.int .i64 r2)) (n_0':w.cell? ⟨gN,0,none⟩=some (.int .i64 n1)) (n_1':w.cell? ⟨gN,1,none⟩=some (.int .i64 n2)) :
  Calls Tryz.prog 165 #[aR p q,.pointer (some ⟨gR,0,none⟩),.pointer (some ⟨gN,0,none⟩)] w (dG (.tuple #[.int .i64 (cZ ((r1-p)*n1+(r2-q)*n2) (fQ n1 n2)),.bool (decide (0≤(r1-p)*n1+(r2-q)*n2))]) w):=by
 obtain ⟨_,_,_,_⟩:=aD.1 hp;obtain ⟨_,_,_,_⟩:=aD.1 hr;have m1:=dh (x:=r1-p) (y:=n1) (M:=131072000) (N:=131072000) (by omega) (by omega) (by omega) (by omega);have m2:=dh (x:=r2-q) (y:=n2) (M:=131072000) (N:=131072000) (by omega) (by omega) (by omega) (by omega);have HM:=hid (jq r1 r2 p q (by omega) (by omega));have HD:=hid (jf (r1-p) (r2-q) n1 n2 (by omega) (by omega) (by omega) (by omega));obtain ⟨D,hD⟩:∃ D,D=(r1-p)*n1+(r2-q)*n2:=⟨_,rfl⟩;rw [← hD] at HD ⊢;have bl:=Aq (x:=n1) (y:=n2) (by omega) (by omega);have hT:=kg D 1 (by omega) (by omega) (by omega) (by omega);rw [Int.mul_one] at hT;have HT:=hid hT;have HL:=hid (qM n1 n2 (by omega) (by omega));have HO:=hid (oh D (fQ n1 n2) (by omega) (by omega) (by omega) (by omega));generalize cZ D (fQ n1 n2)=Z at *
 generalize dQ D (fQ n1 n2)=E at *
 generalize fQ n1 n2=L at *
 clear hT hD m1 m2 bl hp hr;obtain ⟨W,hW⟩:∃ W,W=w.alloc (.cells #[.int .i64 p,.int .i64 q] 24):=⟨_,rfl⟩;have p_0:W.cell? ⟨w.heap.size,0,none⟩=some (.int .i64 p):=by rw [hW];go_simp
 have p_1:W.cell? ⟨w.heap.size,1,none⟩=some (.int .i64 q):=by rw [hW];go_simp
 have hB:Below w.heap.size w W:=by rw [hW];go_grown
 have r_0:=keepCell hB r_0';have r_1:=keepCell hB r_1';have n_0:=keepCell hB n_0';have n_1:=keepCell hB n_1';clear r_0' r_1' n_0' n_1'
 go_enter Tryz.func165,Tryz.ntmps165
 go_upto_region 1 with fail
 rw [← hW];clear hW;refine wp_region_noPanic ?_;refine au (S:=(S2 (fun w'=>w'.cell? ⟨gR,0,none⟩=some (.int .i64 (r1))∧w'.cell? ⟨gR,1,none⟩=some (.int .i64 (r2))∧w'.cell? ⟨gN,0,none⟩=some (.int .i64 (n1))∧w'.cell? ⟨gN,1,none⟩=some (.int .i64 (n2))∧w'.cell? ⟨w.heap.size,0,none⟩=some (.int .i64 (p))∧w'.cell? ⟨w.heap.size,1,none⟩=some (.int .i64 (q))∧Below w.heap.size w w'))) (T:=(fun _=>0)) (by kernel_rfl) (aC ⟨r_0,r_1,n_0,n_1,p_0,p_1,hB.drew⟩) (fun hH=>?_);have hWr1:aH (S2 (fun w'=>w'.cell? ⟨gR,0,none⟩=some (.int .i64 (r1))∧w'.cell? ⟨gR,1,none⟩=some (.int .i64 (r2))∧w'.cell? ⟨gN,0,none⟩=some (.int .i64 (n1))∧w'.cell? ⟨gN,1,none⟩=some (.int .i64 (n2))∧w'.cell? ⟨w.heap.size,0,none⟩=some (.int .i64 (p))∧w'.cell? ⟨w.heap.size,1,none⟩=some (.int .i64 (q))∧Below w.heap.size w w')):=aK _;refine dn [(0,9),(1,10),(3,12)] 3 0 0 (L':=?Lr1_1) hWr1 hH ?yr1_1 ?_
 case yr1_1=>((iterate 3 apply dA;rfl;kernel_rfl;intro w' hSw;replace hSw:=aA hSw;(try dsimp only at hSw);have q0:=hSw.1;have q1:=hSw.2.1;have q2:=hSw.2.2.1;have q3:=hSw.2.2.2.1;have q4:=hSw.2.2.2.2.1;have q5:=hSw.2.2.2.2.2.1;have q6:=hSw.2.2.2.2.2.2;(try simp only [sB,sC]);go_simp;(try with_reducible rfl));exact dw)
 simp only [sB,sC];refine U1 2 0 rfl (fun K hK=>?_)
 try clear hb
 go_simp
 (go_at_call 167;refine (HM.out _).mono ?_;rintro e wn ⟨rfl,hb⟩)
 refine hK.out _ _ (aC (by have hG:=hH;replace hG:=aA hG;(try dsimp only at hG);have q0:=hG.1;have q1:=hG.2.1;have q2:=hG.2.2.1;have q3:=hG.2.2.2.1;have q4:=hG.2.2.2.2.1;have q5:=hG.2.2.2.2.2.1;have q6:=hG.2.2.2.2.2.2;exact ⟨keepCell hb q0,keepCell hb q1,keepCell hb q2,keepCell hb q3,keepCell hb q4,keepCell hb q5,aj hb q6⟩)) (fun hH2=>?_);clear hK K hH
 rename _=>hH
 try simp only [Act.put,sA,sB,sC]
 refine U1 4 0 rfl (fun K hK=>?_)
 try clear hb
 go_simp
 (go_at_call 166;refine (HD.out _).mono ?_;rintro e wn ⟨rfl,hb⟩)
 refine hK.out _ _ (aC (by have hG:=hH;replace hG:=aA hG;(try dsimp only at hG);have q0:=hG.1;have q1:=hG.2.1;have q2:=hG.2.2.1;have q3:=hG.2.2.2.1;have q4:=hG.2.2.2.2.1;have q5:=hG.2.2.2.2.2.1;have q6:=hG.2.2.2.2.2.2;exact ⟨keepCell hb q0,keepCell hb q1,keepCell hb q2,keepCell hb q3,keepCell hb q4,keepCell hb q5,aj hb q6⟩)) (fun hH2=>?_);clear hK K hH
 rename _=>hH
 try simp only [Act.put,sA,sB,sC]
 refine Ut 5 6 0 0 0 (v:=?vr1_6) rfl hWr1 hH ?yr1_6 ?_
 case yr1_6=>(intro w' hSw;clear hSw;go_simp;try (with_reducible rfl))
 simp only [sB,sC];refine ak (by kernel_rfl) ?_ _ _;refine NoPanic.normal ?_;clear hWr1;replace hH:=aA hH
 (try dsimp only at hH)
 have q0:=hH.1;have q1:=hH.2.1;have q2:=hH.2.2.1;have q3:=hH.2.2.2.1;have q4:=hH.2.2.2.2.1;have q5:=hH.2.2.2.2.2.1;have q6:=hH.2.2.2.2.2.2;clear hH;clear r_0 r_1 n_0 n_1 p_0 p_1 hB q0 q1 q4 q5 HM HD
 try clear hb
 have n_0:=q2;have n_1:=q3;have hB:=q6;clear q2 q3 q6
 go_upto_region 2 with fail
 refine wp_region_noPanic ?_;refine au (S:=(S2 (fun w'=>w'.cell? ⟨gN,0,none⟩=some (.int .i64 (n1))∧w'.cell? ⟨gN,1,none⟩=some (.int .i64 (n2))∧Below w.heap.size w w'))) (T:=(fun _=>0)) (by kernel_rfl) (aC ⟨n_0,n_1,hB.drew⟩) (fun hH=>?_);have hWr2:aH (S2 (fun w'=>w'.cell? ⟨gN,0,none⟩=some (.int .i64 (n1))∧w'.cell? ⟨gN,1,none⟩=some (.int .i64 (n2))∧Below w.heap.size w w')):=aK _;refine dn [(0,15),(2,17)] 8 0 0 (L':=?Lr2_1) hWr2 hH ?yr2_1 ?_
 case yr2_1=>((iterate 2 apply dA;rfl;kernel_rfl;intro w' hSw;replace hSw:=aA hSw;(try dsimp only at hSw);have q0:=hSw.1;have q1:=hSw.2.1;have q2:=hSw.2.2;(try simp only [sB,sC]);go_simp;(try with_reducible rfl));exact dw)
 simp only [sB,sC];refine U1 1 0 rfl (fun K hK=>?_)
 try clear hb
 go_simp
 (go_at_call 95;refine (HT.out _).mono ?_;rintro e wn ⟨rfl,hb⟩)
 refine hK.out _ _ (aC (by have hG:=hH;replace hG:=aA hG;(try dsimp only at hG);have q0:=hG.1;have q1:=hG.2.1;have q2:=hG.2.2;exact ⟨keepCell hb q0,keepCell hb q1,aj hb q2⟩)) (fun hH2=>?_);clear hK K hH
 rename _=>hH
 try simp only [Act.put,sA,sB,sC]
 refine U1 3 0 rfl (fun K hK=>?_)
 try clear hb
 go_simp
 (go_at_call 168;refine (HL.out _).mono ?_;rintro e wn ⟨rfl,hb⟩)
 refine hK.out _ _ (aC (by have hG:=hH;replace hG:=aA hG;(try dsimp only at hG);have q0:=hG.1;have q1:=hG.2.1;have q2:=hG.2.2;exact ⟨keepCell hb q0,keepCell hb q1,aj hb q2⟩)) (fun hH2=>?_);clear hK K hH
 rename _=>hH
 try simp only [Act.put,sA,sB,sC]
 refine U1 4 0 rfl (fun K hK=>?_)
 try clear hb
 go_simp
 (go_at_call 97;refine (HO.out _).mono ?_;rintro e wn ⟨rfl,hb⟩)
 refine hK.out _ _ (aC (by have hG:=hH;replace hG:=aA hG;(try dsimp only at hG);have q0:=hG.1;have q1:=hG.2.1;have q2:=hG.2.2;exact ⟨keepCell hb q0,keepCell hb q1,aj hb q2⟩)) (fun hH2=>?_);clear hK K hH
 rename _=>hH
 try simp only [Act.put,sA,sB,sC]
 refine dn [(5,14),(6,20),(7,21),(8,7),(9,8)] 0 0 0 (L':=?Lr2_6) hWr2 hH ?yr2_6 ?_
 case yr2_6=>((iterate 5 apply dA;rfl;kernel_rfl;intro w' hSw;clear hSw;(try simp only [sB,sC]);go_simp;(try with_reducible rfl));exact dw)
 simp only [sB,sC];refine ak (by kernel_rfl) ?_ _ _;refine NoPanic.normal ?_;clear hWr2;replace hH:=aA hH
 (try dsimp only at hH)
 have q0:=hH.1;have q1:=hH.2.1;have q2:=hH.2.2;clear hH;clear n_0 n_1 hB q0 q1 HT HL HO
 try clear hb
 go_wp2;refine bodyPost_ret (v:=.tuple #[.int .i64 Z,.bool (decide (0≤D))]) (by simp [results,Tryz.results165,go_sem]) rfl ⟨rfl,q2⟩
end
end Go.Proofs.YtokgmcomgflloaaGreat
