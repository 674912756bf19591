/- Parts of a proof: contracts and laws. -/
import Derived.Test.YtokgmcomgflloaaGreatQA06
import Derived.Test.YtokgmcomgflloaaGreatQA02
set_option maxRecDepth 100000
set_option maxHeartbeats 16000000
namespace Go.Proofs.YtokgmcomgflloaaGreat
section
set_option linter.unusedVariables false
set_option linter.unusedSimpArgs false
open Go.RowKit
def KD (b:Bd) (jx jy u v:Int):Int:=dX (dX (qh (dI u b.px) (dI v b.py) jx jy) b.iner) 411775
def pushB (b:Bd) (l:List V) (jx jy u v:Int):Bd :=
 if aT b l≠0∨b.mass=0∨b.asleep=true then b
 else { b with vx:=bD (bT b.vx (dX jx b.mass)) 268435456,vy:=bD (bT b.vy (dX jy b.mass)) 268435456,spin:=bD (bT b.spin (KD b jx jy u v)) 16777216 }
theorem yL (b:Bd) (A:Option Addr) (n c:Nat) (l:List V) (jx jy u v:Int) (w:World) (hS:Sl w A n c l) (hl:l.length≤8796093022208):Calls Tryz.prog 177 #[dK b A n c,aR jx jy,aR u v] w (nK (pushB b l jx jy u v) l w):=by
 obtain ⟨W,hW⟩:∃ W,W=(((w.alloc (.cells #[.int .i64 b.px,.int .i64 b.py,.int .i64 b.vx,.int .i64 b.vy,.int .i64 b.ang,.int .i64 b.spin,.int .i64 b.mass,.int .i64 b.iner,.int .i64 b.bounce,.int .i64 b.rub,.slice A n c,.bool b.asleep,.int .i64 b.calm] 27)).alloc (.cells #[.int .i64 jx,.int .i64 jy] 24)).alloc (.cells #[.int .i64 u,.int .i64 v] 24)).alloc (.cells #[.int .i64 0,.int .i64 0,.int .i64 0,.int .i64 0,.int .i64 0,.int .i64 0,.int .i64 0,.int .i64 0,.int .i64 0,.int .i64 0,.slice none 0 0,.bool false,.int .i64 0] 27):=⟨_,rfl⟩;have HK0:=hid (show aL W w.heap.size b A n c by rw [hW];exact (((aL.here w b A n c _).alloc _).alloc _).alloc _);have HZ0:=hid (show fD W (w.heap.size+3) by rw [hW];have:=aL.here (((w.alloc (.cells #[.int .i64 b.px,.int .i64 b.py,.int .i64 b.vx,.int .i64 b.vy,.int .i64 b.ang,.int .i64 b.spin,.int .i64 b.mass,.int .i64 b.iner,.int .i64 b.bounce,.int .i64 b.rub,.slice A n c,.bool b.asleep,.int .i64 b.calm] 27)).alloc (.cells #[.int .i64 jx,.int .i64 jy] 24)).alloc (.cells #[.int .i64 u,.int .i64 v] 24)) mX none 0 0 27;simp only [mX] at this;exact fD.of (by simpa using this));have hB0:Below w.heap.size w W:=by rw [hW];go_grown
 have HS0:=hid (hS.below hB0);have j0:W.cell? ⟨w.heap.size+1,0,none⟩=some (.int .i64 jx):=by rw [hW];go_simp
 have j1:W.cell? ⟨w.heap.size+1,1,none⟩=some (.int .i64 jy):=by rw [hW];go_simp
 have p0:W.cell? ⟨w.heap.size+2,0,none⟩=some (.int .i64 u):=by rw [hW];go_simp
 have p1:W.cell? ⟨w.heap.size+2,1,none⟩=some (.int .i64 v):=by rw [hW];go_simp
 clear hS
 go_enter Tryz.func177,Tryz.ntmps177
 go_wp2_with fail
 rw [← hW];clear hW;have hsz0:=HZ0.out.lt;refine (zZ b A n c l _ HS0.out hl).mono ?_;rintro e w1 ⟨A1,n1,c1,rfl,hs1,hf1,hb1⟩;have HK1:=hid (aM hb1 HK0.out);have HZ1:=hid (cO hb1 HZ0.out);have hB1:=aj hb1 hB0;have HF2:Hid (∀ bx off,A1=some ⟨bx,off,none⟩→w.heap.size+3<bx):=fun bx off e=>by have:=hf1 bx off e;omega
 have HF1:Hid (∀ bx off,A1=some ⟨bx,off,none⟩→w.heap.size≤bx):=fun bx off e=>by have:=hf1 bx off e;omega
 have HS1:=hid hs1;obtain ⟨k0,k1,k2,k3,k4,k5,k6,k7,k8,k9,k10,k11,k12,kf⟩:=HK1.out;have hz0:=HK1.out.lt;replace j0:=keepCell hb1 j0;replace j1:=keepCell hb1 j1;replace p0:=keepCell hb1 p0;replace p1:=keepCell hb1 p1;clear hb1 HK0 HZ0 hB0 HS0 hs1 hf1
 go_wp2_with fail
 obtain ⟨wd,hwd⟩:∃ wd,wd=setBd w1 w.heap.size b A1 n1 c1:=⟨_,rfl⟩;have HKd:=hid (show aL wd w.heap.size b A1 n1 c1 by rw [hwd];exact jZ (fD.of HK1.out) b A1 n1 c1);have HZd:=hid (show fD wd (w.heap.size+3) by rw [hwd];exact HZ1.out.setBd _ _ _ _);have HSd:=hid (show Sl wd A1 n1 c1 l by rw [hwd];exact HS1.out.setBd b (fun bx off e=>by have:=HF2.out bx off e;omega));have hBd:Below w.heap.size w wd:=by rw [hwd];exact uO hB1 (Nat.le_refl _) _ _ _ _
 replace j0:wd.cell? ⟨w.heap.size+1,0,none⟩=some (.int .i64 jx):=by rw [hwd];unfold setBd;go_simp
 replace j1:wd.cell? ⟨w.heap.size+1,1,none⟩=some (.int .i64 jy):=by rw [hwd];unfold setBd;go_simp
 replace p0:wd.cell? ⟨w.heap.size+2,0,none⟩=some (.int .i64 u):=by rw [hwd];unfold setBd;go_simp
 replace p1:wd.cell? ⟨w.heap.size+2,1,none⟩=some (.int .i64 v):=by rw [hwd];unfold setBd;go_simp
 unfold setBd at hwd;rw [← hwd];clear hwd HK1 HZ1 HS1 hB1 hz0 kf k0 k1 k2 k3 k4 k5 k6 k7 k8 k9 k10 k11 k12;refine (iJ b A1 n1 c1 l _ HSd.out).mono ?_;rintro e w2 ⟨rfl,hb2⟩;replace j0:=keepCell hb2 j0;replace j1:=keepCell hb2 j1;replace p0:=keepCell hb2 p0;replace p1:=keepCell hb2 p1;have HK2:=hid (aM hb2 HKd.out);have HZ2:=hid (cO hb2 HZd.out);have HS2:=hid (gD hb2 HSd.out);have hB2:=aj hb2 hBd;clear hb2 hBd HKd HZd HSd;obtain ⟨k0,k1,k2,k3,k4,k5,k6,k7,k8,k9,k10,k11,k12,kf⟩:=HK2.out;have hz2:=HK2.out.lt
 by_cases hE:aT b l=0
 ·have HE := hid hE;rw [hE];clear hE
  by_cases hm:b.mass=0
  ·have hmb : (b.mass == 0) = true := by simp [hm]
   have HR:Hid (pushB b l jx jy u v=b):=by show _=_;unfold pushB;rw [if_pos (.inr (.inl hm))]
   obtain ⟨z0,z1,z2,z3,z4,z5,z6,z7,z8,z9,z10,z11,z12,y0,y1,y2,y3,y4,y5,y6,y7,y8,y9,y10,y11,y12⟩:=HZ2.out.all;have yf:=HZ2.out.free;have hl1:=HZ2.out.lt;go_wp2;refine bodyPost_ret (v:=dK b A1 n1 c1) (by simp [results,Tryz.results177,go_sem,y0,y1,y2,y3,y4,y5,y6,y7,y8,y9,y10,y11,y12,hl1] <;> simp [*]) rfl ⟨_,_,_,by rw [HR.out],?_,HF1.out,?_⟩
   ·iterate 13 refine Sl.setAt ?_ (fun bx off e => by have := HF2.out bx off e; omega)
    exact HS2.out
   ·go_grown
  ·have hmb : (b.mass == 0) = false := by simp [hm]
   cases ha:b.asleep with
   | true =>
    rw [ha] at k11;have HR:Hid (pushB b l jx jy u v=b):=by show _=_;unfold pushB;rw [if_pos (.inr (.inr ha))]
    obtain ⟨z0,z1,z2,z3,z4,z5,z6,z7,z8,z9,z10,z11,z12,y0,y1,y2,y3,y4,y5,y6,y7,y8,y9,y10,y11,y12⟩:=HZ2.out.all;have yf:=HZ2.out.free;have hl1:=HZ2.out.lt;go_wp2;refine bodyPost_ret (v:=dK b A1 n1 c1) (by simp [results,Tryz.results177,go_sem,y0,y1,y2,y3,y4,y5,y6,y7,y8,y9,y10,y11,y12,hl1] <;> simp [*]) rfl ⟨_,_,_,by rw [HR.out],?_,HF1.out,?_⟩
    ·iterate 13 refine Sl.setAt ?_ (fun bx off e => by have := HF2.out bx off e; omega)
     exact HS2.out
    ·go_grown
   | false =>
    rw [ha] at k11;have HCOND:Hid (¬ (aT b l≠0∨b.mass=0∨b.asleep=true)):=by show ¬ _;rintro (h | h | h);exact h HE.out;exact hm h;(rw [ha] at h;simp at h)
    go_wp2_with fail
    clear k0 k1 k2 k3 k4 k5 k6 k7 k8 k9 k10 k11 k12 kf;refine wp_region_noPanic ?_;refine au (S:=(S2 (fun w'=>aL w' w.heap.size b A1 n1 c1∧fD w' (w.heap.size+3)∧Sl w' A1 n1 c1 l∧Below w.heap.size w w'∧w'.cell? ⟨w.heap.size+1,0,none⟩=some (.int .i64 jx)∧w'.cell? ⟨w.heap.size+1,1,none⟩=some (.int .i64 jy)∧w'.cell? ⟨w.heap.size+2,0,none⟩=some (.int .i64 u)∧w'.cell? ⟨w.heap.size+2,1,none⟩=some (.int .i64 v)))) (T:=(fun _=>0)) (by kernel_rfl) (aC ⟨HK2.out.drew,HZ2.out.drew,HS2.out.drew',hB2.drew,j0,j1,p0,p1⟩) (fun hH=>?_);have hWr1:aH (S2 (fun w'=>aL w' w.heap.size b A1 n1 c1∧fD w' (w.heap.size+3)∧Sl w' A1 n1 c1 l∧Below w.heap.size w w'∧w'.cell? ⟨w.heap.size+1,0,none⟩=some (.int .i64 jx)∧w'.cell? ⟨w.heap.size+1,1,none⟩=some (.int .i64 jy)∧w'.cell? ⟨w.heap.size+2,0,none⟩=some (.int .i64 u)∧w'.cell? ⟨w.heap.size+2,1,none⟩=some (.int .i64 v))):=aK _;refine dn [(0,23),(1,24),(2,25),(4,27),(6,29),(7,30)] 5 0 0 (L':=?Lr1_1) hWr1 hH ?hyr1_1 ?_
    case hyr1_1=>((iterate 6 apply dA;rfl;kernel_rfl;intro w' hSw;replace hSw:=aA hSw;(try dsimp only at hSw);have q0:=hSw.1;have q1:=hSw.2.1;have q2:=hSw.2.2.1;have q3:=hSw.2.2.2.1;have q4:=hSw.2.2.2.2.1;have q5:=hSw.2.2.2.2.2.1;have q6:=hSw.2.2.2.2.2.2.1;have q7:=hSw.2.2.2.2.2.2.2;obtain ⟨qa0_0,qa0_1,qa0_2,qa0_3,qa0_4,qa0_5,qa0_6,qa0_7,qa0_8,qa0_9,qa0_10,qa0_11,qa0_12,qa0_f⟩:=id q0;have qa1_f:=q1.free;(try simp only [sB,sC]);go_simp;(try with_reducible rfl));exact dw)
    simp only [sB,sC];refine U1 3 0 rfl (fun K hK=>?_)
    try clear hb
    go_simp
    (go_at_call 11;refine (je u v b.px b.py _).mono ?_;rintro e wn ⟨rfl,hb⟩)
    refine hK.out _ _ ?hsr1_7 (fun hH2=>?hrr1_7)
    case hsr1_7=>exact aC (by have hG:=hH;replace hG:=aA hG;(try dsimp only at hG);have q0:=hG.1;have q1:=hG.2.1;have q2:=hG.2.2.1;have q3:=hG.2.2.2.1;have q4:=hG.2.2.2.2.1;have q5:=hG.2.2.2.2.2.1;have q6:=hG.2.2.2.2.2.2.1;have q7:=hG.2.2.2.2.2.2.2;exact ⟨aM hb q0,cO hb q1,gD hb q2,aj hb q3,keepCell hb q4,keepCell hb q5,keepCell hb q6,keepCell hb q7⟩)
    clear hK K hH;have hH:=hH2;clear hH2
    try simp only [Act.put,sA,sB,sC]
    refine U1 5 0 rfl (fun K hK=>?_)
    try clear hb
    go_simp
    (go_at_call 224;refine (rX (dI u b.px) (dI v b.py) jx jy _).mono ?_;rintro e wn ⟨rfl,hb⟩)
    refine hK.out _ _ ?hsr1_8 (fun hH2=>?hrr1_8)
    case hsr1_8=>exact aC (by have hG:=hH;replace hG:=aA hG;(try dsimp only at hG);have q0:=hG.1;have q1:=hG.2.1;have q2:=hG.2.2.1;have q3:=hG.2.2.2.1;have q4:=hG.2.2.2.2.1;have q5:=hG.2.2.2.2.2.1;have q6:=hG.2.2.2.2.2.2.1;have q7:=hG.2.2.2.2.2.2.2;exact ⟨aM hb q0,cO hb q1,gD hb q2,aj hb q3,keepCell hb q4,keepCell hb q5,keepCell hb q6,keepCell hb q7⟩)
    clear hK K hH;have hH:=hH2;clear hH2
    try simp only [Act.put,sA,sB,sC]
    refine U1 8 0 rfl (fun K hK=>?_)
    try clear hb
    go_simp
    (go_at_call 225;refine (iI (qh (dI u b.px) (dI v b.py) jx jy) b.iner _).mono ?_;rintro e wn ⟨rfl,hb⟩)
    refine hK.out _ _ ?hsr1_9 (fun hH2=>?hrr1_9)
    case hsr1_9=>exact aC (by have hG:=hH;replace hG:=aA hG;(try dsimp only at hG);have q0:=hG.1;have q1:=hG.2.1;have q2:=hG.2.2.1;have q3:=hG.2.2.2.1;have q4:=hG.2.2.2.2.1;have q5:=hG.2.2.2.2.2.1;have q6:=hG.2.2.2.2.2.2.1;have q7:=hG.2.2.2.2.2.2.2;exact ⟨aM hb q0,cO hb q1,gD hb q2,aj hb q3,keepCell hb q4,keepCell hb q5,keepCell hb q6,keepCell hb q7⟩)
    clear hK K hH;have hH:=hH2;clear hH2
    try simp only [Act.put,sA,sB,sC]
    refine U1 9 0 rfl (fun K hK=>?_)
    try clear hb
    go_simp
    (go_at_call 225;refine (iI (dX (qh (dI u b.px) (dI v b.py) jx jy) b.iner) 411775 _).mono ?_;rintro e wn ⟨rfl,hb⟩)
    refine hK.out _ _ ?hsr1_10 (fun hH2=>?hrr1_10)
    case hsr1_10=>exact aC (by have hG:=hH;replace hG:=aA hG;(try dsimp only at hG);have q0:=hG.1;have q1:=hG.2.1;have q2:=hG.2.2.1;have q3:=hG.2.2.2.1;have q4:=hG.2.2.2.2.1;have q5:=hG.2.2.2.2.2.1;have q6:=hG.2.2.2.2.2.2.1;have q7:=hG.2.2.2.2.2.2.2;exact ⟨aM hb q0,cO hb q1,gD hb q2,aj hb q3,keepCell hb q4,keepCell hb q5,keepCell hb q6,keepCell hb q7⟩)
    clear hK K hH;have hH:=hH2;clear hH2
    try simp only [Act.put,sA,sB,sC]
    refine Ut 10 7 0 0 0 (v:=?vr1_11) rfl hWr1 hH ?hyr1_11 ?_
    case hyr1_11=>(intro w' hSw;clear hSw;go_simp;try (with_reducible rfl))
    simp only [sB,sC];refine ak (by kernel_rfl) ?_ _ _;refine NoPanic.normal ?_;clear hWr1;replace hH:=aA hH
    (try dsimp only at hH)
    have q0:=hH.1;have q1:=hH.2.1;have q2:=hH.2.2.1;have q3:=hH.2.2.2.1;have q4:=hH.2.2.2.2.1;have q5:=hH.2.2.2.2.2.1;have q6:=hH.2.2.2.2.2.2.1;have q7:=hH.2.2.2.2.2.2.2;have HKw:=hid q0;have HZw:=hid q1;have HSw:=hid q2;have hBw:=q3;replace j0:=q4;replace j1:=q5;replace p0:=q6;replace p1:=q7;obtain ⟨tn,htn⟩:∃ tn,tn=KD b jx jy u v:=⟨_,rfl⟩;rw [show dX (dX (qh (dI u b.px) (dI v b.py) jx jy) b.iner) 411775=tn from htn.symm];have HTN:=hid htn;clear htn hH hb q0 q1 q2 q3 q4 q5 q6 q7 HK2 HZ2 HS2 hB2
    go_wp2_with fail
    have HK3:=HKw;have HZ3:=HZw;have HS3:=HSw;have hB3:=hBw;clear HKw HZw HSw hBw;refine wp_region_noPanic ?_;refine au (S:=(S2 (fun w'=>aL w' w.heap.size b A1 n1 c1∧fD w' (w.heap.size+3)∧Sl w' A1 n1 c1 l∧Below w.heap.size w w'∧w'.cell? ⟨w.heap.size+1,0,none⟩=some (.int .i64 jx)∧w'.cell? ⟨w.heap.size+1,1,none⟩=some (.int .i64 jy)∧w'.cell? ⟨w.heap.size+2,0,none⟩=some (.int .i64 u)∧w'.cell? ⟨w.heap.size+2,1,none⟩=some (.int .i64 v)))) (T:=(fun j=>[0,0,0,0,0,0,0,0,0,0,0,0,1].getD j 0)) (by kernel_rfl) (aC ⟨HK3.out.drew,HZ3.out.drew,HS3.out.drew',hB3.drew,j0,j1,p0,p1⟩) (fun hH=>?_);have hWr2:aH (S2 (fun w'=>aL w' w.heap.size b A1 n1 c1∧fD w' (w.heap.size+3)∧Sl w' A1 n1 c1 l∧Below w.heap.size w w'∧w'.cell? ⟨w.heap.size+1,0,none⟩=some (.int .i64 jx)∧w'.cell? ⟨w.heap.size+1,1,none⟩=some (.int .i64 jy)∧w'.cell? ⟨w.heap.size+2,0,none⟩=some (.int .i64 u)∧w'.cell? ⟨w.heap.size+2,1,none⟩=some (.int .i64 v))):=aK _;refine dn [(0,33),(1,34),(2,35),(3,36),(4,37),(5,38),(6,39)] 6 0 0 (L':=?Lr2_1) hWr2 hH ?hyr2_1 ?_
    case hyr2_1=>((iterate 7 apply dA;rfl;kernel_rfl;intro w' hSw;replace hSw:=aA hSw;(try dsimp only at hSw);have q0:=hSw.1;have q1:=hSw.2.1;have q2:=hSw.2.2.1;have q3:=hSw.2.2.2.1;have q4:=hSw.2.2.2.2.1;have q5:=hSw.2.2.2.2.2.1;have q6:=hSw.2.2.2.2.2.2.1;have q7:=hSw.2.2.2.2.2.2.2;obtain ⟨qa0_0,qa0_1,qa0_2,qa0_3,qa0_4,qa0_5,qa0_6,qa0_7,qa0_8,qa0_9,qa0_10,qa0_11,qa0_12,qa0_f⟩:=id q0;have qa1_f:=q1.free;(try simp only [sB,sC]);go_simp;(try with_reducible rfl));exact dw)
    simp only [sB,sC];refine U1 7 0 rfl (fun K hK=>?_)
    try clear hb
    go_simp
    (go_at_call 225;refine (iI jx b.mass _).mono ?_;rintro e wn ⟨rfl,hb⟩)
    refine hK.out _ _ ?hsr2_8 (fun hH2=>?hrr2_8)
    case hsr2_8=>exact aC (by have hG:=hH;replace hG:=aA hG;(try dsimp only at hG);have q0:=hG.1;have q1:=hG.2.1;have q2:=hG.2.2.1;have q3:=hG.2.2.2.1;have q4:=hG.2.2.2.2.1;have q5:=hG.2.2.2.2.2.1;have q6:=hG.2.2.2.2.2.2.1;have q7:=hG.2.2.2.2.2.2.2;exact ⟨aM hb q0,cO hb q1,gD hb q2,aj hb q3,keepCell hb q4,keepCell hb q5,keepCell hb q6,keepCell hb q7⟩)
    clear hK K hH;have hH:=hH2;clear hH2
    try simp only [Act.put,sA,sB,sC]
    refine U1 8 0 rfl (fun K hK=>?_)
    try clear hb
    go_simp
    (go_at_call 153;refine (eH b.vx (dX jx b.mass) _).mono ?_;rintro e wn ⟨rfl,hb⟩)
    refine hK.out _ _ ?hsr2_9 (fun hH2=>?hrr2_9)
    case hsr2_9=>exact aC (by have hG:=hH;replace hG:=aA hG;(try dsimp only at hG);have q0:=hG.1;have q1:=hG.2.1;have q2:=hG.2.2.1;have q3:=hG.2.2.2.1;have q4:=hG.2.2.2.2.1;have q5:=hG.2.2.2.2.2.1;have q6:=hG.2.2.2.2.2.2.1;have q7:=hG.2.2.2.2.2.2.2;exact ⟨aM hb q0,cO hb q1,gD hb q2,aj hb q3,keepCell hb q4,keepCell hb q5,keepCell hb q6,keepCell hb q7⟩)
    clear hK K hH;have hH:=hH2;clear hH2
    try simp only [Act.put,sA,sB,sC]
    refine U1 9 0 rfl (fun K hK=>?_)
    try clear hb
    go_simp
    (go_at_call 124;refine (jG (bT b.vx (dX jx b.mass)) 268435456 (by omega) (by omega) _).mono ?_;rintro e wn ⟨rfl,hb⟩)
    refine hK.out _ _ ?hsr2_10 (fun hH2=>?hrr2_10)
    case hsr2_10=>exact aC (by have hG:=hH;replace hG:=aA hG;(try dsimp only at hG);have q0:=hG.1;have q1:=hG.2.1;have q2:=hG.2.2.1;have q3:=hG.2.2.2.1;have q4:=hG.2.2.2.2.1;have q5:=hG.2.2.2.2.2.1;have q6:=hG.2.2.2.2.2.2.1;have q7:=hG.2.2.2.2.2.2.2;exact ⟨aM hb q0,cO hb q1,gD hb q2,aj hb q3,keepCell hb q4,keepCell hb q5,keepCell hb q6,keepCell hb q7⟩)
    clear hK K hH;have hH:=hH2;clear hH2
    try simp only [Act.put,sA,sB,sC]
    refine dn [(10,43),(11,44)] 1 0 0 (L':=?Lr2_11) hWr2 hH ?hyr2_11 ?_
    case hyr2_11=>((iterate 2 apply dA;rfl;kernel_rfl;intro w' hSw;clear hSw;(try simp only [sB,sC]);go_simp;(try with_reducible rfl));exact dw)
    simp only [sB,sC];refine U1 12 1 rfl (fun K hK=>?_);have hG:=hH;replace hG:=aA hG;(try dsimp only at hG);have q0:=hG.1;have q1:=hG.2.1;have q2:=hG.2.2.1;have q3:=hG.2.2.2.1;have q4:=hG.2.2.2.2.1;have q5:=hG.2.2.2.2.2.1;have q6:=hG.2.2.2.2.2.2.1;have q7:=hG.2.2.2.2.2.2.2;obtain ⟨qa0_0,qa0_1,qa0_2,qa0_3,qa0_4,qa0_5,qa0_6,qa0_7,qa0_8,qa0_9,qa0_10,qa0_11,qa0_12,qa0_f⟩:=id q0;go_simp;refine hK.out _ _ ?hsr2_13 (fun hH2=>?hrr2_13)
    case hsr2_13=>exact dY
    clear hK K hH;have hH:=hH2;clear hH2
    try simp only [Act.put,sA,sB,sC]
    refine ak (by kernel_rfl) ?_ _ _;refine NoPanic.normal ?_;clear hWr2;have HK4:=hid (q0.set_vx (bD (bT b.vx (dX jx b.mass)) 268435456));have HZ4:=hid (q1.set ⟨w.heap.size,2,none⟩ (.int .i64 (bD (bT b.vx (dX jx b.mass)) 268435456)));have HS4:=hid (q2.setAt (g:=w.heap.size) (o:=2) (v:=.int .i64 (bD (bT b.vx (dX jx b.mass)) 268435456)) (fun bx off e=>by have:=HF2.out bx off e;omega));have hB4:Below w.heap.size w (wn.setCell ⟨w.heap.size,2,none⟩ (.int .i64 (bD (bT b.vx (dX jx b.mass)) 268435456))):=by go_grown
    replace j0:(wn.setCell ⟨w.heap.size,2,none⟩ (.int .i64 (bD (bT b.vx (dX jx b.mass)) 268435456))).cell? ⟨w.heap.size+1,0,none⟩=some (.int .i64 jx):=by go_simp
    replace j1:(wn.setCell ⟨w.heap.size,2,none⟩ (.int .i64 (bD (bT b.vx (dX jx b.mass)) 268435456))).cell? ⟨w.heap.size+1,1,none⟩=some (.int .i64 jy):=by go_simp
    replace p0:(wn.setCell ⟨w.heap.size,2,none⟩ (.int .i64 (bD (bT b.vx (dX jx b.mass)) 268435456))).cell? ⟨w.heap.size+2,0,none⟩=some (.int .i64 u):=by go_simp
    replace p1:(wn.setCell ⟨w.heap.size,2,none⟩ (.int .i64 (bD (bT b.vx (dX jx b.mass)) 268435456))).cell? ⟨w.heap.size+2,1,none⟩=some (.int .i64 v):=by go_simp
    clear hH hG q0 q1 q2 q3 q4 q5 q6 q7 qa0_0 qa0_1 qa0_2 qa0_3 qa0_4 qa0_5 qa0_6 qa0_7 qa0_8 qa0_9 qa0_10 qa0_11 qa0_12 qa0_f HK3 HZ3 HS3 hB3;generalize wn.setCell ⟨w.heap.size,2,none⟩ (.int .i64 (bD (bT b.vx (dX jx b.mass)) 268435456))=wd at *
    obtain ⟨b2,hb2⟩:∃ b2:Bd,b2={ b with vx:=bD (bT b.vx (dX jx b.mass)) 268435456 }:=⟨_,rfl⟩;rw [← hb2] at HK4;have hy2:b2.vy=b.vy:=by rw [hb2]
    have hv2:b2.mass=b.mass:=by rw [hb2]
    go_wp2_with fail
    refine wp_region_noPanic ?_;refine au (S:=(S2 (fun w'=>aL w' w.heap.size b2 A1 n1 c1∧fD w' (w.heap.size+3)∧Sl w' A1 n1 c1 l∧Below w.heap.size w w'∧w'.cell? ⟨w.heap.size+1,0,none⟩=some (.int .i64 jx)∧w'.cell? ⟨w.heap.size+1,1,none⟩=some (.int .i64 jy)∧w'.cell? ⟨w.heap.size+2,0,none⟩=some (.int .i64 u)∧w'.cell? ⟨w.heap.size+2,1,none⟩=some (.int .i64 v)))) (T:=(fun j=>[0,0,0,0,0,0,0,0,0,0,0,0,1].getD j 0)) (by kernel_rfl) (aC ⟨HK4.out.drew,HZ4.out.drew,HS4.out.drew',hB4.drew,j0,j1,p0,p1⟩) (fun hH=>?_);have hWr3:aH (S2 (fun w'=>aL w' w.heap.size b2 A1 n1 c1∧fD w' (w.heap.size+3)∧Sl w' A1 n1 c1 l∧Below w.heap.size w w'∧w'.cell? ⟨w.heap.size+1,0,none⟩=some (.int .i64 jx)∧w'.cell? ⟨w.heap.size+1,1,none⟩=some (.int .i64 jy)∧w'.cell? ⟨w.heap.size+2,0,none⟩=some (.int .i64 u)∧w'.cell? ⟨w.heap.size+2,1,none⟩=some (.int .i64 v))):=aK _;refine dn [(0,45),(1,46),(2,47),(3,48),(4,49),(5,50),(6,51)] 6 0 0 (L':=?Lr3_1) hWr3 hH ?hyr3_1 ?_
    case hyr3_1=>((iterate 7 apply dA;rfl;kernel_rfl;intro w' hSw;replace hSw:=aA hSw;(try dsimp only at hSw);have q0:=hSw.1;have q1:=hSw.2.1;have q2:=hSw.2.2.1;have q3:=hSw.2.2.2.1;have q4:=hSw.2.2.2.2.1;have q5:=hSw.2.2.2.2.2.1;have q6:=hSw.2.2.2.2.2.2.1;have q7:=hSw.2.2.2.2.2.2.2;obtain ⟨qa0_0,qa0_1,qa0_2,qa0_3,qa0_4,qa0_5,qa0_6,qa0_7,qa0_8,qa0_9,qa0_10,qa0_11,qa0_12,qa0_f⟩:=id q0;have qa1_f:=q1.free;(try simp only [sB,sC]);go_simp;(try with_reducible rfl));exact dw)
    simp only [sB,sC];refine U1 7 0 rfl (fun K hK=>?_)
    try clear hb
    go_simp
    (go_at_call 225;refine (iI jy b.mass _).mono ?_;rintro e wn ⟨rfl,hb⟩)
    refine hK.out _ _ ?hsr3_8 (fun hH2=>?hrr3_8)
    case hsr3_8=>exact aC (by have hG:=hH;replace hG:=aA hG;(try dsimp only at hG);have q0:=hG.1;have q1:=hG.2.1;have q2:=hG.2.2.1;have q3:=hG.2.2.2.1;have q4:=hG.2.2.2.2.1;have q5:=hG.2.2.2.2.2.1;have q6:=hG.2.2.2.2.2.2.1;have q7:=hG.2.2.2.2.2.2.2;exact ⟨aM hb q0,cO hb q1,gD hb q2,aj hb q3,keepCell hb q4,keepCell hb q5,keepCell hb q6,keepCell hb q7⟩)
    clear hK K hH;have hH:=hH2;clear hH2
    try simp only [Act.put,sA,sB,sC]
    refine U1 8 0 rfl (fun K hK=>?_)
    try clear hb
    go_simp
    (go_at_call 153;refine (eH b.vy (dX jy b.mass) _).mono ?_;rintro e wn ⟨rfl,hb⟩)
    refine hK.out _ _ ?hsr3_9 (fun hH2=>?hrr3_9)
    case hsr3_9=>exact aC (by have hG:=hH;replace hG:=aA hG;(try dsimp only at hG);have q0:=hG.1;have q1:=hG.2.1;have q2:=hG.2.2.1;have q3:=hG.2.2.2.1;have q4:=hG.2.2.2.2.1;have q5:=hG.2.2.2.2.2.1;have q6:=hG.2.2.2.2.2.2.1;have q7:=hG.2.2.2.2.2.2.2;exact ⟨aM hb q0,cO hb q1,gD hb q2,aj hb q3,keepCell hb q4,keepCell hb q5,keepCell hb q6,keepCell hb q7⟩)
    clear hK K hH;have hH:=hH2;clear hH2
    try simp only [Act.put,sA,sB,sC]
    refine U1 9 0 rfl (fun K hK=>?_)
    try clear hb
    go_simp
    (go_at_call 124;refine (jG (bT b.vy (dX jy b.mass)) 268435456 (by omega) (by omega) _).mono ?_;rintro e wn ⟨rfl,hb⟩)
    refine hK.out _ _ ?hsr3_10 (fun hH2=>?hrr3_10)
    case hsr3_10=>exact aC (by have hG:=hH;replace hG:=aA hG;(try dsimp only at hG);have q0:=hG.1;have q1:=hG.2.1;have q2:=hG.2.2.1;have q3:=hG.2.2.2.1;have q4:=hG.2.2.2.2.1;have q5:=hG.2.2.2.2.2.1;have q6:=hG.2.2.2.2.2.2.1;have q7:=hG.2.2.2.2.2.2.2;exact ⟨aM hb q0,cO hb q1,gD hb q2,aj hb q3,keepCell hb q4,keepCell hb q5,keepCell hb q6,keepCell hb q7⟩)
    clear hK K hH;have hH:=hH2;clear hH2
    try simp only [Act.put,sA,sB,sC]
    refine dn [(10,55),(11,56)] 1 0 0 (L':=?Lr3_11) hWr3 hH ?hyr3_11 ?_
    case hyr3_11=>((iterate 2 apply dA;rfl;kernel_rfl;intro w' hSw;clear hSw;(try simp only [sB,sC]);go_simp;(try with_reducible rfl));exact dw)
    simp only [sB,sC];refine U1 12 1 rfl (fun K hK=>?_);have hG:=hH;replace hG:=aA hG;(try dsimp only at hG);have q0:=hG.1;have q1:=hG.2.1;have q2:=hG.2.2.1;have q3:=hG.2.2.2.1;have q4:=hG.2.2.2.2.1;have q5:=hG.2.2.2.2.2.1;have q6:=hG.2.2.2.2.2.2.1;have q7:=hG.2.2.2.2.2.2.2;obtain ⟨qa0_0,qa0_1,qa0_2,qa0_3,qa0_4,qa0_5,qa0_6,qa0_7,qa0_8,qa0_9,qa0_10,qa0_11,qa0_12,qa0_f⟩:=id q0;go_simp;refine hK.out _ _ ?hsr3_13 (fun hH2=>?hrr3_13)
    case hsr3_13=>exact dY
    clear hK K hH;have hH:=hH2;clear hH2
    try simp only [Act.put,sA,sB,sC]
    refine ak (by kernel_rfl) ?_ _ _;refine NoPanic.normal ?_;clear hWr3;have HK5:=hid (q0.set_vy (bD (bT b.vy (dX jy b.mass)) 268435456));have HZ5:=hid (q1.set ⟨w.heap.size,3,none⟩ (.int .i64 (bD (bT b.vy (dX jy b.mass)) 268435456)));have HS5:=hid (q2.setAt (g:=w.heap.size) (o:=3) (v:=.int .i64 (bD (bT b.vy (dX jy b.mass)) 268435456)) (fun bx off e=>by have:=HF2.out bx off e;omega));have hB5:Below w.heap.size w (wn.setCell ⟨w.heap.size,3,none⟩ (.int .i64 (bD (bT b.vy (dX jy b.mass)) 268435456))):=by go_grown
    replace j0:(wn.setCell ⟨w.heap.size,3,none⟩ (.int .i64 (bD (bT b.vy (dX jy b.mass)) 268435456))).cell? ⟨w.heap.size+1,0,none⟩=some (.int .i64 jx):=by go_simp
    replace j1:(wn.setCell ⟨w.heap.size,3,none⟩ (.int .i64 (bD (bT b.vy (dX jy b.mass)) 268435456))).cell? ⟨w.heap.size+1,1,none⟩=some (.int .i64 jy):=by go_simp
    replace p0:(wn.setCell ⟨w.heap.size,3,none⟩ (.int .i64 (bD (bT b.vy (dX jy b.mass)) 268435456))).cell? ⟨w.heap.size+2,0,none⟩=some (.int .i64 u):=by go_simp
    replace p1:(wn.setCell ⟨w.heap.size,3,none⟩ (.int .i64 (bD (bT b.vy (dX jy b.mass)) 268435456))).cell? ⟨w.heap.size+2,1,none⟩=some (.int .i64 v):=by go_simp
    clear hH hG q0 q1 q2 q3 q4 q5 q6 q7 qa0_0 qa0_1 qa0_2 qa0_3 qa0_4 qa0_5 qa0_6 qa0_7 qa0_8 qa0_9 qa0_10 qa0_11 qa0_12 qa0_f HK4 HZ4 HS4 hB4;generalize wn.setCell ⟨w.heap.size,3,none⟩ (.int .i64 (bD (bT b.vy (dX jy b.mass)) 268435456))=wd at *
    obtain ⟨b3,hb3⟩:∃ b3:Bd,b3={ b2 with vy:=bD (bT b.vy (dX jy b.mass)) 268435456 }:=⟨_,rfl⟩;rw [← hb3] at HK5;have hs3:b3.spin=b.spin:=by rw [hb3,hb2]
    obtain ⟨k0,k1,k2,k3,k4,k5,k6,k7,k8,k9,k10,k11,k12,kf⟩:=HK5.out;have hz5:=HK5.out.lt;rw [hs3] at k5
    go_wp2_with fail
    refine (eH b.spin tn _).mono ?_;rintro e w6 ⟨rfl,hb6⟩;replace j0:=keepCell hb6 j0;replace j1:=keepCell hb6 j1;replace p0:=keepCell hb6 p0;replace p1:=keepCell hb6 p1;clear k0 k1 k2 k3 k4 k5 k6 k7 k8 k9 k10 k11 k12 kf;have HK6:=hid (aM hb6 HK5.out);have HZ6:=hid (cO hb6 HZ5.out);have HS6:=hid (gD hb6 HS5.out);have hB6:=aj hb6 hB5;clear hb6 hB5 HK5 HZ5 HS5
    go_wp2_with fail
    refine (jG (bT b.spin tn) 16777216 (by omega) (by omega) _).mono ?_;rintro e w7 ⟨rfl,hb7⟩;replace j0:=keepCell hb7 j0;replace j1:=keepCell hb7 j1;replace p0:=keepCell hb7 p0;replace p1:=keepCell hb7 p1;have HK7:=hid (aM hb7 HK6.out);have HZ7:=hid (cO hb7 HZ6.out);have HS7:=hid (gD hb7 HS6.out);have hB7:=aj hb7 hB6;clear hb7 hB6 HK6 HZ6 HS6;have hz7:=HK7.out.lt;obtain ⟨k0,k1,k2,k3,k4,k5,k6,k7,k8,k9,k10,k11,k12,kf⟩:=HK7.out
    go_upto_region 8 with fail
    clear k0 k1 k2 k3 k4 k5 k6 k7 k8 k9 k10 k11 k12 kf;have HK8:=hid (HK7.out.set_spin (bD (bT b.spin tn) 16777216));have HZ8:=hid (HZ7.out.set ⟨w.heap.size,5,none⟩ (.int .i64 (bD (bT b.spin tn) 16777216)));have HS8:=hid (HS7.out.setAt (g:=w.heap.size) (o:=5) (v:=.int .i64 (bD (bT b.spin tn) 16777216)) (fun bx off e=>by have:=HF2.out bx off e;omega));have hB8:Below w.heap.size w (w7.setCell ⟨w.heap.size,5,none⟩ (.int .i64 (bD (bT b.spin tn) 16777216))):=by go_grown
    clear HK7 HZ7 HS7 hB7 j0 j1 p0 p1;generalize w7.setCell ⟨w.heap.size,5,none⟩ (.int .i64 (bD (bT b.spin tn) 16777216))=wd at *
    obtain ⟨b4,hb4⟩:∃ b4:Bd,b4={ b3 with spin:=bD (bT b.spin tn) 16777216 }:=⟨_,rfl⟩;rw [← hb4] at HK8;have HR:Hid (pushB b l jx jy u v=b4):=by show _=_;unfold pushB;rw [if_neg HCOND.out,hb4,hb3,hb2,HTN.out]
    obtain ⟨k0,k1,k2,k3,k4,k5,k6,k7,k8,k9,k10,k11,k12,kf⟩:=HK8.out;obtain ⟨z0,z1,z2,z3,z4,z5,z6,z7,z8,z9,z10,z11,z12,y0,y1,y2,y3,y4,y5,y6,y7,y8,y9,y10,y11,y12⟩:=HZ8.out.all;have yf:=HZ8.out.free;have hl1:=HZ8.out.lt;have hz8:=HK8.out.lt;clear hb2 hb3 hb4 hy2 hv2 hs3;go_wp2;refine bodyPost_ret (v:=dK b4 A1 n1 c1) (by simp [results,Tryz.results177,go_sem,y0,y1,y2,y3,y4,y5,y6,y7,y8,y9,y10,y11,y12,hl1]) rfl ⟨_,_,_,by rw [HR.out],?_,HF1.out,?_⟩
    ·iterate 13 refine Sl.setAt ?_ (fun bx off e => by have := HF2.out bx off e; omega)
     exact HS8.out
    ·go_grown
 ·have hne : (aT b l != 0) = true := by simp [hE]
  have HR:Hid (pushB b l jx jy u v=b):=by show _=_;unfold pushB;rw [if_pos (.inl hE)]
  obtain ⟨z0,z1,z2,z3,z4,z5,z6,z7,z8,z9,z10,z11,z12,y0,y1,y2,y3,y4,y5,y6,y7,y8,y9,y10,y11,y12⟩:=HZ2.out.all;have yf:=HZ2.out.free;have hl1:=HZ2.out.lt;go_wp2;refine bodyPost_ret (v:=dK b A1 n1 c1) (by simp [results,Tryz.results177,go_sem,y0,y1,y2,y3,y4,y5,y6,y7,y8,y9,y10,y11,y12,hl1] <;> simp [*]) rfl ⟨_,_,_,by rw [HR.out],?_,HF1.out,?_⟩
  ·iterate 13 refine Sl.setAt ?_ (fun bx off e => by have := HF2.out bx off e; omega)
   exact HS2.out
  ·go_grown
end
end Go.Proofs.YtokgmcomgflloaaGreat
