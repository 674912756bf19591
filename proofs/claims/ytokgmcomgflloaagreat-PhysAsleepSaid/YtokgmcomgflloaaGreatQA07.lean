/- Parts of a proof: contracts and laws. -/
import Derived.Test.YtokgmcomgflloaaGreatQA06
import Derived.Test.YtokgmcomgflloaaGreatQA02
import Derived.Test.YtokgmcomgflloaaGreatQA04
import Derived.Maps.AppendAt
set_option maxRecDepth 100000
set_option maxHeartbeats 16000000
namespace Go.Proofs.YtokgmcomgflloaaGreat
section
set_option linter.unusedVariables false
set_option linter.unusedSimpArgs false
open Go.RowKit
variable {w0 w w':World}

def Nk (b:Bd) (l:List V) (p q:Int):Int:=if aT b l≠0 then 0 else dI b.vx (aX (aX b.spin 411775) (dI q b.py))
def MG (b:Bd) (l:List V) (p q:Int):Int:=if aT b l≠0 then 0 else bT b.vy (aX (aX b.spin 411775) (dI p b.px))
theorem aL.away {g:Nat} {b:Bd} {A:Option Addr} {n c:Nat} (h:aL w g b A n c) (k o:Nat) (v:Value) (hne:k≠g):aL (w.setCell ⟨k,o,none⟩ v) g b A n c :=
 ⟨aY hne h.c0,aY hne h.c1,aY hne h.c2,aY hne h.c3,aY hne h.c4,aY hne h.c5,aY hne h.c6,aY hne h.c7,aY hne h.c8,aY hne h.c9,aY hne h.c10,aY hne h.c11,aY hne h.c12,fun j=>by rw [World.frozen?_setCell];exact h.free j⟩
theorem Dn (b:Bd) (A:Option Addr) (n c:Nat) (l:List V) (p q:Int) (w:World) (hS:Sl w A n c l):Calls Tryz.prog 175 #[dK b A n c,aR p q] w (dG (aR (Nk b l p q) (MG b l p q)) w):=by
 obtain ⟨W,hW⟩:∃ W,W=((w.alloc (.cells #[.int .i64 b.px,.int .i64 b.py,.int .i64 b.vx,.int .i64 b.vy,.int .i64 b.ang,.int .i64 b.spin,.int .i64 b.mass,.int .i64 b.iner,.int .i64 b.bounce,.int .i64 b.rub,.slice A n c,.bool b.asleep,.int .i64 b.calm] 27)).alloc (.cells #[.int .i64 p,.int .i64 q] 24)).alloc (.cells #[.int .i64 0,.int .i64 0] 24):=⟨_,rfl⟩;have HK0:=hid (show aL W w.heap.size b A n c by rw [hW];exact ((aL.here w b A n c _).alloc _).alloc _);have HZ0:=hid (show VZ W (w.heap.size+2) by rw [hW];have:=VZ.here ((w.alloc (.cells #[.int .i64 b.px,.int .i64 b.py,.int .i64 b.vx,.int .i64 b.vy,.int .i64 b.ang,.int .i64 b.spin,.int .i64 b.mass,.int .i64 b.iner,.int .i64 b.bounce,.int .i64 b.rub,.slice A n c,.bool b.asleep,.int .i64 b.calm] 27)).alloc (.cells #[.int .i64 p,.int .i64 q] 24)) 0 0 24;simpa using this);have hB0:Below w.heap.size w W:=by rw [hW];go_grown
 have HS0:=hid (hS.below hB0);have p0:W.cell? ⟨w.heap.size+1,0,none⟩=some (.int .i64 p):=by rw [hW];go_simp
 have p1:W.cell? ⟨w.heap.size+1,1,none⟩=some (.int .i64 q):=by rw [hW];go_simp
 clear hS;obtain ⟨k0,k1,k2,k3,k4,k5,k6,k7,k8,k9,k10,k11,k12,kf⟩:=HK0.out
 go_enter Tryz.func175,Tryz.ntmps175
 go_wp2_with fail
 rw [← hW];clear hW;refine (iJ b A n c l _ HS0.out).mono ?_;rintro e w1 ⟨rfl,hb1⟩;have HK1:=hid (aM hb1 HK0.out);have HZ1:=hid (aG hb1 HZ0.out);have hB1:=aj hb1 hB0;replace p0:=keepCell hb1 p0;replace p1:=keepCell hb1 p1;clear hb1 HK0 HZ0 hB0 HS0 k0 k1 k2 k3 k4 k5 k6 k7 k8 k9 k10 k11 k12 kf
 by_cases hE:aT b l=0
 ·have HX : Hid (Nk b l p q = dI b.vx (aX (aX b.spin 411775) (dI q b.py))) := by show _ = _; unfold Nk; rw [if_neg (by simp [hE])]
  have HY:Hid (MG b l p q=bT b.vy (aX (aX b.spin 411775) (dI p b.px))):=by show _=_;unfold MG;rw [if_neg (by simp [hE])]
  rw [hE];clear hE
  go_upto_region 3 with fail
  obtain ⟨rx,hrx⟩:∃ rx,rx=dI p b.px:=⟨_,rfl⟩;obtain ⟨ry,hry⟩:∃ ry,ry=dI q b.py:=⟨_,rfl⟩;obtain ⟨s,hs⟩:∃ s,s=aX b.spin 411775:=⟨_,rfl⟩
  go_cut [5,6] from 11 to 17 (fun t u wx=>∃ gx:Nat,t = .pointer (some ⟨gx,0,none⟩)∧u = .int .i64 (aX b.spin 411775)∧wx.cell? ⟨gx,0,none⟩=some (.int .i64 (dI p b.px))∧wx.cell? ⟨gx,1,none⟩=some (.int .i64 (dI q b.py))∧aL wx w.heap.size b A n c∧VZ wx (w.heap.size+2)∧Below w.heap.size w wx)
  case first =>
   refine wp_region_noPanic ?_;refine au (S:=(S2 (fun w'=>aL w' w.heap.size b A n c∧VZ w' (w.heap.size+2)∧Below w.heap.size w w'∧w'.cell? ⟨w.heap.size+1,0,none⟩=some (.int .i64 p)∧w'.cell? ⟨w.heap.size+1,1,none⟩=some (.int .i64 q)))) (T:=(fun j=>[0,0,0,0,0,0,0,0,1].getD j 0)) (by kernel_rfl) (aC ⟨HK1.out.drew,HZ1.out.drew,hB1.drew,p0,p1⟩) (fun hH=>?_);have hWr1:aH (S2 (fun w'=>aL w' w.heap.size b A n c∧VZ w' (w.heap.size+2)∧Below w.heap.size w w'∧w'.cell? ⟨w.heap.size+1,0,none⟩=some (.int .i64 p)∧w'.cell? ⟨w.heap.size+1,1,none⟩=some (.int .i64 q))):=aK _;refine dn [(0,11),(1,12),(2,13),(4,15),(5,16)] 5 0 0 (L':=?Lr1_1) hWr1 hH ?hyr1_1 ?_
   case hyr1_1=>((iterate 5 apply dA;rfl;kernel_rfl;intro w' hSw;replace hSw:=aA hSw;(try dsimp only at hSw);have q0:=hSw.1;have q1:=hSw.2.1;have q2:=hSw.2.2.1;have q3:=hSw.2.2.2.1;have q4:=hSw.2.2.2.2;obtain ⟨qa0_0,qa0_1,qa0_2,qa0_3,qa0_4,qa0_5,qa0_6,qa0_7,qa0_8,qa0_9,qa0_10,qa0_11,qa0_12,qa0_f⟩:=id q0;(try simp only [sB,sC]);go_simp;(try with_reducible rfl));exact dw)
   simp only [sB,sC];refine Ur [3,7] ?_;refine Uc 0 rfl (fun K hK=>?_) ?_
   ·try clear hb
    go_simp
    (go_at_call 11;refine (je p q b.px b.py _).mono ?_;rintro e wn ⟨rfl,hb⟩;try (replace hT:=aG hb hT))
    refine hK.out _ _ ?hsr1_6 (fun hH2=>?hrr1_6)
    case hsr1_6=>exact aC (by have hG:=hH;replace hG:=aA hG;(try dsimp only at hG);have q0:=hG.1;have q1:=hG.2.1;have q2:=hG.2.2.1;have q3:=hG.2.2.2.1;have q4:=hG.2.2.2.2;exact ⟨aM hb q0,aG hb q1,aj hb q2,keepCell hb q3,keepCell hb q4⟩)
    clear hK K hH;have hH:=hH2;clear hH2
    try simp only [Act.put,sA,sB,sC]
    refine Ur [6,7] ?_;refine Uc 0 rfl (fun K hK=>?_) ?_
    ·try clear hb
     go_simp
     (go_at_call 52;refine (bM b.spin 411775 _).mono ?_;rintro e wn ⟨rfl,hb⟩;try (replace hT:=aG hb hT))
     refine hK.out _ _ ?hsr1_7 (fun hH2=>?hrr1_7)
     case hsr1_7=>exact aC (by have hG:=hH;replace hG:=aA hG;(try dsimp only at hG);have q0:=hG.1;have q1:=hG.2.1;have q2:=hG.2.2.1;have q3:=hG.2.2.2.1;have q4:=hG.2.2.2.2;exact ⟨aM hb q0,aG hb q1,aj hb q2,keepCell hb q3,keepCell hb q4⟩)
     clear hK K hH;have hH:=hH2;clear hH2
     try simp only [Act.put,sA,sB,sC]
     refine U1 7 0 rfl (fun K hK=>?_)
     try clear hb
     have hG:=hH;replace hG:=aA hG;(try dsimp only at hG);have q0:=hG.1;have q1:=hG.2.1;have q2:=hG.2.2.1;have q3:=hG.2.2.2.1;have q4:=hG.2.2.2.2;go_simp;refine hK.out _ _ ?hsr1_8 (fun hH2=>?hrr1_8)
     case hsr1_8=>exact aC (by have hG:=hH;replace hG:=aA hG;(try dsimp only at hG);have q0:=hG.1;have q1:=hG.2.1;have q2:=hG.2.2.1;have q3:=hG.2.2.2.1;have q4:=hG.2.2.2.2;exact ⟨q0.alloc _,q1.alloc _,q2.alloc q2.size _,keepCell Ba q3,keepCell Ba q4⟩)
     clear hK K hH;have hH:=hH2;clear hH2
     try simp only [Act.put,sA,sB,sC]
     have hT:VZ (wn.alloc (.cells #[.int .i64 0,.int .i64 0] 24)) wn.heap.size:=VZ.here _ _ _ _;obtain ⟨gT,hgT⟩:∃ g,g=wn.heap.size:=⟨_,rfl⟩;have hlT:w.heap.size+2<gT:=by rw [hgT];exact q1.lt
     rw [← hgT] at hT
     try rw [← hgT]
     clear hgT q0 q1 q2 q3 q4;generalize wn.alloc (.cells #[.int .i64 0,.int .i64 0] 24)=wx7 at *
     refine U1 8 1 rfl (fun K hK=>?_);have hG:=hH;replace hG:=aA hG;(try dsimp only at hG);have q0:=hG.1;have q1:=hG.2.1;have q2:=hG.2.2.1;have q3:=hG.2.2.2.1;have q4:=hG.2.2.2.2;obtain ⟨⟨z0,z1,y0,y1⟩,yf⟩:=hT;go_simp;refine hK.out _ _ ?hsr1_9 (fun hH2=>?hrr1_9)
     case hsr1_9=>exact dY
     clear hK K hH;have hH:=hH2;clear hH2
     try simp only [Act.put,sA,sB,sC]
     refine Ut 9 6 0 1 1 (v:=?vr1_10) rfl hWr1 hH ?hyr1_10 ?_
     case hyr1_10=>(intro w' hSw;clear hSw;go_simp;try (with_reducible rfl))
     simp only [sB,sC];refine ak (by kernel_rfl) ?_ _ _;refine NoPanic.normal ?_
     go_wp2_with fail
     go_meet
     refine ⟨gT,rfl,rfl,by go_simp,by go_simp,(q0.away _ _ _ (by omega)).away _ _ _ (by omega),(q1.set _ _).set _ _,by have:=q2.size;go_grown⟩
    refine Uc 0 rfl (fun K hK=>?_) ?_
    ·try clear hb
     have hG:=hH;replace hG:=aA hG;(try dsimp only at hG);have q0:=hG.1;have q1:=hG.2.1;have q2:=hG.2.2.1;have q3:=hG.2.2.2.1;have q4:=hG.2.2.2.2;go_simp;refine hK.out _ _ ?hsr1_11 (fun hH2=>?hrr1_11)
     case hsr1_11=>exact aC (by have hG:=hH;replace hG:=aA hG;(try dsimp only at hG);have q0:=hG.1;have q1:=hG.2.1;have q2:=hG.2.2.1;have q3:=hG.2.2.2.1;have q4:=hG.2.2.2.2;exact ⟨q0.alloc _,q1.alloc _,q2.alloc q2.size _,keepCell Ba q3,keepCell Ba q4⟩)
     clear hK K hH;have hH:=hH2;clear hH2
     try simp only [Act.put,sA,sB,sC]
     have hT:VZ (wn.alloc (.cells #[.int .i64 0,.int .i64 0] 24)) wn.heap.size:=VZ.here _ _ _ _;obtain ⟨gT,hgT⟩:∃ g,g=wn.heap.size:=⟨_,rfl⟩;have hlT:w.heap.size+2<gT:=by rw [hgT];exact q1.lt
     rw [← hgT] at hT
     try rw [← hgT]
     clear hgT q0 q1 q2 q3 q4;generalize wn.alloc (.cells #[.int .i64 0,.int .i64 0] 24)=wx7 at *
     refine U1 6 0 rfl (fun K hK=>?_)
     try clear hb
     go_simp
     (go_at_call 52;refine (bM b.spin 411775 _).mono ?_;rintro e wn ⟨rfl,hb⟩;try (replace hT:=aG hb hT))
     refine hK.out _ _ ?hsr1_12 (fun hH2=>?hrr1_12)
     case hsr1_12=>exact aC (by have hG:=hH;replace hG:=aA hG;(try dsimp only at hG);have q0:=hG.1;have q1:=hG.2.1;have q2:=hG.2.2.1;have q3:=hG.2.2.2.1;have q4:=hG.2.2.2.2;exact ⟨aM hb q0,aG hb q1,aj hb q2,keepCell hb q3,keepCell hb q4⟩)
     clear hK K hH;have hH:=hH2;clear hH2
     try simp only [Act.put,sA,sB,sC]
     refine U1 8 1 rfl (fun K hK=>?_);have hG:=hH;replace hG:=aA hG;(try dsimp only at hG);have q0:=hG.1;have q1:=hG.2.1;have q2:=hG.2.2.1;have q3:=hG.2.2.2.1;have q4:=hG.2.2.2.2;obtain ⟨⟨z0,z1,y0,y1⟩,yf⟩:=hT;go_simp;refine hK.out _ _ ?hsr1_13 (fun hH2=>?hrr1_13)
     case hsr1_13=>exact dY
     clear hK K hH;have hH:=hH2;clear hH2
     try simp only [Act.put,sA,sB,sC]
     refine Ut 9 6 0 1 1 (v:=?vr1_14) rfl hWr1 hH ?hyr1_14 ?_
     case hyr1_14=>(intro w' hSw;clear hSw;go_simp;try (with_reducible rfl))
     simp only [sB,sC];refine ak (by kernel_rfl) ?_ _ _;refine NoPanic.normal ?_
     go_wp2_with fail
     go_meet
     refine ⟨gT,rfl,rfl,by go_simp,by go_simp,(q0.away _ _ _ (by omega)).away _ _ _ (by omega),(q1.set _ _).set _ _,by have:=q2.size;go_grown⟩
    exact bC.nil
   refine Uc 0 rfl (fun K hK=>?_) ?_
   ·try clear hb
    have hG:=hH;replace hG:=aA hG;(try dsimp only at hG);have q0:=hG.1;have q1:=hG.2.1;have q2:=hG.2.2.1;have q3:=hG.2.2.2.1;have q4:=hG.2.2.2.2;go_simp;refine hK.out _ _ ?hsr1_15 (fun hH2=>?hrr1_15)
    case hsr1_15=>exact aC (by have hG:=hH;replace hG:=aA hG;(try dsimp only at hG);have q0:=hG.1;have q1:=hG.2.1;have q2:=hG.2.2.1;have q3:=hG.2.2.2.1;have q4:=hG.2.2.2.2;exact ⟨q0.alloc _,q1.alloc _,q2.alloc q2.size _,keepCell Ba q3,keepCell Ba q4⟩)
    clear hK K hH;have hH:=hH2;clear hH2
    try simp only [Act.put,sA,sB,sC]
    have hT:VZ ((w1.alloc (.cells #[.int .i64 0,.int .i64 0] 24)).drew) w1.heap.size:=(VZ.here _ _ _ _).drew;obtain ⟨gT,hgT⟩:∃ g,g=w1.heap.size:=⟨_,rfl⟩;have hlT:w.heap.size+2<gT:=by rw [hgT];exact q1.lt
    rw [← hgT] at hT
    try rw [← hgT]
    clear hgT q0 q1 q2 q3 q4;generalize (w1.alloc (.cells #[.int .i64 0,.int .i64 0] 24)).drew=wx7 at *
    refine U1 3 0 rfl (fun K hK=>?_)
    try clear hb
    go_simp
    (go_at_call 11;refine (je p q b.px b.py _).mono ?_;rintro e wn ⟨rfl,hb⟩;try (replace hT:=aG hb hT))
    refine hK.out _ _ ?hsr1_16 (fun hH2=>?hrr1_16)
    case hsr1_16=>exact aC (by have hG:=hH;replace hG:=aA hG;(try dsimp only at hG);have q0:=hG.1;have q1:=hG.2.1;have q2:=hG.2.2.1;have q3:=hG.2.2.2.1;have q4:=hG.2.2.2.2;exact ⟨aM hb q0,aG hb q1,aj hb q2,keepCell hb q3,keepCell hb q4⟩)
    clear hK K hH;have hH:=hH2;clear hH2
    try simp only [Act.put,sA,sB,sC]
    refine U1 6 0 rfl (fun K hK=>?_)
    try clear hb
    go_simp
    (go_at_call 52;refine (bM b.spin 411775 _).mono ?_;rintro e wn ⟨rfl,hb⟩;try (replace hT:=aG hb hT))
    refine hK.out _ _ ?hsr1_17 (fun hH2=>?hrr1_17)
    case hsr1_17=>exact aC (by have hG:=hH;replace hG:=aA hG;(try dsimp only at hG);have q0:=hG.1;have q1:=hG.2.1;have q2:=hG.2.2.1;have q3:=hG.2.2.2.1;have q4:=hG.2.2.2.2;exact ⟨aM hb q0,aG hb q1,aj hb q2,keepCell hb q3,keepCell hb q4⟩)
    clear hK K hH;have hH:=hH2;clear hH2
    try simp only [Act.put,sA,sB,sC]
    refine U1 8 1 rfl (fun K hK=>?_);have hG:=hH;replace hG:=aA hG;(try dsimp only at hG);have q0:=hG.1;have q1:=hG.2.1;have q2:=hG.2.2.1;have q3:=hG.2.2.2.1;have q4:=hG.2.2.2.2;obtain ⟨⟨z0,z1,y0,y1⟩,yf⟩:=hT;go_simp;refine hK.out _ _ ?hsr1_18 (fun hH2=>?hrr1_18)
    case hsr1_18=>exact dY
    clear hK K hH;have hH:=hH2;clear hH2
    try simp only [Act.put,sA,sB,sC]
    refine Ut 9 6 0 1 1 (v:=?vr1_19) rfl hWr1 hH ?hyr1_19 ?_
    case hyr1_19=>(intro w' hSw;clear hSw;go_simp;try (with_reducible rfl))
    simp only [sB,sC];refine ak (by kernel_rfl) ?_ _ _;refine NoPanic.normal ?_
    go_wp2_with fail
    go_meet
    refine ⟨gT,rfl,rfl,by go_simp,by go_simp,(q0.away _ _ _ (by omega)).away _ _ _ (by omega),(q1.set _ _).set _ _,by have:=q2.size;go_grown⟩
   exact bC.nil
  case rest =>
   obtain ⟨gx,rfl,rfl,e0,e1,hKx,hZx,hBx⟩:=hcut;have HKx:=hid hKx;have HZx:=hid hZx;clear hKx hZx HK1 HZ1 hB1 p0 p1;rw [← hrx] at e0;rw [← hry] at e1;rw [← hs];have HRS:=hid (And.intro hrx (And.intro hry hs));clear hrx hry hs
   go_wp2_with fail
   refine wp_region_noPanic ?_;refine au (S:=(S2 (fun w'=>aL w' w.heap.size b A n c∧VZ w' (w.heap.size+2)∧Below w.heap.size w w'∧w'.cell? ⟨gx,0,none⟩=some (.int .i64 rx)∧w'.cell? ⟨gx,1,none⟩=some (.int .i64 ry)))) (T:=(fun j=>[0,0,0,0,0,0,0,0,0,0,0,0,0,0,0,0,0,1].getD j 0)) (by kernel_rfl) (aC ⟨HKx.out.drew,HZx.out.drew,hBx.drew,e0,e1⟩) (fun hH=>?_);have hWr2:aH (S2 (fun w'=>aL w' w.heap.size b A n c∧VZ w' (w.heap.size+2)∧Below w.heap.size w w'∧w'.cell? ⟨gx,0,none⟩=some (.int .i64 rx)∧w'.cell? ⟨gx,1,none⟩=some (.int .i64 ry))):=aK _;refine dn [(0,18),(1,19),(2,20),(3,21),(4,22),(5,23),(8,26),(9,27),(10,28),(11,29),(12,30),(13,31)] 6 0 0 (L':=?Lr2_1) hWr2 hH ?hyr2_1 ?_
   case hyr2_1=>((iterate 12 apply dA;rfl;kernel_rfl;intro w' hSw;replace hSw:=aA hSw;(try dsimp only at hSw);have q0:=hSw.1;have q1:=hSw.2.1;have q2:=hSw.2.2.1;have q3:=hSw.2.2.2.1;have q4:=hSw.2.2.2.2;obtain ⟨qa0_0,qa0_1,qa0_2,qa0_3,qa0_4,qa0_5,qa0_6,qa0_7,qa0_8,qa0_9,qa0_10,qa0_11,qa0_12,qa0_f⟩:=id q0;(try simp only [sB,sC]);go_simp;(try with_reducible rfl));exact dw)
   simp only [sB,sC];refine U1 6 0 rfl (fun K hK=>?_)
   try clear hb
   go_simp
   (go_at_call 52;refine (bM s ry _).mono ?_;rintro e wn ⟨rfl,hb⟩;try (replace hT:=aG hb hT))
   refine hK.out _ _ ?hsr2_13 (fun hH2=>?hrr2_13)
   case hsr2_13=>exact aC (by have hG:=hH;replace hG:=aA hG;(try dsimp only at hG);have q0:=hG.1;have q1:=hG.2.1;have q2:=hG.2.2.1;have q3:=hG.2.2.2.1;have q4:=hG.2.2.2.2;exact ⟨aM hb q0,aG hb q1,aj hb q2,keepCell hb q3,keepCell hb q4⟩)
   clear hK K hH;have hH:=hH2;clear hH2
   try simp only [Act.put,sA,sB,sC]
   refine U1 7 0 rfl (fun K hK=>?_)
   try clear hb
   go_simp
   (go_at_call 40;refine (lH b.vx (aX s ry) _).mono ?_;rintro e wn ⟨rfl,hb⟩;try (replace hT:=aG hb hT))
   refine hK.out _ _ ?hsr2_14 (fun hH2=>?hrr2_14)
   case hsr2_14=>exact aC (by have hG:=hH;replace hG:=aA hG;(try dsimp only at hG);have q0:=hG.1;have q1:=hG.2.1;have q2:=hG.2.2.1;have q3:=hG.2.2.2.1;have q4:=hG.2.2.2.2;exact ⟨aM hb q0,aG hb q1,aj hb q2,keepCell hb q3,keepCell hb q4⟩)
   clear hK K hH;have hH:=hH2;clear hH2
   try simp only [Act.put,sA,sB,sC]
   refine U1 14 0 rfl (fun K hK=>?_)
   try clear hb
   go_simp
   (go_at_call 52;refine (bM s rx _).mono ?_;rintro e wn ⟨rfl,hb⟩;try (replace hT:=aG hb hT))
   refine hK.out _ _ ?hsr2_15 (fun hH2=>?hrr2_15)
   case hsr2_15=>exact aC (by have hG:=hH;replace hG:=aA hG;(try dsimp only at hG);have q0:=hG.1;have q1:=hG.2.1;have q2:=hG.2.2.1;have q3:=hG.2.2.2.1;have q4:=hG.2.2.2.2;exact ⟨aM hb q0,aG hb q1,aj hb q2,keepCell hb q3,keepCell hb q4⟩)
   clear hK K hH;have hH:=hH2;clear hH2
   try simp only [Act.put,sA,sB,sC]
   refine U1 15 0 rfl (fun K hK=>?_)
   try clear hb
   go_simp
   (go_at_call 153;refine (eH b.vy (aX s rx) _).mono ?_;rintro e wn ⟨rfl,hb⟩;try (replace hT:=aG hb hT))
   refine hK.out _ _ ?hsr2_16 (fun hH2=>?hrr2_16)
   case hsr2_16=>exact aC (by have hG:=hH;replace hG:=aA hG;(try dsimp only at hG);have q0:=hG.1;have q1:=hG.2.1;have q2:=hG.2.2.1;have q3:=hG.2.2.2.1;have q4:=hG.2.2.2.2;exact ⟨aM hb q0,aG hb q1,aj hb q2,keepCell hb q3,keepCell hb q4⟩)
   clear hK K hH;have hH:=hH2;clear hH2
   try simp only [Act.put,sA,sB,sC]
   refine Ut 16 34 1 0 0 (v:=?vr2_17) rfl hWr2 hH ?hyr2_17 ?_
   case hyr2_17=>(intro w' hSw;clear hSw;go_simp;try (with_reducible rfl))
   simp only [sB,sC];refine U1 17 1 rfl (fun K hK=>?_);have hG:=hH;replace hG:=aA hG;(try dsimp only at hG);have q0:=hG.1;have q1:=hG.2.1;have q2:=hG.2.2.1;have q3:=hG.2.2.2.1;have q4:=hG.2.2.2.2;obtain ⟨⟨z0,z1,y0,y1⟩,yf⟩:=q1;have hB9:=q2;go_simp;refine hK.out _ _ ?hsr2_18 (fun hH2=>?hrr2_18)
   case hsr2_18=>exact dY
   clear hK K hH;have hH:=hH2;clear hH2
   try simp only [Act.put,sA,sB,sC]
   refine ak (by kernel_rfl) ?_ _ _;refine NoPanic.normal ?_;go_wp2;refine bodyPost_ret (v:=aR (dI b.vx (aX s ry)) (bT b.vy (aX s rx))) (by simp [results,Tryz.results175,go_sem,y0,y1]) rfl ⟨by rw [HX.out,HY.out,HRS.out.1,HRS.out.2.1,HRS.out.2.2],by go_grown⟩
 ·have hne : (aT b l != 0) = true := by simp [hE]
  have HX:Hid (Nk b l p q=0):=by show _=_;unfold Nk;rw [if_pos hE]
  have HY:Hid (MG b l p q=0):=by show _=_;unfold MG;rw [if_pos hE]
  obtain ⟨⟨z0,z1,y0,y1⟩,yf⟩:=HZ1.out;go_wp2;refine bodyPost_ret (v:=aR 0 0) (by simp [results,Tryz.results175,go_sem,y0,y1]) rfl ⟨by rw [HX.out,HY.out],by go_grown⟩
theorem FB (l:List V) (u v:Int) (k:Nat) (hk:0<k):jg l u v k<k∧(∀ j,j<k→kN l u v j≤kN l u v (jg l u v k))∧(∀ j,j<jg l u v k→kN l u v j<kN l u v (jg l u v k)):=by
 induction k with
 | zero=>omega
 | succ k ih =>
  by_cases e:k=0
  ·subst e;have:jg l u v 1=0:=by simp [jg]
   rw [this];exact ⟨by omega,fun j hj=>by rw [show j=0 by omega];omega,fun j hj=>by omega⟩
  ·obtain ⟨a, b, c⟩ := ih (by omega);simp only [jg]
   split
   ·rename_i hlt;refine ⟨by omega,fun j hj=>?_,fun j hj=>?_⟩
    ·by_cases e2 : j = k
     ·subst e2;omega
     ·have:=b j (by omega);omega
    ·have:=b j (by omega);omega
   ·rename_i hlt;refine ⟨by omega,fun j hj=>?_,c⟩
    by_cases e2:j=k
    ·subst e2;omega
    ·exact b j (by omega)

structure Lay (α : Type) where
 enc:α→List Value
 k:Nat
 hk:∀ x,(enc x).length=k
 one:∀ x,∀ v ∈ enc x,v.oneCell'=true
 pos:0<k
section
variable {w0 w w':World}
variable {α:Type} {L:Lay α}
structure aJ (L : Lay α) (w : World) (b off : Nat) (l : List α) : Prop where
 lt:b<w.heap.size
 at_:∀ j (hj:j<l.length) i v,(L.enc l[j])[i]? = some v→w.cell? ⟨b,off+j*L.k+i,none⟩=some v
structure dW (L : Lay α) (w : World) (A : Option Addr) (n c : Nat) (l : List α) : Prop where
 len:n=l.length
 cap:n≤c
 big:c≤9223372036854775807
 at_:l≠[]→∃ b off,A=some ⟨b,off,none⟩∧aJ L w b off l
theorem aJ.below {b off:Nat} {l:List α} (hb:Below w.heap.size w w') (h:aJ L w b off l):aJ L w' b off l :=
 ⟨Nat.lt_of_lt_of_le h.lt hb.size,fun j hj i v hv=>keepCell hb (h.at_ j hj i v hv)⟩
theorem dW.below {A:Option Addr} {n c:Nat} {l:List α} (h:dW L w A n c l) (hb:Below w.heap.size w w'):dW L w' A n c l :=
 ⟨h.len,h.cap,h.big,fun hl=>by obtain ⟨b,off,e,hc⟩:=h.at_ hl;exact ⟨b,off,e,hc.below hb⟩⟩
theorem dW.alloc {A:Option Addr} {n c:Nat} {l:List α} (h:dW L w A n c l) (o:Obj):dW L (w.alloc o) A n c l:=h.below Ba
theorem dW.drew {A:Option Addr} {n c:Nat} {l:List α} (h:dW L w A n c l):dW L w.drew A n c l:=h.below (Below.refl _ _).drew
theorem dW.nil (L:Lay α) (w:World):dW L w none 0 0 []:=⟨rfl,Nat.le_refl _,by omega,fun h=>absurd rfl h⟩
def fB (L:Lay α) (l:List α):List Value:=l.flatMap L.enc
theorem kY (l:List α):(fB L l).length=l.length*L.k:=by
 induction l with
 | nil=>simp [fB]
 | cons x l ih=>unfold fB at *;rw [List.flatMap_cons,List.length_append,L.hk,ih,List.length_cons,Nat.add_mul];omega
theorem sI (l m:List α):fB L (l ++ m)=fB L l ++ fB L m:=List.flatMap_append
theorem CY (l:List α) (j:Nat) (hj:j<l.length) (i:Nat) (v:Value) (h:(L.enc l[j])[i]? = some v):(fB L l)[j*L.k+i]? = some v:=by
 induction l generalizing j with
 | nil=>simp at hj
 | cons x l ih =>
  unfold fB at *
  rw [List.flatMap_cons]
  cases j with
  | zero =>
   have hi:i<(L.enc x).length:=by
    rcases Nat.lt_or_ge i (L.enc x).length with g | g
    ·exact g
    ·rw [List.getElem_cons_zero,List.getElem?_eq_none g] at h;cases h
   rw [Nat.zero_mul,Nat.zero_add,List.getElem?_append_left hi];exact h
  | succ j =>
   rw [List.getElem?_append_right (by rw [L.hk,Nat.add_mul];omega),L.hk,show (j+1)*L.k+i-L.k=j*L.k+i by rw [Nat.add_mul];omega];exact ih j (by simpa using hj) (by simpa using h)
theorem Hq (l:List α):∀ u ∈ fB L l,u.oneCell'=true:=fun u hu=>by
 obtain ⟨x,hx,h⟩:=List.mem_flatMap.1 hu;exact L.one x u h
theorem tJ (l:List α) (t:Nat) (ht:t<l.length*L.k):∃ (j i:Nat) (hj:j<l.length),i<L.k∧t=j*L.k+i∧(fB L l)[t]? = (L.enc l[j])[i]? := by
 have hp:=L.pos;have hj:t / L.k<l.length:=(Nat.div_lt_iff_lt_mul hp).2 ht;have hi:t % L.k<L.k:=Nat.mod_lt _ hp;have e:t=t / L.k*L.k+t % L.k:=(Nat.div_add_mod' t L.k).symm;refine ⟨t / L.k,t % L.k,hj,hi,e,?_⟩;have hv:(L.enc l[t / L.k])[t % L.k]? = some ((L.enc l[t / L.k])[t % L.k]'(by rw [L.hk];exact hi)):=List.getElem?_eq_getElem _;have:=CY l (t / L.k) hj (t % L.k) _ hv;rw [← e] at this;rw [this,hv]

def aU (L:Lay α) (e:TypeId) (w:World) (B:Nat) (v:Value) (l:List α):Prop:=w.ownsRow B e L.k v l.length (fB L l)
variable {e:TypeId}
theorem aU.nil (L:Lay α) (e:TypeId) (w:World) (B:Nat):aU L e w B (.slice none 0 0) []:=World.ownsRow_nil _ _ _ _
theorem aU.kept {B:Nat} {v:Value} {l:List α} {row:Option Nat} (h:aU L e w B v l) (hg:w.grownBy w' row) (hr:v.ownBlock=none∨v.ownBlock≠row):aU L e w' B v l:=World.ownsRow.kept h hg hr
theorem aU.below {B:Nat} {v:Value} {l:List α} (h:aU L e w B v l) (hb:Below w.heap.size w w'):aU L e w' B v l :=
 h.kept (bN (row:=none) hb) (by cases hv:v.ownBlock with | none=>exact .inl rfl | some k=>exact .inr (by simp))
theorem aU.alloc {B:Nat} {v:Value} {l:List α} (h:aU L e w B v l) (o:Obj):aU L e (w.alloc o) B v l:=World.ownsRow.alloc h o
theorem aU.drew {B:Nat} {v:Value} {l:List α} (h:aU L e w B v l):aU L e w.drew B v l:=h
theorem aU.lt {B:Nat} {v:Value} {l:List α} (h:aU L e w B v l) {k:Nat} (hk:v.ownBlock=some k):B≤k∧k<w.heap.size:=World.ownsRow.lt h k hk
theorem aU.off {B g:Nat} {s:Value} {l:List α} (h:aU L e w B s l) (hne:∀ k,s.ownBlock=some k→k≠g) (o:Nat) (u:Value):aU L e (w.setCell ⟨g,o,none⟩ u) B s l:=by
 refine h.kept (aN _ g o _) ?_
 cases hv:s.ownBlock with
 | none=>exact .inl rfl
 | some k=>exact .inr fun e=>by cases e;exact hne _ hv rfl
theorem aU.grown {B:Nat} {v:Value} {l:List α} (h:aU L e w B v l) (hg:w.grownBy w' v.ownBlock) (hB:B≤w.heap.size):Below B w w' :=
 (Below.refl B w).grown hg hB (fun k hk=>(World.ownsRow.lt h k hk).1)
theorem aU.mono {B B':Nat} {v:Value} {l:List α} (h:aU L e w B v l) (hB:B'≤B):aU L e w B' v l:=by
 obtain ⟨h1,h2 | ⟨g,cap,cur,hv,hb,rest⟩⟩:=h
 ·exact ⟨h1,.inl h2⟩
 ·exact ⟨h1,.inr ⟨g,cap,cur,hv,Nat.le_trans hB hb,rest⟩⟩

theorem aU.form {B:Nat} {v:Value} {l:List α} (h:aU L e w B v l):(v = .slice none 0 0∧l=[])∨∃ g cap,v = .slice (some ⟨g,0,none⟩) l.length cap∧B≤g∧g<w.heap.size∧l.length≤cap∧cap≤maxLen∧(∀ j,w.frozen? ⟨g,j,none⟩=false)∧aJ L w g 0 l:=by
 have hc:=fun g hg=>World.ownsRow.cells h (g:=g) hg
 obtain ⟨h1,h2 | ⟨g,cap,cur,rfl,hb,hg,hn,hm,hs,ht⟩⟩:=h
 ·exact .inl ⟨h2.1,List.length_eq_zero_iff.1 h2.2⟩
 ·have hlt := (Array.getElem?_eq_some_iff.1 hg).1;refine .inr ⟨g,cap,rfl,hb,hlt,hn,hm,fun j=>by simp [World.frozen?,hg],hlt,fun j hj i v hv=>?_⟩;have:=hc g rfl (j*L.k+i) v (CY l j hj i v hv);have hadd:(⟨g,0,none⟩:Addr).add (j*L.k+i)=⟨g,0+j*L.k+i,none⟩:=by unfold Addr.add;split <;> simp_all <;> omega
  rwa [hadd] at this
theorem aU.sl {B:Nat} {v:Value} {l:List α} (h:aU L e w B v l):∃ A n c,v = .slice A n c∧dW L w A n c l∧∀ b off,A=some ⟨b,off,none⟩→B≤b:=by
 rcases h.form with ⟨rfl,rfl⟩ | ⟨g,cap,rfl,hB,hg,hn,hm,-,hc⟩
 ·exact ⟨none,0,0,rfl,dW.nil L w,by simp⟩
 ·exact ⟨_,_,_,rfl,⟨rfl,hn,by unfold maxLen at hm;omega,fun _=>⟨g,0,rfl,hc⟩⟩,fun b off e=>by cases e;exact hB⟩

structure IY (L : Lay α) (t e : TypeId) (bytes : Nat) : Prop where
 ht:Tryz.prog.underlying t=some (.slice e)
 hi:∃ (i0:TypeInfo) (z:Value),Tryz.prog.info? e=some i0∧i0.zero=some z∧i0.size=L.k∧i0.bytes=bytes∧z.cells.size=L.k

theorem nW {t : TypeId} {bytes : Nat} (hT : IY L t e bytes) (ty : TypeId) (w : World) (B : Nat) (v : Value) (l : List α) (hown : aU L e w B v l) (b off n c : Nat) (m : List α) (hn : n = m.length) (hc : aJ L w b off m)
  (hl:l.length+m.length≤8796093022208) (hby:(l.length+m.length)*bytes≤140737488355328) (hB:B≤w.heap.size) :
  ∃ v' w',(Builtin.append_ #[t,t] ty #[v,.slice (some ⟨b,off,none⟩) n c]).run Tryz.prog w = .ok v' w'∧aU L e w' B v' (l ++ m)∧w.grownBy w' v.ownBlock∧(v'.ownBlock=v.ownBlock∨v'.ownBlock=some w.heap.size):=by
 obtain ⟨i0,z,hi,hz0,hz1,hz2,hz3⟩:=hT.hi;subst hn
 obtain ⟨v',w',hr,h2,h3,h4,h5⟩:=run_append_own_at (P:=Tryz.prog) w B t ty e i0 z L.k bytes hT.ht hi hz0 hz1 hz2 hz3 L.pos v l.length (fB L l) hown ⟨b,off,none⟩ m.length c (fB L m) (kY m) (fun j u hj=>by
  rcases Nat.lt_or_ge j (m.length*L.k) with g | g
  ·obtain ⟨j', i, hj', hi', e', h⟩ := tJ m j g;rw [h] at hj;have:=hc.at_ j' hj' i u hj;have hadd:(⟨b,off,none⟩:Addr).add j=⟨b,off+j'*L.k+i,none⟩:=by unfold Addr.add;split <;> simp_all <;> omega
   rw [hadd];exact this
  ·rw [List.getElem?_eq_none (by rw [kY];exact g)] at hj;cases hj) (Hq m) (by unfold maxLen;omega) hby hB
 refine ⟨v',w',hr,?_,h3,h5⟩;unfold aU;rw [sI,List.length_append];exact h2
theorem dS {t : TypeId} {bytes : Nat} (hT : IY L t e bytes) {w : World} {ops : Array Oper} {rest : List Oper} {o : Oper} {a : Act} {Q : Exit → Act → World → Prop} (hgd : o.guard = none) (s x : Operand)
  (ho:o.op = .call { callee:=.builtin .append,args:=#[s,x],argTypes:=#[t,t] })
  (B:Nat) (v:Value) (l:List α) (hs:a.eval s=v) (hown:aU L e w B v l) (b off n c:Nat) (m:List α) (hx:a.eval x = .slice (some ⟨b,off,none⟩) n c) (hn:n=m.length) (hc:aJ L w b off m)
  (hl:l.length+m.length≤8796093022208) (hby:(l.length+m.length)*bytes≤140737488355328) (hB:B≤w.heap.size)
  (h:∀ v' w',aU L e w' B v' (l ++ m)→w.grownBy w' v.ownBlock→(v'.ownBlock=v.ownBlock∨v'.ownBlock=some w.heap.size)→wpList Tryz.prog ops Q rest (a.put o.dst v') w'):wpList Tryz.prog ops Q (o :: rest) a w:=by
 obtain ⟨v',w',hr,h2,h3,h5⟩:=nW hT o.type w B v l hown b off n c m hn hc hl hby hB;refine wpList_plain hgd fun K hK=>?_
 unfold Oper.wp execOp;simp only [ho,resolve,invoke,builtin,Sem.run_bind,Sem.run_pure,Result.andThen_ok,List.map_toArray,List.map_cons,List.map_nil,hs,hx,hr];exact hK _ _ (h v' w' h2 h3 h5)
theorem iy {t : TypeId} {bytes : Nat} (hT : IY L t e bytes) {w : World} {ops : Array Oper} {o : Oper} {a : Act} {K : Act → World → Prop} {Q : Exit → Act → World → Prop} {E : Prop} (hgd : o.guard = none) (s x : Operand)
  (ho:o.op = .call { callee:=.builtin .append,args:=#[s,x],argTypes:=#[t,t] })
  (B:Nat) (v:Value) (l:List α) (hs:a.eval s=v) (hown:aU L e w B v l) (b off n c:Nat) (m:List α) (hx:a.eval x = .slice (some ⟨b,off,none⟩) n c) (hn:n=m.length) (hc:aJ L w b off m)
  (hl:l.length+m.length≤8796093022208) (hby:(l.length+m.length)*bytes≤140737488355328) (hB:B≤w.heap.size)
  (h:∀ v' w',aU L e w' B v' (l ++ m)→w.grownBy w' v.ownBlock→(v'.ownBlock=v.ownBlock∨v'.ownBlock=some w.heap.size)→K (a.put o.dst v') w'):if Region.wanted o (yielded ops a.tmps)=true then Oper.wp Tryz.prog o a w K Q else E:=by
 have hw:Region.wanted o (yielded ops a.tmps)=true:=by simp [Region.wanted,hgd]
 rw [if_pos hw];obtain ⟨v',w',hr,h2,h3,h5⟩:=nW hT o.type w B v l hown b off n c m hn hc hl hby hB;unfold Oper.wp execOp;simp only [ho,resolve,invoke,builtin,Sem.run_bind,Sem.run_pure,Result.andThen_ok,List.map_toArray,List.map_cons,List.map_nil,hs,hx,hr];exact h v' w' h2 h3 h5
end
end
end Go.Proofs.YtokgmcomgflloaaGreat
