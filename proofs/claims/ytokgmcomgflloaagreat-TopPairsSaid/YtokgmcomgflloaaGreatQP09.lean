/- Parts of a proof: contracts and laws. -/
import Derived.Test.YtokgmcomgflloaaGreatQP08
import Derived.Test.YtokgmcomgflloaaGreatQP03
import Derived.Test.YtokgmcomgflloaaGreatQP05
import Derived.Maps.AppendAt
set_option maxRecDepth 100000
set_option maxHeartbeats 16000000
namespace Go.Proofs.YtokgmcomgflloaaGreat
section
set_option linter.unusedVariables false
set_option linter.unusedSimpArgs false
open Go.RowKit
variable {w0 w w':World}
theorem qI {A:Option Addr} {n c:Nat} {l:List V} (hb:Below w.heap.size w w') (h:Sl w A n c l):Sl w' A n c l:=h.below hb
theorem Sl.drew' {A:Option Addr} {n c:Nat} {l:List V} (h:Sl w A n c l):Sl w.drew A n c l:=⟨h.len,h.cap,h.big,fun hl=>by obtain ⟨b,off,e,hc⟩:=h.at_ hl;exact ⟨b,off,e,⟨hc.lt,hc.x,hc.y⟩⟩⟩
theorem vG (a b:Int) : -1099511627776≤bH a b∧bH a b≤1099511627776:=by
 unfold bH NW
 split
 ·omega
 ·exact iy _
theorem fA {b:Bd} {l:List V} (h:bG b l=0):fT l=0∧nO b=0:=by
 unfold bG at h
 split at h
 ·rename_i h1;exact absurd h h1
 ·rename_i h1;exact ⟨by simpa using h1,h⟩
theorem je {n l h:Int}:pF n l h=true↔l≤n∧n≤h:=by simp [pF]
theorem sM {b:Bd} (h:nO b=0):(-58982400≤b.px∧b.px≤58982400 ∧ -58982400≤b.py∧b.py≤58982400)∧(-268435456≤b.vx∧b.vx≤268435456 ∧ -268435456≤b.vy∧b.vy≤268435456)∧(-16777216≤b.spin∧b.spin≤16777216)∧(0≤b.ang∧b.ang≤65535)∧(0≤b.mass∧b.mass≤1099511627776)∧(0≤b.iner∧b.iner≤1099511627776):=by
 unfold nO at h
 split at h
 ·rename_i h1
  split at h
  ·rename_i h2;simp only [Bool.and_eq_true] at h1 h2;exact ⟨aA.1 h1.1.1.1,aA.1 h1.1.1.2,je.1 h1.1.2,je.1 h1.2,je.1 h2.1.1.1.1,je.1 h2.1.1.1.2⟩
  ·omega
 ·omega
def Tq (a:Int):Int:=(a.tmod 65536+65536).tmod 65536
def moveB (b:Bd) (l:List V) (s:Int):Bd :=
 if bG b l≠0∨b.mass=0∨b.asleep=true∨s<0∨65536<s then b
 else { b with px:=dW (b.px+bH b.vx s) 58982400,py:=dW (b.py+bH b.vy s) 58982400,ang:=Tq (b.ang+bH b.spin s) }
theorem wU (b:Bd) (A:Option Addr) (n c:Nat) (l:List V) (s:Int) (w:World) (hS:Sl w A n c l) (hl:l.length≤8796093022208):Calls Tryz.prog 51 #[gH b A n c,.int .i64 s] w (vE (moveB b l s) l w):=by
 obtain ⟨W,hW⟩:∃ W,W=(w.alloc (.cells #[.int .i64 b.px,.int .i64 b.py,.int .i64 b.vx,.int .i64 b.vy,.int .i64 b.ang,.int .i64 b.spin,.int .i64 b.mass,.int .i64 b.iner,.int .i64 b.bounce,.int .i64 b.rub,.slice A n c,.bool b.asleep,.int .i64 b.calm] 27)).alloc (.cells #[.int .i64 0,.int .i64 0,.int .i64 0,.int .i64 0,.int .i64 0,.int .i64 0,.int .i64 0,.int .i64 0,.int .i64 0,.int .i64 0,.slice none 0 0,.bool false,.int .i64 0] 27):=⟨_,rfl⟩;have HK0:=hid (show aW W w.heap.size b A n c by rw [hW];exact (aW.here w b A n c _).alloc _);have HZ0:=hid (show kG W (w.heap.size+1) by rw [hW];have:=aW.here (w.alloc (.cells #[.int .i64 b.px,.int .i64 b.py,.int .i64 b.vx,.int .i64 b.vy,.int .i64 b.ang,.int .i64 b.spin,.int .i64 b.mass,.int .i64 b.iner,.int .i64 b.bounce,.int .i64 b.rub,.slice A n c,.bool b.asleep,.int .i64 b.calm] 27)) G9 none 0 0 27;simp only [G9] at this;exact kG.of (by simpa using this));have hB0:Below w.heap.size w W:=by rw [hW];go_grown
 have HS0:=hid (hS.below hB0);clear hS
 go_enter Tryz.func51,Tryz.ntmps51
 go_wp2_with fail
 rw [← hW];clear hW;have hsz0:=HZ0.out.lt;refine (Jk b A n c l _ HS0.out hl).mono ?_;rintro e w1 ⟨A1,n1,c1,rfl,hs1,hf1,hb1⟩;have HK1:=hid (eD hb1 HK0.out);have HZ1:=hid (iF hb1 HZ0.out);have hB1:=aj hb1 hB0;have HF2:Hid (∀ bx off,A1=some ⟨bx,off,none⟩→w.heap.size+1<bx):=fun bx off e=>by have:=hf1 bx off e;omega
 have HF1:Hid (∀ bx off,A1=some ⟨bx,off,none⟩→w.heap.size≤bx):=fun bx off e=>by have:=hf1 bx off e;omega
 have HS1:=hid hs1;obtain ⟨k0,k1,k2,k3,k4,k5,k6,k7,k8,k9,k10,k11,k12,kf⟩:=HK1.out;have hz0:=HK1.out.lt;clear hb1 HK0 HZ0 hB0 HS0 hs1 hf1
 go_wp2_with fail
 obtain ⟨wd,hwd⟩:∃ wd,wd=setBd w1 w.heap.size b A1 n1 c1:=⟨_,rfl⟩;have HKd:=hid (show aW wd w.heap.size b A1 n1 c1 by rw [hwd];exact Ns (kG.of HK1.out) b A1 n1 c1);have HZd:=hid (show kG wd (w.heap.size+1) by rw [hwd];exact HZ1.out.setBd _ _ _ _);have HSd:=hid (show Sl wd A1 n1 c1 l by rw [hwd];exact HS1.out.setBd b (fun bx off e=>by have:=HF2.out bx off e;omega));have hBd:Below w.heap.size w wd:=by rw [hwd];exact ED hB1 (Nat.le_refl _) _ _ _ _
 unfold setBd at hwd;rw [← hwd];clear hwd HK1 HZ1 HS1 hB1 hz0 kf k0 k1 k2 k3 k4 k5 k6 k7 k8 k9 k10 k11 k12;refine (nH b A1 n1 c1 l _ HSd.out).mono ?_;rintro e w2 ⟨rfl,hb2⟩;have HK2:=hid (eD hb2 HKd.out);have HZ2:=hid (iF hb2 HZd.out);have HS2:=hid (qI hb2 HSd.out);have hB2:=aj hb2 hBd;clear hb2 hBd HKd HZd HSd;obtain ⟨k0,k1,k2,k3,k4,k5,k6,k7,k8,k9,k10,k11,k12,kf⟩:=HK2.out;have hz2:=HK2.out.lt
 by_cases hE:bG b l=0
 ·have HE := hid hE;rw [hE];clear hE
  by_cases hm:b.mass=0
  ·have hmb : (b.mass == 0) = true := by simp [hm]
   have HR:Hid (moveB b l s=b):=by show _=_;unfold moveB;rw [if_pos (.inr (.inl hm))]
   obtain ⟨z0,z1,z2,z3,z4,z5,z6,z7,z8,z9,z10,z11,z12,y0,y1,y2,y3,y4,y5,y6,y7,y8,y9,y10,y11,y12⟩:=HZ2.out.all;have yf:=HZ2.out.free;have hl1:=HZ2.out.lt;go_wp2;refine bodyPost_ret (v:=gH b A1 n1 c1) (by simp [results,Tryz.results51,go_sem,y0,y1,y2,y3,y4,y5,y6,y7,y8,y9,y10,y11,y12,hl1] <;> simp [*]) rfl ⟨_,_,_,by rw [HR.out],?_,HF1.out,?_⟩
   ·iterate 13 refine Sl.setAt ?_ (fun bx off e => by have := HF2.out bx off e; omega)
    exact HS2.out
   ·go_grown
  ·have hmb : (b.mass == 0) = false := by simp [hm]
   cases ha:b.asleep with
   | true =>
    rw [ha] at k11;have HR:Hid (moveB b l s=b):=by show _=_;unfold moveB;rw [if_pos (.inr (.inr (.inl ha)))]
    obtain ⟨z0,z1,z2,z3,z4,z5,z6,z7,z8,z9,z10,z11,z12,y0,y1,y2,y3,y4,y5,y6,y7,y8,y9,y10,y11,y12⟩:=HZ2.out.all;have yf:=HZ2.out.free;have hl1:=HZ2.out.lt;go_wp2;refine bodyPost_ret (v:=gH b A1 n1 c1) (by simp [results,Tryz.results51,go_sem,y0,y1,y2,y3,y4,y5,y6,y7,y8,y9,y10,y11,y12,hl1] <;> simp [*]) rfl ⟨_,_,_,by rw [HR.out],?_,HF1.out,?_⟩
    ·iterate 13 refine Sl.setAt ?_ (fun bx off e => by have := HF2.out bx off e; omega)
     exact HS2.out
    ·go_grown
   | false =>
    rw [ha] at k11
    by_cases hs0:s<0
    ·have HR : Hid (moveB b l s = b) := by show _ = _; unfold moveB; rw [if_pos (.inr (.inr (.inr (.inl hs0))))]
     obtain ⟨z0,z1,z2,z3,z4,z5,z6,z7,z8,z9,z10,z11,z12,y0,y1,y2,y3,y4,y5,y6,y7,y8,y9,y10,y11,y12⟩:=HZ2.out.all;have yf:=HZ2.out.free;have hl1:=HZ2.out.lt;go_wp2;refine bodyPost_ret (v:=gH b A1 n1 c1) (by simp [results,Tryz.results51,go_sem,y0,y1,y2,y3,y4,y5,y6,y7,y8,y9,y10,y11,y12,hl1] <;> simp [*]) rfl ⟨_,_,_,by rw [HR.out],?_,HF1.out,?_⟩
     ·iterate 13 refine Sl.setAt ?_ (fun bx off e => by have := HF2.out bx off e; omega)
      exact HS2.out
     ·go_grown
    ·by_cases hs1 : 65536 < s
     ·have HR : Hid (moveB b l s = b) := by show _ = _; unfold moveB; rw [if_pos (.inr (.inr (.inr (.inr hs1))))]
      obtain ⟨z0,z1,z2,z3,z4,z5,z6,z7,z8,z9,z10,z11,z12,y0,y1,y2,y3,y4,y5,y6,y7,y8,y9,y10,y11,y12⟩:=HZ2.out.all;have yf:=HZ2.out.free;have hl1:=HZ2.out.lt;go_wp2;refine bodyPost_ret (v:=gH b A1 n1 c1) (by simp [results,Tryz.results51,go_sem,y0,y1,y2,y3,y4,y5,y6,y7,y8,y9,y10,y11,y12,hl1] <;> simp [*]) rfl ⟨_,_,_,by rw [HR.out],?_,HF1.out,?_⟩
      ·iterate 13 refine Sl.setAt ?_ (fun bx off e => by have := HF2.out bx off e; omega)
       exact HS2.out
      ·go_grown
     ·have HCOND : Hid (¬ (bG b l ≠ 0 ∨ b.mass = 0 ∨ b.asleep = true ∨ s < 0 ∨ 65536 < s)) := by show ¬ _; rintro (h | h | h | h | h); exact h HE.out; exact hm h; (rw [ha] at h; simp at h); exact hs0 h; exact hs1 h
      obtain ⟨⟨p1,p2,p3,p4⟩,⟨v1,v2,v3,v4⟩,⟨s1,s2⟩,⟨a1,a2⟩,_,_⟩:=sM (fA HE.out).2;obtain ⟨m1,m2⟩:=vG b.vx s;obtain ⟨m3,m4⟩:=vG b.vy s;obtain ⟨m5,m6⟩:=vG b.spin s;have w1':IntKind.i64.wrap (b.px+bH b.vx s)=b.px+bH b.vx s:=IntWalk.i64_in _ (by omega);have w2':IntKind.i64.wrap (b.py+bH b.vy s)=b.py+bH b.vy s:=IntWalk.i64_in _ (by omega);have w3':IntKind.i64.wrap (b.ang+bH b.spin s)=b.ang+bH b.spin s:=IntWalk.i64_in _ (by omega)
      go_wp2_with fail
      clear k0 k1 k2 k3 k4 k5 k6 k7 k8 k9 k10 k11 k12 kf;refine wp_region_noPanic ?_;refine au (S:=(S2 (fun w'=>aW w' w.heap.size b A1 n1 c1∧kG w' (w.heap.size+1)∧Sl w' A1 n1 c1 l∧Below w.heap.size w w'))) (T:=(fun j=>[0,0,0,0,0,0,0,0,0,0,0,0,1].getD j 0)) (by kernel_rfl) (aK ⟨HK2.out.drew,HZ2.out.drew,HS2.out.drew',hB2.drew⟩) (fun hH=>?_);have hWr1:aG (S2 (fun w'=>aW w' w.heap.size b A1 n1 c1∧kG w' (w.heap.size+1)∧Sl w' A1 n1 c1 l∧Below w.heap.size w w')):=aI _;refine dG [(0,28),(1,29),(2,30),(3,31),(4,32),(5,33),(6,34)] 6 0 0 (L':=?Lr1_1) hWr1 hH ?hyr1_1 ?_
      case hyr1_1=>((iterate 7 apply dF;rfl;kernel_rfl;intro w' hSw;replace hSw:=aB hSw;(try dsimp only at hSw);have q0:=hSw.1;have q1:=hSw.2.1;have q2:=hSw.2.2.1;have q3:=hSw.2.2.2;obtain ⟨qa0_0,qa0_1,qa0_2,qa0_3,qa0_4,qa0_5,qa0_6,qa0_7,qa0_8,qa0_9,qa0_10,qa0_11,qa0_12,qa0_f⟩:=id q0;have qa1_f:=q1.free;(try simp only [sB,sC]);go_simp;(try with_reducible rfl));exact dD)
      simp only [sB,sC];refine U1 7 0 rfl (fun K hK=>?_)
      try clear hb
      go_simp
      (go_at_call 52;refine (fO b.vx s _).mono ?_;rintro e wn ⟨rfl,hb⟩)
      refine hK.out _ _ ?hsr1_8 (fun hH2=>?hrr1_8)
      case hsr1_8=>exact aK (by have hG:=hH;replace hG:=aB hG;(try dsimp only at hG);have q0:=hG.1;have q1:=hG.2.1;have q2:=hG.2.2.1;have q3:=hG.2.2.2;exact ⟨eD hb q0,iF hb q1,qI hb q2,aj hb q3⟩)
      clear hK K hH;have hH:=hH2;clear hH2
      try simp only [Act.put,sA,sB,sC]
      refine Ut 8 36 4 0 0 (v:=?vr1_9) rfl hWr1 hH ?hyr1_9 ?_
      case hyr1_9=>(intro w' hSw;clear hSw;go_simp;try (with_reducible rfl))
      simp only [sB,sC];refine U1 9 0 rfl (fun K hK=>?_)
      try clear hb
      go_simp
      (go_at_call 124;refine (rC (b.px+bH b.vx s) 58982400 (by omega) (by omega) _).mono ?_;rintro e wn ⟨rfl,hb⟩)
      refine hK.out _ _ ?hsr1_10 (fun hH2=>?hrr1_10)
      case hsr1_10=>exact aK (by have hG:=hH;replace hG:=aB hG;(try dsimp only at hG);have q0:=hG.1;have q1:=hG.2.1;have q2:=hG.2.2.1;have q3:=hG.2.2.2;exact ⟨eD hb q0,iF hb q1,qI hb q2,aj hb q3⟩)
      clear hK K hH;have hH:=hH2;clear hH2
      try simp only [Act.put,sA,sB,sC]
      refine dG [(10,38),(11,39)] 1 0 0 (L':=?Lr1_11) hWr1 hH ?hyr1_11 ?_
      case hyr1_11=>((iterate 2 apply dF;rfl;kernel_rfl;intro w' hSw;clear hSw;(try simp only [sB,sC]);go_simp;(try with_reducible rfl));exact dD)
      simp only [sB,sC];refine U1 12 1 rfl (fun K hK=>?_);have hG:=hH;replace hG:=aB hG;(try dsimp only at hG);have q0:=hG.1;have q1:=hG.2.1;have q2:=hG.2.2.1;have q3:=hG.2.2.2;obtain ⟨qa0_0,qa0_1,qa0_2,qa0_3,qa0_4,qa0_5,qa0_6,qa0_7,qa0_8,qa0_9,qa0_10,qa0_11,qa0_12,qa0_f⟩:=id q0;go_simp;refine hK.out _ _ ?hsr1_13 (fun hH2=>?hrr1_13)
      case hsr1_13=>exact gV
      clear hK K hH;have hH:=hH2;clear hH2
      try simp only [Act.put,sA,sB,sC]
      refine ak (by kernel_rfl) ?_ _ _;refine NoPanic.normal ?_;clear hWr1;have HK3:=hid (q0.set_px (dW (b.px+bH b.vx s) 58982400));have HZ3:=hid (q1.set ⟨w.heap.size,0,none⟩ (.int .i64 (dW (b.px+bH b.vx s) 58982400)));have HS3:=hid (q2.setAt (g:=w.heap.size) (o:=0) (v:=.int .i64 (dW (b.px+bH b.vx s) 58982400)) (fun bx off e=>by have:=HF2.out bx off e;omega));have hB3:Below w.heap.size w (wn.setCell ⟨w.heap.size,0,none⟩ (.int .i64 (dW (b.px+bH b.vx s) 58982400))):=by go_grown
      clear hH hG q0 q1 q2 q3 qa0_0 qa0_1 qa0_2 qa0_3 qa0_4 qa0_5 qa0_6 qa0_7 qa0_8 qa0_9 qa0_10 qa0_11 qa0_12 qa0_f HK2 HZ2 HS2 hB2;generalize wn.setCell ⟨w.heap.size,0,none⟩ (.int .i64 (dW (b.px+bH b.vx s) 58982400))=wd at *
      obtain ⟨b2,hb2⟩:∃ b2:Bd,b2={ b with px:=dW (b.px+bH b.vx s) 58982400 }:=⟨_,rfl⟩;rw [← hb2] at HK3;have hy2:b2.py=b.py:=by rw [hb2]
      have hv2:b2.vy=b.vy:=by rw [hb2]
      go_wp2_with fail
      refine wp_region_noPanic ?_;refine au (S:=(S2 (fun w'=>aW w' w.heap.size b2 A1 n1 c1∧kG w' (w.heap.size+1)∧Sl w' A1 n1 c1 l∧Below w.heap.size w w'))) (T:=(fun j=>[0,0,0,0,0,0,0,0,0,0,0,0,1].getD j 0)) (by kernel_rfl) (aK ⟨HK3.out.drew,HZ3.out.drew,HS3.out.drew',hB3.drew⟩) (fun hH=>?_);have hWr2:aG (S2 (fun w'=>aW w' w.heap.size b2 A1 n1 c1∧kG w' (w.heap.size+1)∧Sl w' A1 n1 c1 l∧Below w.heap.size w w')):=aI _;refine dG [(0,40),(1,41),(2,42),(3,43),(4,44),(5,45),(6,46)] 6 0 0 (L':=?Lr2_1) hWr2 hH ?hyr2_1 ?_
      case hyr2_1=>((iterate 7 apply dF;rfl;kernel_rfl;intro w' hSw;replace hSw:=aB hSw;(try dsimp only at hSw);have q0:=hSw.1;have q1:=hSw.2.1;have q2:=hSw.2.2.1;have q3:=hSw.2.2.2;obtain ⟨qa0_0,qa0_1,qa0_2,qa0_3,qa0_4,qa0_5,qa0_6,qa0_7,qa0_8,qa0_9,qa0_10,qa0_11,qa0_12,qa0_f⟩:=id q0;have qa1_f:=q1.free;(try simp only [sB,sC]);go_simp;(try with_reducible rfl));exact dD)
      simp only [sB,sC];refine U1 7 0 rfl (fun K hK=>?_)
      try clear hb
      go_simp
      (go_at_call 52;refine (fO b.vy s _).mono ?_;rintro e wn ⟨rfl,hb⟩)
      refine hK.out _ _ ?hsr2_8 (fun hH2=>?hrr2_8)
      case hsr2_8=>exact aK (by have hG:=hH;replace hG:=aB hG;(try dsimp only at hG);have q0:=hG.1;have q1:=hG.2.1;have q2:=hG.2.2.1;have q3:=hG.2.2.2;exact ⟨eD hb q0,iF hb q1,qI hb q2,aj hb q3⟩)
      clear hK K hH;have hH:=hH2;clear hH2
      try simp only [Act.put,sA,sB,sC]
      refine Ut 8 48 4 0 0 (v:=?vr2_9) rfl hWr2 hH ?hyr2_9 ?_
      case hyr2_9=>(intro w' hSw;clear hSw;go_simp;try (with_reducible rfl))
      simp only [sB,sC];refine U1 9 0 rfl (fun K hK=>?_)
      try clear hb
      go_simp
      (go_at_call 124;refine (rC (b.py+bH b.vy s) 58982400 (by omega) (by omega) _).mono ?_;rintro e wn ⟨rfl,hb⟩)
      refine hK.out _ _ ?hsr2_10 (fun hH2=>?hrr2_10)
      case hsr2_10=>exact aK (by have hG:=hH;replace hG:=aB hG;(try dsimp only at hG);have q0:=hG.1;have q1:=hG.2.1;have q2:=hG.2.2.1;have q3:=hG.2.2.2;exact ⟨eD hb q0,iF hb q1,qI hb q2,aj hb q3⟩)
      clear hK K hH;have hH:=hH2;clear hH2
      try simp only [Act.put,sA,sB,sC]
      refine dG [(10,50),(11,51)] 1 0 0 (L':=?Lr2_11) hWr2 hH ?hyr2_11 ?_
      case hyr2_11=>((iterate 2 apply dF;rfl;kernel_rfl;intro w' hSw;clear hSw;(try simp only [sB,sC]);go_simp;(try with_reducible rfl));exact dD)
      simp only [sB,sC];refine U1 12 1 rfl (fun K hK=>?_);have hG:=hH;replace hG:=aB hG;(try dsimp only at hG);have q0:=hG.1;have q1:=hG.2.1;have q2:=hG.2.2.1;have q3:=hG.2.2.2;obtain ⟨qa0_0,qa0_1,qa0_2,qa0_3,qa0_4,qa0_5,qa0_6,qa0_7,qa0_8,qa0_9,qa0_10,qa0_11,qa0_12,qa0_f⟩:=id q0;go_simp;refine hK.out _ _ ?hsr2_13 (fun hH2=>?hrr2_13)
      case hsr2_13=>exact gV
      clear hK K hH;have hH:=hH2;clear hH2
      try simp only [Act.put,sA,sB,sC]
      refine ak (by kernel_rfl) ?_ _ _;refine NoPanic.normal ?_;clear hWr2;have HK4:=hid (q0.set_py (dW (b.py+bH b.vy s) 58982400));have HZ4:=hid (q1.set ⟨w.heap.size,1,none⟩ (.int .i64 (dW (b.py+bH b.vy s) 58982400)));have HS4:=hid (q2.setAt (g:=w.heap.size) (o:=1) (v:=.int .i64 (dW (b.py+bH b.vy s) 58982400)) (fun bx off e=>by have:=HF2.out bx off e;omega));have hB4:Below w.heap.size w (wn.setCell ⟨w.heap.size,1,none⟩ (.int .i64 (dW (b.py+bH b.vy s) 58982400))):=by go_grown
      clear hH hG q0 q1 q2 q3 qa0_0 qa0_1 qa0_2 qa0_3 qa0_4 qa0_5 qa0_6 qa0_7 qa0_8 qa0_9 qa0_10 qa0_11 qa0_12 qa0_f HK3 HZ3 HS3 hB3;generalize wn.setCell ⟨w.heap.size,1,none⟩ (.int .i64 (dW (b.py+bH b.vy s) 58982400))=wd at *
      obtain ⟨b3,hb3⟩:∃ b3:Bd,b3={ b2 with py:=dW (b.py+bH b.vy s) 58982400 }:=⟨_,rfl⟩;rw [← hb3] at HK4;have ha3:b3.ang=b.ang:=by rw [hb3,hb2]
      have hs3:b3.spin=b.spin:=by rw [hb3,hb2]
      have t1:=Int.lt_tmod_of_pos (b.ang+bH b.spin s) (show (0:Int)<65536 by omega);have t2:=Int.tmod_lt_of_pos (b.ang+bH b.spin s) (show (0:Int)<65536 by omega);have w6':IntKind.i64.wrap ((b.ang+bH b.spin s).tmod 65536+65536)=(b.ang+bH b.spin s).tmod 65536+65536:=IntWalk.i64_in _ (by omega)
      go_wp2_with fail
      refine wp_region_noPanic ?_;refine au (S:=(S2 (fun w'=>aW w' w.heap.size b3 A1 n1 c1∧kG w' (w.heap.size+1)∧Sl w' A1 n1 c1 l∧Below w.heap.size w w'))) (T:=(fun j=>[0,0,0,0,0,0,0,0,0,0,0,1].getD j 0)) (by kernel_rfl) (aK ⟨HK4.out.drew,HZ4.out.drew,HS4.out.drew',hB4.drew⟩) (fun hH=>?_);have hWr3:aG (S2 (fun w'=>aW w' w.heap.size b3 A1 n1 c1∧kG w' (w.heap.size+1)∧Sl w' A1 n1 c1 l∧Below w.heap.size w w')):=aI _;refine dG [(0,52),(1,53),(2,54),(3,55),(4,56)] 7 0 0 (L':=?Lr3_1) hWr3 hH ?hyr3_1 ?_
      case hyr3_1=>((iterate 5 apply dF;rfl;kernel_rfl;intro w' hSw;replace hSw:=aB hSw;(try dsimp only at hSw);have q0:=hSw.1;have q1:=hSw.2.1;have q2:=hSw.2.2.1;have q3:=hSw.2.2.2;obtain ⟨qa0_0,qa0_1,qa0_2,qa0_3,qa0_4,qa0_5,qa0_6,qa0_7,qa0_8,qa0_9,qa0_10,qa0_11,qa0_12,qa0_f⟩:=id q0;have qa1_f:=q1.free;(try simp only [sB,sC]);go_simp;(try with_reducible rfl));exact dD)
      simp only [sB,sC];refine U1 5 0 rfl (fun K hK=>?_)
      try clear hb
      go_simp
      (go_at_call 52;refine (fO b.spin s _).mono ?_;rintro e wn ⟨rfl,hb⟩)
      refine hK.out _ _ ?hsr3_6 (fun hH2=>?hrr3_6)
      case hsr3_6=>exact aK (by have hG:=hH;replace hG:=aB hG;(try dsimp only at hG);have q0:=hG.1;have q1:=hG.2.1;have q2:=hG.2.2.1;have q3:=hG.2.2.2;exact ⟨eD hb q0,iF hb q1,qI hb q2,aj hb q3⟩)
      clear hK K hH;have hH:=hH2;clear hH2
      try simp only [Act.put,sA,sB,sC]
      refine dG [(6,58),(7,59),(8,60),(9,61),(10,62)] 1 0 0 (L':=?Lr3_7) hWr3 hH ?hyr3_7 ?_
      case hyr3_7=>((iterate 5 apply dF;rfl;kernel_rfl;intro w' hSw;clear hSw;(try simp only [sB,sC]);go_simp;(try with_reducible rfl));exact dD)
      simp only [sB,sC];refine U1 11 1 rfl (fun K hK=>?_);have hG:=hH;replace hG:=aB hG;(try dsimp only at hG);have q0:=hG.1;have q1:=hG.2.1;have q2:=hG.2.2.1;have q3:=hG.2.2.2;obtain ⟨qa0_0,qa0_1,qa0_2,qa0_3,qa0_4,qa0_5,qa0_6,qa0_7,qa0_8,qa0_9,qa0_10,qa0_11,qa0_12,qa0_f⟩:=id q0;go_simp;refine hK.out _ _ ?hsr3_12 (fun hH2=>?hrr3_12)
      case hsr3_12=>exact gV
      clear hK K hH;have hH:=hH2;clear hH2
      try simp only [Act.put,sA,sB,sC]
      refine ak (by kernel_rfl) ?_ _ _;refine NoPanic.normal ?_;clear hWr3;have HK5:=hid (q0.set_ang (((b.ang+bH b.spin s).tmod 65536+65536).tmod 65536));have HZ5:=hid (q1.set ⟨w.heap.size,4,none⟩ (.int .i64 (((b.ang+bH b.spin s).tmod 65536+65536).tmod 65536)));have HS5:=hid (q2.setAt (g:=w.heap.size) (o:=4) (v:=.int .i64 (((b.ang+bH b.spin s).tmod 65536+65536).tmod 65536)) (fun bx off e=>by have:=HF2.out bx off e;omega));have hB5:Below w.heap.size w (wn.setCell ⟨w.heap.size,4,none⟩ (.int .i64 (((b.ang+bH b.spin s).tmod 65536+65536).tmod 65536))):=by go_grown
      clear hH hG q0 q1 q2 q3 qa0_0 qa0_1 qa0_2 qa0_3 qa0_4 qa0_5 qa0_6 qa0_7 qa0_8 qa0_9 qa0_10 qa0_11 qa0_12 qa0_f HK4 HZ4 HS4 hB4;generalize wn.setCell ⟨w.heap.size,4,none⟩ (.int .i64 (((b.ang+bH b.spin s).tmod 65536+65536).tmod 65536))=wd at *
      obtain ⟨b4,hb4⟩:∃ b4:Bd,b4={ b3 with ang:=((b.ang+bH b.spin s).tmod 65536+65536).tmod 65536 }:=⟨_,rfl⟩;rw [← hb4] at HK5;have HR:Hid (moveB b l s=b4):=by show _=_;unfold moveB;rw [if_neg HCOND.out,hb4,hb3,hb2];rfl
      obtain ⟨k0,k1,k2,k3,k4,k5,k6,k7,k8,k9,k10,k11,k12,kf⟩:=HK5.out;obtain ⟨z0,z1,z2,z3,z4,z5,z6,z7,z8,z9,z10,z11,z12,y0,y1,y2,y3,y4,y5,y6,y7,y8,y9,y10,y11,y12⟩:=HZ5.out.all;have yf:=HZ5.out.free;have hl1:=HZ5.out.lt;have hz5:=HK5.out.lt;clear hb2 hb3 hb4 hy2 hv2 ha3 hs3;go_wp2;refine bodyPost_ret (v:=gH b4 A1 n1 c1) (by simp [results,Tryz.results51,go_sem,y0,y1,y2,y3,y4,y5,y6,y7,y8,y9,y10,y11,y12,hl1]) rfl ⟨_,_,_,by rw [HR.out],?_,HF1.out,?_⟩
      ·iterate 13 refine Sl.setAt ?_ (fun bx off e => by have := HF2.out bx off e; omega)
       exact HS5.out
      ·go_grown
 ·have hne : (bG b l != 0) = true := by simp [hE]
  have HR:Hid (moveB b l s=b):=by show _=_;unfold moveB;rw [if_pos (.inl hE)]
  obtain ⟨z0,z1,z2,z3,z4,z5,z6,z7,z8,z9,z10,z11,z12,y0,y1,y2,y3,y4,y5,y6,y7,y8,y9,y10,y11,y12⟩:=HZ2.out.all;have yf:=HZ2.out.free;have hl1:=HZ2.out.lt;go_wp2;refine bodyPost_ret (v:=gH b A1 n1 c1) (by simp [results,Tryz.results51,go_sem,y0,y1,y2,y3,y4,y5,y6,y7,y8,y9,y10,y11,y12,hl1] <;> simp [*]) rfl ⟨_,_,_,by rw [HR.out],?_,HF1.out,?_⟩
  ·iterate 13 refine Sl.setAt ?_ (fun bx off e => by have := HF2.out bx off e; omega)
   exact HS2.out
  ·go_grown
theorem aW.away {g:Nat} {b:Bd} {A:Option Addr} {n c:Nat} (h:aW w g b A n c) (k o:Nat) (v:Value) (hne:k≠g):aW (w.setCell ⟨k,o,none⟩ v) g b A n c :=
 ⟨aZ hne h.c0,aZ hne h.c1,aZ hne h.c2,aZ hne h.c3,aZ hne h.c4,aZ hne h.c5,aZ hne h.c6,aZ hne h.c7,aZ hne h.c8,aZ hne h.c9,aZ hne h.c10,aZ hne h.c11,aZ hne h.c12,fun j=>by rw [World.frozen?_setCell];exact h.free j⟩
theorem Nk {l:List V} (h:qG l l.length) {i k:Nat} (hi:i<l.length) (hk:k<l.length) (h1:k≠i) (h2:k≠(i+1) % l.length):0<dH l i ((i+1) % l.length) k:=by
 have:=h i hi k hk;simp only [fP,decide_eq_false_iff_not] at this;omega

structure Lay (α : Type) where
 enc:α→List Value
 k:Nat
 hk:∀ x,(enc x).length=k
 one:∀ x,∀ v ∈ enc x,v.oneCell'=true
 pos:0<k
section
variable {w0 w w':World}
variable {α:Type} {L:Lay α}
structure aM (L : Lay α) (w : World) (b off : Nat) (l : List α) : Prop where
 lt:b<w.heap.size
 at_:∀ j (hj:j<l.length) i v,(L.enc l[j])[i]? = some v→w.cell? ⟨b,off+j*L.k+i,none⟩=some v
structure dN (L : Lay α) (w : World) (A : Option Addr) (n c : Nat) (l : List α) : Prop where
 len:n=l.length
 cap:n≤c
 big:c≤9223372036854775807
 at_:l≠[]→∃ b off,A=some ⟨b,off,none⟩∧aM L w b off l
theorem aM.below {b off:Nat} {l:List α} (hb:Below w.heap.size w w') (h:aM L w b off l):aM L w' b off l :=
 ⟨Nat.lt_of_lt_of_le h.lt hb.size,fun j hj i v hv=>keepCell hb (h.at_ j hj i v hv)⟩
theorem dN.below {A:Option Addr} {n c:Nat} {l:List α} (h:dN L w A n c l) (hb:Below w.heap.size w w'):dN L w' A n c l :=
 ⟨h.len,h.cap,h.big,fun hl=>by obtain ⟨b,off,e,hc⟩:=h.at_ hl;exact ⟨b,off,e,hc.below hb⟩⟩
theorem dN.alloc {A:Option Addr} {n c:Nat} {l:List α} (h:dN L w A n c l) (o:Obj):dN L (w.alloc o) A n c l:=h.below Ba
theorem dN.drew {A:Option Addr} {n c:Nat} {l:List α} (h:dN L w A n c l):dN L w.drew A n c l:=h.below (Below.refl _ _).drew
theorem dN.nil (L:Lay α) (w:World):dN L w none 0 0 []:=⟨rfl,Nat.le_refl _,by omega,fun h=>absurd rfl h⟩
def eY (L:Lay α) (l:List α):List Value:=l.flatMap L.enc
theorem kK (l:List α):(eY L l).length=l.length*L.k:=by
 induction l with
 | nil=>simp [eY]
 | cons x l ih=>unfold eY at *;rw [List.flatMap_cons,List.length_append,L.hk,ih,List.length_cons,Nat.add_mul];omega
theorem rR (l m:List α):eY L (l ++ m)=eY L l ++ eY L m:=List.flatMap_append
theorem Dj (l:List α) (j:Nat) (hj:j<l.length) (i:Nat) (v:Value) (h:(L.enc l[j])[i]? = some v):(eY L l)[j*L.k+i]? = some v:=by
 induction l generalizing j with
 | nil=>simp at hj
 | cons x l ih =>
  unfold eY at *
  rw [List.flatMap_cons]
  cases j with
  | zero =>
   have hi:i<(L.enc x).length:=by
    rcases Nat.lt_or_ge i (L.enc x).length with g | g
    ·exact g
    ·rw [List.getElem_cons_zero,List.getElem?_eq_none g] at h;cases h
   rw [Nat.zero_mul,Nat.zero_add,List.getElem?_append_left hi];exact h
  | succ j =>
   rw [List.getElem?_append_right (by rw [L.hk,Nat.add_mul];omega),L.hk,show (j+1)*L.k+i-L.k=j*L.k+i by rw [Nat.add_mul];omega];exact ih j (by simpa using hj) (by simpa using h)
theorem Jw (l:List α):∀ u ∈ eY L l,u.oneCell'=true:=fun u hu=>by
 obtain ⟨x,hx,h⟩:=List.mem_flatMap.1 hu;exact L.one x u h
theorem tN (l:List α) (t:Nat) (ht:t<l.length*L.k):∃ (j i:Nat) (hj:j<l.length),i<L.k∧t=j*L.k+i∧(eY L l)[t]? = (L.enc l[j])[i]? := by
 have hp:=L.pos;have hj:t / L.k<l.length:=(Nat.div_lt_iff_lt_mul hp).2 ht;have hi:t % L.k<L.k:=Nat.mod_lt _ hp;have e:t=t / L.k*L.k+t % L.k:=(Nat.div_add_mod' t L.k).symm;refine ⟨t / L.k,t % L.k,hj,hi,e,?_⟩;have hv:(L.enc l[t / L.k])[t % L.k]? = some ((L.enc l[t / L.k])[t % L.k]'(by rw [L.hk];exact hi)):=List.getElem?_eq_getElem _;have:=Dj l (t / L.k) hj (t % L.k) _ hv;rw [← e] at this;rw [this,hv]

def aN (L:Lay α) (e:TypeId) (w:World) (B:Nat) (v:Value) (l:List α):Prop:=w.ownsRow B e L.k v l.length (eY L l)
variable {e:TypeId}
theorem aN.nil (L:Lay α) (e:TypeId) (w:World) (B:Nat):aN L e w B (.slice none 0 0) []:=World.ownsRow_nil _ _ _ _
theorem aN.kept {B:Nat} {v:Value} {l:List α} {row:Option Nat} (h:aN L e w B v l) (hg:w.grownBy w' row) (hr:v.ownBlock=none∨v.ownBlock≠row):aN L e w' B v l:=World.ownsRow.kept h hg hr
theorem aN.below {B:Nat} {v:Value} {l:List α} (h:aN L e w B v l) (hb:Below w.heap.size w w'):aN L e w' B v l :=
 h.kept (bW (row:=none) hb) (by cases hv:v.ownBlock with | none=>exact .inl rfl | some k=>exact .inr (by simp))
theorem aN.alloc {B:Nat} {v:Value} {l:List α} (h:aN L e w B v l) (o:Obj):aN L e (w.alloc o) B v l:=World.ownsRow.alloc h o
theorem aN.drew {B:Nat} {v:Value} {l:List α} (h:aN L e w B v l):aN L e w.drew B v l:=h
theorem aN.lt {B:Nat} {v:Value} {l:List α} (h:aN L e w B v l) {k:Nat} (hk:v.ownBlock=some k):B≤k∧k<w.heap.size:=World.ownsRow.lt h k hk
theorem aN.off {B g:Nat} {s:Value} {l:List α} (h:aN L e w B s l) (hne:∀ k,s.ownBlock=some k→k≠g) (o:Nat) (u:Value):aN L e (w.setCell ⟨g,o,none⟩ u) B s l:=by
 refine h.kept (aT _ g o _) ?_
 cases hv:s.ownBlock with
 | none=>exact .inl rfl
 | some k=>exact .inr fun e=>by cases e;exact hne _ hv rfl
theorem aN.grown {B:Nat} {v:Value} {l:List α} (h:aN L e w B v l) (hg:w.grownBy w' v.ownBlock) (hB:B≤w.heap.size):Below B w w' :=
 (Below.refl B w).grown hg hB (fun k hk=>(World.ownsRow.lt h k hk).1)
theorem aN.mono {B B':Nat} {v:Value} {l:List α} (h:aN L e w B v l) (hB:B'≤B):aN L e w B' v l:=by
 obtain ⟨h1,h2 | ⟨g,cap,cur,hv,hb,rest⟩⟩:=h
 ·exact ⟨h1,.inl h2⟩
 ·exact ⟨h1,.inr ⟨g,cap,cur,hv,Nat.le_trans hB hb,rest⟩⟩

theorem aN.form {B:Nat} {v:Value} {l:List α} (h:aN L e w B v l):(v = .slice none 0 0∧l=[])∨∃ g cap,v = .slice (some ⟨g,0,none⟩) l.length cap∧B≤g∧g<w.heap.size∧l.length≤cap∧cap≤maxLen∧(∀ j,w.frozen? ⟨g,j,none⟩=false)∧aM L w g 0 l:=by
 have hc:=fun g hg=>World.ownsRow.cells h (g:=g) hg
 obtain ⟨h1,h2 | ⟨g,cap,cur,rfl,hb,hg,hn,hm,hs,ht⟩⟩:=h
 ·exact .inl ⟨h2.1,List.length_eq_zero_iff.1 h2.2⟩
 ·have hlt := (Array.getElem?_eq_some_iff.1 hg).1;refine .inr ⟨g,cap,rfl,hb,hlt,hn,hm,fun j=>by simp [World.frozen?,hg],hlt,fun j hj i v hv=>?_⟩;have:=hc g rfl (j*L.k+i) v (Dj l j hj i v hv);have hadd:(⟨g,0,none⟩:Addr).add (j*L.k+i)=⟨g,0+j*L.k+i,none⟩:=by unfold Addr.add;split <;> simp_all <;> omega
  rwa [hadd] at this
theorem aN.sl {B:Nat} {v:Value} {l:List α} (h:aN L e w B v l):∃ A n c,v = .slice A n c∧dN L w A n c l∧∀ b off,A=some ⟨b,off,none⟩→B≤b:=by
 rcases h.form with ⟨rfl,rfl⟩ | ⟨g,cap,rfl,hB,hg,hn,hm,-,hc⟩
 ·exact ⟨none,0,0,rfl,dN.nil L w,by simp⟩
 ·exact ⟨_,_,_,rfl,⟨rfl,hn,by unfold maxLen at hm;omega,fun _=>⟨g,0,rfl,hc⟩⟩,fun b off e=>by cases e;exact hB⟩

structure MX (L : Lay α) (t e : TypeId) (bytes : Nat) : Prop where
 ht:Tryz.prog.underlying t=some (.slice e)
 hi:∃ (i0:TypeInfo) (z:Value),Tryz.prog.info? e=some i0∧i0.zero=some z∧i0.size=L.k∧i0.bytes=bytes∧z.cells.size=L.k

theorem mZ {t : TypeId} {bytes : Nat} (hT : MX L t e bytes) (ty : TypeId) (w : World) (B : Nat) (v : Value) (l : List α) (hown : aN L e w B v l) (b off n c : Nat) (m : List α) (hn : n = m.length) (hc : aM L w b off m)
  (hl:l.length+m.length≤8796093022208) (hby:(l.length+m.length)*bytes≤140737488355328) (hB:B≤w.heap.size) :
  ∃ v' w',(Builtin.append_ #[t,t] ty #[v,.slice (some ⟨b,off,none⟩) n c]).run Tryz.prog w = .ok v' w'∧aN L e w' B v' (l ++ m)∧w.grownBy w' v.ownBlock∧(v'.ownBlock=v.ownBlock∨v'.ownBlock=some w.heap.size):=by
 obtain ⟨i0,z,hi,hz0,hz1,hz2,hz3⟩:=hT.hi;subst hn
 obtain ⟨v',w',hr,h2,h3,h4,h5⟩:=run_append_own_at (P:=Tryz.prog) w B t ty e i0 z L.k bytes hT.ht hi hz0 hz1 hz2 hz3 L.pos v l.length (eY L l) hown ⟨b,off,none⟩ m.length c (eY L m) (kK m) (fun j u hj=>by
  rcases Nat.lt_or_ge j (m.length*L.k) with g | g
  ·obtain ⟨j', i, hj', hi', e', h⟩ := tN m j g;rw [h] at hj;have:=hc.at_ j' hj' i u hj;have hadd:(⟨b,off,none⟩:Addr).add j=⟨b,off+j'*L.k+i,none⟩:=by unfold Addr.add;split <;> simp_all <;> omega
   rw [hadd];exact this
  ·rw [List.getElem?_eq_none (by rw [kK];exact g)] at hj;cases hj) (Jw m) (by unfold maxLen;omega) hby hB
 refine ⟨v',w',hr,?_,h3,h5⟩;unfold aN;rw [rR,List.length_append];exact h2
theorem fq {t : TypeId} {bytes : Nat} (hT : MX L t e bytes) {w : World} {ops : Array Oper} {rest : List Oper} {o : Oper} {a : Act} {Q : Exit → Act → World → Prop} (hgd : o.guard = none) (s x : Operand)
  (ho:o.op = .call { callee:=.builtin .append,args:=#[s,x],argTypes:=#[t,t] })
  (B:Nat) (v:Value) (l:List α) (hs:a.eval s=v) (hown:aN L e w B v l) (b off n c:Nat) (m:List α) (hx:a.eval x = .slice (some ⟨b,off,none⟩) n c) (hn:n=m.length) (hc:aM L w b off m)
  (hl:l.length+m.length≤8796093022208) (hby:(l.length+m.length)*bytes≤140737488355328) (hB:B≤w.heap.size)
  (h:∀ v' w',aN L e w' B v' (l ++ m)→w.grownBy w' v.ownBlock→(v'.ownBlock=v.ownBlock∨v'.ownBlock=some w.heap.size)→wpList Tryz.prog ops Q rest (a.put o.dst v') w'):wpList Tryz.prog ops Q (o :: rest) a w:=by
 obtain ⟨v',w',hr,h2,h3,h5⟩:=mZ hT o.type w B v l hown b off n c m hn hc hl hby hB;refine wpList_plain hgd fun K hK=>?_
 unfold Oper.wp execOp;simp only [ho,resolve,invoke,builtin,Sem.run_bind,Sem.run_pure,Result.andThen_ok,List.map_toArray,List.map_cons,List.map_nil,hs,hx,hr];exact hK _ _ (h v' w' h2 h3 h5)
theorem iw {t : TypeId} {bytes : Nat} (hT : MX L t e bytes) {w : World} {ops : Array Oper} {o : Oper} {a : Act} {K : Act → World → Prop} {Q : Exit → Act → World → Prop} {E : Prop} (hgd : o.guard = none) (s x : Operand)
  (ho:o.op = .call { callee:=.builtin .append,args:=#[s,x],argTypes:=#[t,t] })
  (B:Nat) (v:Value) (l:List α) (hs:a.eval s=v) (hown:aN L e w B v l) (b off n c:Nat) (m:List α) (hx:a.eval x = .slice (some ⟨b,off,none⟩) n c) (hn:n=m.length) (hc:aM L w b off m)
  (hl:l.length+m.length≤8796093022208) (hby:(l.length+m.length)*bytes≤140737488355328) (hB:B≤w.heap.size)
  (h:∀ v' w',aN L e w' B v' (l ++ m)→w.grownBy w' v.ownBlock→(v'.ownBlock=v.ownBlock∨v'.ownBlock=some w.heap.size)→K (a.put o.dst v') w'):if Region.wanted o (yielded ops a.tmps)=true then Oper.wp Tryz.prog o a w K Q else E:=by
 have hw:Region.wanted o (yielded ops a.tmps)=true:=by simp [Region.wanted,hgd]
 rw [if_pos hw];obtain ⟨v',w',hr,h2,h3,h5⟩:=mZ hT o.type w B v l hown b off n c m hn hc hl hby hB;unfold Oper.wp execOp;simp only [ho,resolve,invoke,builtin,Sem.run_bind,Sem.run_pure,Result.andThen_ok,List.map_toArray,List.map_cons,List.map_nil,hs,hx,hr];exact h v' w' h2 h3 h5
end
end
end Go.Proofs.YtokgmcomgflloaaGreat
