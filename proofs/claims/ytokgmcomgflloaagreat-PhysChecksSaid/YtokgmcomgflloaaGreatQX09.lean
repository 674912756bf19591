/- Parts of a proof: contracts and laws. -/
import Derived.Test.YtokgmcomgflloaaGreatQX08
import Derived.Test.YtokgmcomgflloaaGreatQX04
set_option maxRecDepth 100000
set_option maxHeartbeats 16000000
namespace Go.Proofs.YtokgmcomgflloaaGreat
section
set_option linter.unusedVariables false
set_option linter.unusedSimpArgs false
open Go.RowKit
variable {w0 w w':World}
theorem mU {A:Option Addr} {n c:Nat} {l:List V} (hb:Below w.heap.size w w') (h:Sl w A n c l):Sl w' A n c l:=h.below hb
theorem Sl.drew' {A:Option Addr} {n c:Nat} {l:List V} (h:Sl w A n c l):Sl w.drew A n c l:=⟨h.len,h.cap,h.big,fun hl=>by obtain ⟨b,off,e,hc⟩:=h.at_ hl;exact ⟨b,off,e,⟨hc.lt,hc.x,hc.y⟩⟩⟩
theorem qC (a b:Int) : -1099511627776≤bn a b∧bn a b≤1099511627776:=by
 unfold bn Gj
 split
 ·omega
 ·exact eH _
theorem bU {b:Bd} {l:List V} (h:aJ b l=0):cO l=0∧iB b=0:=by
 unfold aJ at h
 split at h
 ·rename_i h1;exact absurd h h1
 ·rename_i h1;exact ⟨by simpa using h1,h⟩
theorem bf {n l h:Int}:dU n l h=true↔l≤n∧n≤h:=by simp [dU]
theorem iZ {b:Bd} (h:iB b=0):(-58982400≤b.px∧b.px≤58982400 ∧ -58982400≤b.py∧b.py≤58982400)∧(-268435456≤b.vx∧b.vx≤268435456 ∧ -268435456≤b.vy∧b.vy≤268435456)∧(-16777216≤b.spin∧b.spin≤16777216)∧(0≤b.ang∧b.ang≤65535)∧(0≤b.mass∧b.mass≤1099511627776)∧(0≤b.iner∧b.iner≤1099511627776):=by
 unfold iB at h
 split at h
 ·rename_i h1
  split at h
  ·rename_i h2;simp only [Bool.and_eq_true] at h1 h2;exact ⟨aV.1 h1.1.1.1,aV.1 h1.1.1.2,bf.1 h1.1.2,bf.1 h1.2,bf.1 h2.1.1.1.1,bf.1 h2.1.1.1.2⟩
  ·omega
 ·omega
def Jb (a:Int):Int:=(a.tmod 65536+65536).tmod 65536
def moveB (b:Bd) (l:List V) (s:Int):Bd :=
 if aJ b l≠0∨b.mass=0∨b.asleep=true∨s<0∨65536<s then b
 else { b with px:=cZ (b.px+bn b.vx s) 58982400,py:=cZ (b.py+bn b.vy s) 58982400,ang:=Jb (b.ang+bn b.spin s) }
theorem qO (b:Bd) (A:Option Addr) (n c:Nat) (l:List V) (s:Int) (w:World) (hS:Sl w A n c l) (hl:l.length≤8796093022208):Calls Tryz.prog 51 #[fP b A n c,.int .i64 s] w (qo (moveB b l s) l w):=by
 obtain ⟨W,hW⟩:∃ W,W=(w.alloc (.cells #[.int .i64 b.px,.int .i64 b.py,.int .i64 b.vx,.int .i64 b.vy,.int .i64 b.ang,.int .i64 b.spin,.int .i64 b.mass,.int .i64 b.iner,.int .i64 b.bounce,.int .i64 b.rub,.slice A n c,.bool b.asleep,.int .i64 b.calm] 27)).alloc (.cells #[.int .i64 0,.int .i64 0,.int .i64 0,.int .i64 0,.int .i64 0,.int .i64 0,.int .i64 0,.int .i64 0,.int .i64 0,.int .i64 0,.slice none 0 0,.bool false,.int .i64 0] 27):=⟨_,rfl⟩;have HK0:=hid (show bC W w.heap.size b A n c by rw [hW];exact (bC.here w b A n c _).alloc _);have HZ0:=hid (show jX W (w.heap.size+1) by rw [hW];have:=bC.here (w.alloc (.cells #[.int .i64 b.px,.int .i64 b.py,.int .i64 b.vx,.int .i64 b.vy,.int .i64 b.ang,.int .i64 b.spin,.int .i64 b.mass,.int .i64 b.iner,.int .i64 b.bounce,.int .i64 b.rub,.slice A n c,.bool b.asleep,.int .i64 b.calm] 27)) IB none 0 0 27;simp only [IB] at this;exact jX.of (by simpa using this));have hB0:Below w.heap.size w W:=by rw [hW];go_grown
 have HS0:=hid (hS.below hB0);clear hS
 go_enter Tryz.func51,Tryz.ntmps51
 go_wp2_with fail
 rw [← hW];clear hW;have hsz0:=HZ0.out.lt;refine (DN b A n c l _ HS0.out hl).mono ?_;rintro e w1 ⟨A1,n1,c1,rfl,hs1,hf1,hb1⟩;have HK1:=hid (bJ hb1 HK0.out);have HZ1:=hid (iJ hb1 HZ0.out);have hB1:=ah hb1 hB0;have HF2:Hid (∀ bx off,A1=some ⟨bx,off,none⟩→w.heap.size+1<bx):=fun bx off e=>by have:=hf1 bx off e;omega
 have HF1:Hid (∀ bx off,A1=some ⟨bx,off,none⟩→w.heap.size≤bx):=fun bx off e=>by have:=hf1 bx off e;omega
 have HS1:=hid hs1;obtain ⟨k0,k1,k2,k3,k4,k5,k6,k7,k8,k9,k10,k11,k12,kf⟩:=HK1.out;have hz0:=HK1.out.lt;clear hb1 HK0 HZ0 hB0 HS0 hs1 hf1
 go_wp2_with fail
 obtain ⟨wd,hwd⟩:∃ wd,wd=setBd w1 w.heap.size b A1 n1 c1:=⟨_,rfl⟩;have HKd:=hid (show bC wd w.heap.size b A1 n1 c1 by rw [hwd];exact EZ (jX.of HK1.out) b A1 n1 c1);have HZd:=hid (show jX wd (w.heap.size+1) by rw [hwd];exact HZ1.out.setBd _ _ _ _);have HSd:=hid (show Sl wd A1 n1 c1 l by rw [hwd];exact HS1.out.setBd b (fun bx off e=>by have:=HF2.out bx off e;omega));have hBd:Below w.heap.size w wd:=by rw [hwd];exact xu hB1 (Nat.le_refl _) _ _ _ _
 unfold setBd at hwd;rw [← hwd];clear hwd HK1 HZ1 HS1 hB1 hz0 kf k0 k1 k2 k3 k4 k5 k6 k7 k8 k9 k10 k11 k12;refine (kE b A1 n1 c1 l _ HSd.out).mono ?_;rintro e w2 ⟨rfl,hb2⟩;have HK2:=hid (bJ hb2 HKd.out);have HZ2:=hid (iJ hb2 HZd.out);have HS2:=hid (mU hb2 HSd.out);have hB2:=ah hb2 hBd;clear hb2 hBd HKd HZd HSd;obtain ⟨k0,k1,k2,k3,k4,k5,k6,k7,k8,k9,k10,k11,k12,kf⟩:=HK2.out;have hz2:=HK2.out.lt
 by_cases hE:aJ b l=0
 ·have HE := hid hE;rw [hE];clear hE
  by_cases hm:b.mass=0
  ·have hmb : (b.mass == 0) = true := by simp [hm]
   have HR:Hid (moveB b l s=b):=by show _=_;unfold moveB;rw [if_pos (.inr (.inl hm))]
   obtain ⟨z0,z1,z2,z3,z4,z5,z6,z7,z8,z9,z10,z11,z12,y0,y1,y2,y3,y4,y5,y6,y7,y8,y9,y10,y11,y12⟩:=HZ2.out.all;have yf:=HZ2.out.free;have hl1:=HZ2.out.lt;go_wp2;refine bodyPost_ret (v:=fP b A1 n1 c1) (by simp [results,Tryz.results51,go_sem,y0,y1,y2,y3,y4,y5,y6,y7,y8,y9,y10,y11,y12,hl1] <;> simp [*]) rfl ⟨_,_,_,by rw [HR.out],?_,HF1.out,?_⟩
   ·iterate 13 refine Sl.setAt ?_ (fun bx off e => by have := HF2.out bx off e; omega)
    exact HS2.out
   ·go_grown
  ·have hmb : (b.mass == 0) = false := by simp [hm]
   cases ha:b.asleep with
   | true =>
    rw [ha] at k11;have HR:Hid (moveB b l s=b):=by show _=_;unfold moveB;rw [if_pos (.inr (.inr (.inl ha)))]
    obtain ⟨z0,z1,z2,z3,z4,z5,z6,z7,z8,z9,z10,z11,z12,y0,y1,y2,y3,y4,y5,y6,y7,y8,y9,y10,y11,y12⟩:=HZ2.out.all;have yf:=HZ2.out.free;have hl1:=HZ2.out.lt;go_wp2;refine bodyPost_ret (v:=fP b A1 n1 c1) (by simp [results,Tryz.results51,go_sem,y0,y1,y2,y3,y4,y5,y6,y7,y8,y9,y10,y11,y12,hl1] <;> simp [*]) rfl ⟨_,_,_,by rw [HR.out],?_,HF1.out,?_⟩
    ·iterate 13 refine Sl.setAt ?_ (fun bx off e => by have := HF2.out bx off e; omega)
     exact HS2.out
    ·go_grown
   | false =>
    rw [ha] at k11
    by_cases hs0:s<0
    ·have HR : Hid (moveB b l s = b) := by show _ = _; unfold moveB; rw [if_pos (.inr (.inr (.inr (.inl hs0))))]
     obtain ⟨z0,z1,z2,z3,z4,z5,z6,z7,z8,z9,z10,z11,z12,y0,y1,y2,y3,y4,y5,y6,y7,y8,y9,y10,y11,y12⟩:=HZ2.out.all;have yf:=HZ2.out.free;have hl1:=HZ2.out.lt;go_wp2;refine bodyPost_ret (v:=fP b A1 n1 c1) (by simp [results,Tryz.results51,go_sem,y0,y1,y2,y3,y4,y5,y6,y7,y8,y9,y10,y11,y12,hl1] <;> simp [*]) rfl ⟨_,_,_,by rw [HR.out],?_,HF1.out,?_⟩
     ·iterate 13 refine Sl.setAt ?_ (fun bx off e => by have := HF2.out bx off e; omega)
      exact HS2.out
     ·go_grown
    ·by_cases hs1 : 65536 < s
     ·have HR : Hid (moveB b l s = b) := by show _ = _; unfold moveB; rw [if_pos (.inr (.inr (.inr (.inr hs1))))]
      obtain ⟨z0,z1,z2,z3,z4,z5,z6,z7,z8,z9,z10,z11,z12,y0,y1,y2,y3,y4,y5,y6,y7,y8,y9,y10,y11,y12⟩:=HZ2.out.all;have yf:=HZ2.out.free;have hl1:=HZ2.out.lt;go_wp2;refine bodyPost_ret (v:=fP b A1 n1 c1) (by simp [results,Tryz.results51,go_sem,y0,y1,y2,y3,y4,y5,y6,y7,y8,y9,y10,y11,y12,hl1] <;> simp [*]) rfl ⟨_,_,_,by rw [HR.out],?_,HF1.out,?_⟩
      ·iterate 13 refine Sl.setAt ?_ (fun bx off e => by have := HF2.out bx off e; omega)
       exact HS2.out
      ·go_grown
     ·have HCOND : Hid (¬ (aJ b l ≠ 0 ∨ b.mass = 0 ∨ b.asleep = true ∨ s < 0 ∨ 65536 < s)) := by show ¬ _; rintro (h | h | h | h | h); exact h HE.out; exact hm h; (rw [ha] at h; simp at h); exact hs0 h; exact hs1 h
      obtain ⟨⟨p1,p2,p3,p4⟩,⟨v1,v2,v3,v4⟩,⟨s1,s2⟩,⟨a1,a2⟩,_,_⟩:=iZ (bU HE.out).2;obtain ⟨m1,m2⟩:=qC b.vx s;obtain ⟨m3,m4⟩:=qC b.vy s;obtain ⟨m5,m6⟩:=qC b.spin s;have w1':IntKind.i64.wrap (b.px+bn b.vx s)=b.px+bn b.vx s:=IntWalk.i64_in _ (by omega);have w2':IntKind.i64.wrap (b.py+bn b.vy s)=b.py+bn b.vy s:=IntWalk.i64_in _ (by omega);have w3':IntKind.i64.wrap (b.ang+bn b.spin s)=b.ang+bn b.spin s:=IntWalk.i64_in _ (by omega)
      go_wp2_with fail
      clear k0 k1 k2 k3 k4 k5 k6 k7 k8 k9 k10 k11 k12 kf;refine wp_region_noPanic ?_;refine au (S:=(S2 (fun w'=>bC w' w.heap.size b A1 n1 c1∧jX w' (w.heap.size+1)∧Sl w' A1 n1 c1 l∧Below w.heap.size w w'))) (T:=(fun j=>[0,0,0,0,0,0,0,0,0,0,0,0,1].getD j 0)) (by kernel_rfl) (aM ⟨HK2.out.drew,HZ2.out.drew,HS2.out.drew',hB2.drew⟩) (fun hH=>?_);have hWr1:aO (S2 (fun w'=>bC w' w.heap.size b A1 n1 c1∧jX w' (w.heap.size+1)∧Sl w' A1 n1 c1 l∧Below w.heap.size w w')):=aR _;refine gH [(0,28),(1,29),(2,30),(3,31),(4,32),(5,33),(6,34)] 6 0 0 (L':=?Lr1_1) hWr1 hH ?hyr1_1 ?_
      case hyr1_1=>((iterate 7 apply gK;rfl;kernel_rfl;intro w' hSw;replace hSw:=aC hSw;(try dsimp only at hSw);have q0:=hSw.1;have q1:=hSw.2.1;have q2:=hSw.2.2.1;have q3:=hSw.2.2.2;obtain ⟨qa0_0,qa0_1,qa0_2,qa0_3,qa0_4,qa0_5,qa0_6,qa0_7,qa0_8,qa0_9,qa0_10,qa0_11,qa0_12,qa0_f⟩:=id q0;have qa1_f:=q1.free;(try simp only [sB,sC]);go_simp;(try with_reducible rfl));exact gF)
      simp only [sB,sC];refine U1 7 0 rfl (fun K hK=>?_)
      try clear hb
      go_simp
      (go_at_call 52;refine (dK b.vx s _).mono ?_;rintro e wn ⟨rfl,hb⟩)
      refine hK.out _ _ ?hsr1_8 (fun hH2=>?hrr1_8)
      case hsr1_8=>exact aM (by have hG:=hH;replace hG:=aC hG;(try dsimp only at hG);have q0:=hG.1;have q1:=hG.2.1;have q2:=hG.2.2.1;have q3:=hG.2.2.2;exact ⟨bJ hb q0,iJ hb q1,mU hb q2,ah hb q3⟩)
      clear hK K hH;have hH:=hH2;clear hH2
      try simp only [Act.put,sA,sB,sC]
      refine Ut 8 36 4 0 0 (v:=?vr1_9) rfl hWr1 hH ?hyr1_9 ?_
      case hyr1_9=>(intro w' hSw;clear hSw;go_simp;try (with_reducible rfl))
      simp only [sB,sC];refine U1 9 0 rfl (fun K hK=>?_)
      try clear hb
      go_simp
      (go_at_call 124;refine (nO (b.px+bn b.vx s) 58982400 (by omega) (by omega) _).mono ?_;rintro e wn ⟨rfl,hb⟩)
      refine hK.out _ _ ?hsr1_10 (fun hH2=>?hrr1_10)
      case hsr1_10=>exact aM (by have hG:=hH;replace hG:=aC hG;(try dsimp only at hG);have q0:=hG.1;have q1:=hG.2.1;have q2:=hG.2.2.1;have q3:=hG.2.2.2;exact ⟨bJ hb q0,iJ hb q1,mU hb q2,ah hb q3⟩)
      clear hK K hH;have hH:=hH2;clear hH2
      try simp only [Act.put,sA,sB,sC]
      refine gH [(10,38),(11,39)] 1 0 0 (L':=?Lr1_11) hWr1 hH ?hyr1_11 ?_
      case hyr1_11=>((iterate 2 apply gK;rfl;kernel_rfl;intro w' hSw;clear hSw;(try simp only [sB,sC]);go_simp;(try with_reducible rfl));exact gF)
      simp only [sB,sC];refine U1 12 1 rfl (fun K hK=>?_);have hG:=hH;replace hG:=aC hG;(try dsimp only at hG);have q0:=hG.1;have q1:=hG.2.1;have q2:=hG.2.2.1;have q3:=hG.2.2.2;obtain ⟨qa0_0,qa0_1,qa0_2,qa0_3,qa0_4,qa0_5,qa0_6,qa0_7,qa0_8,qa0_9,qa0_10,qa0_11,qa0_12,qa0_f⟩:=id q0;go_simp;refine hK.out _ _ ?hsr1_13 (fun hH2=>?hrr1_13)
      case hsr1_13=>exact fZ
      clear hK K hH;have hH:=hH2;clear hH2
      try simp only [Act.put,sA,sB,sC]
      refine ak (by kernel_rfl) ?_ _ _;refine NoPanic.normal ?_;clear hWr1;have HK3:=hid (q0.set_px (cZ (b.px+bn b.vx s) 58982400));have HZ3:=hid (q1.set ⟨w.heap.size,0,none⟩ (.int .i64 (cZ (b.px+bn b.vx s) 58982400)));have HS3:=hid (q2.setAt (g:=w.heap.size) (o:=0) (v:=.int .i64 (cZ (b.px+bn b.vx s) 58982400)) (fun bx off e=>by have:=HF2.out bx off e;omega));have hB3:Below w.heap.size w (wn.setCell ⟨w.heap.size,0,none⟩ (.int .i64 (cZ (b.px+bn b.vx s) 58982400))):=by go_grown
      clear hH hG q0 q1 q2 q3 qa0_0 qa0_1 qa0_2 qa0_3 qa0_4 qa0_5 qa0_6 qa0_7 qa0_8 qa0_9 qa0_10 qa0_11 qa0_12 qa0_f HK2 HZ2 HS2 hB2;generalize wn.setCell ⟨w.heap.size,0,none⟩ (.int .i64 (cZ (b.px+bn b.vx s) 58982400))=wd at *
      obtain ⟨b2,hb2⟩:∃ b2:Bd,b2={ b with px:=cZ (b.px+bn b.vx s) 58982400 }:=⟨_,rfl⟩;rw [← hb2] at HK3;have hy2:b2.py=b.py:=by rw [hb2]
      have hv2:b2.vy=b.vy:=by rw [hb2]
      go_wp2_with fail
      refine wp_region_noPanic ?_;refine au (S:=(S2 (fun w'=>bC w' w.heap.size b2 A1 n1 c1∧jX w' (w.heap.size+1)∧Sl w' A1 n1 c1 l∧Below w.heap.size w w'))) (T:=(fun j=>[0,0,0,0,0,0,0,0,0,0,0,0,1].getD j 0)) (by kernel_rfl) (aM ⟨HK3.out.drew,HZ3.out.drew,HS3.out.drew',hB3.drew⟩) (fun hH=>?_);have hWr2:aO (S2 (fun w'=>bC w' w.heap.size b2 A1 n1 c1∧jX w' (w.heap.size+1)∧Sl w' A1 n1 c1 l∧Below w.heap.size w w')):=aR _;refine gH [(0,40),(1,41),(2,42),(3,43),(4,44),(5,45),(6,46)] 6 0 0 (L':=?Lr2_1) hWr2 hH ?hyr2_1 ?_
      case hyr2_1=>((iterate 7 apply gK;rfl;kernel_rfl;intro w' hSw;replace hSw:=aC hSw;(try dsimp only at hSw);have q0:=hSw.1;have q1:=hSw.2.1;have q2:=hSw.2.2.1;have q3:=hSw.2.2.2;obtain ⟨qa0_0,qa0_1,qa0_2,qa0_3,qa0_4,qa0_5,qa0_6,qa0_7,qa0_8,qa0_9,qa0_10,qa0_11,qa0_12,qa0_f⟩:=id q0;have qa1_f:=q1.free;(try simp only [sB,sC]);go_simp;(try with_reducible rfl));exact gF)
      simp only [sB,sC];refine U1 7 0 rfl (fun K hK=>?_)
      try clear hb
      go_simp
      (go_at_call 52;refine (dK b.vy s _).mono ?_;rintro e wn ⟨rfl,hb⟩)
      refine hK.out _ _ ?hsr2_8 (fun hH2=>?hrr2_8)
      case hsr2_8=>exact aM (by have hG:=hH;replace hG:=aC hG;(try dsimp only at hG);have q0:=hG.1;have q1:=hG.2.1;have q2:=hG.2.2.1;have q3:=hG.2.2.2;exact ⟨bJ hb q0,iJ hb q1,mU hb q2,ah hb q3⟩)
      clear hK K hH;have hH:=hH2;clear hH2
      try simp only [Act.put,sA,sB,sC]
      refine Ut 8 48 4 0 0 (v:=?vr2_9) rfl hWr2 hH ?hyr2_9 ?_
      case hyr2_9=>(intro w' hSw;clear hSw;go_simp;try (with_reducible rfl))
      simp only [sB,sC];refine U1 9 0 rfl (fun K hK=>?_)
      try clear hb
      go_simp
      (go_at_call 124;refine (nO (b.py+bn b.vy s) 58982400 (by omega) (by omega) _).mono ?_;rintro e wn ⟨rfl,hb⟩)
      refine hK.out _ _ ?hsr2_10 (fun hH2=>?hrr2_10)
      case hsr2_10=>exact aM (by have hG:=hH;replace hG:=aC hG;(try dsimp only at hG);have q0:=hG.1;have q1:=hG.2.1;have q2:=hG.2.2.1;have q3:=hG.2.2.2;exact ⟨bJ hb q0,iJ hb q1,mU hb q2,ah hb q3⟩)
      clear hK K hH;have hH:=hH2;clear hH2
      try simp only [Act.put,sA,sB,sC]
      refine gH [(10,50),(11,51)] 1 0 0 (L':=?Lr2_11) hWr2 hH ?hyr2_11 ?_
      case hyr2_11=>((iterate 2 apply gK;rfl;kernel_rfl;intro w' hSw;clear hSw;(try simp only [sB,sC]);go_simp;(try with_reducible rfl));exact gF)
      simp only [sB,sC];refine U1 12 1 rfl (fun K hK=>?_);have hG:=hH;replace hG:=aC hG;(try dsimp only at hG);have q0:=hG.1;have q1:=hG.2.1;have q2:=hG.2.2.1;have q3:=hG.2.2.2;obtain ⟨qa0_0,qa0_1,qa0_2,qa0_3,qa0_4,qa0_5,qa0_6,qa0_7,qa0_8,qa0_9,qa0_10,qa0_11,qa0_12,qa0_f⟩:=id q0;go_simp;refine hK.out _ _ ?hsr2_13 (fun hH2=>?hrr2_13)
      case hsr2_13=>exact fZ
      clear hK K hH;have hH:=hH2;clear hH2
      try simp only [Act.put,sA,sB,sC]
      refine ak (by kernel_rfl) ?_ _ _;refine NoPanic.normal ?_;clear hWr2;have HK4:=hid (q0.set_py (cZ (b.py+bn b.vy s) 58982400));have HZ4:=hid (q1.set ⟨w.heap.size,1,none⟩ (.int .i64 (cZ (b.py+bn b.vy s) 58982400)));have HS4:=hid (q2.setAt (g:=w.heap.size) (o:=1) (v:=.int .i64 (cZ (b.py+bn b.vy s) 58982400)) (fun bx off e=>by have:=HF2.out bx off e;omega));have hB4:Below w.heap.size w (wn.setCell ⟨w.heap.size,1,none⟩ (.int .i64 (cZ (b.py+bn b.vy s) 58982400))):=by go_grown
      clear hH hG q0 q1 q2 q3 qa0_0 qa0_1 qa0_2 qa0_3 qa0_4 qa0_5 qa0_6 qa0_7 qa0_8 qa0_9 qa0_10 qa0_11 qa0_12 qa0_f HK3 HZ3 HS3 hB3;generalize wn.setCell ⟨w.heap.size,1,none⟩ (.int .i64 (cZ (b.py+bn b.vy s) 58982400))=wd at *
      obtain ⟨b3,hb3⟩:∃ b3:Bd,b3={ b2 with py:=cZ (b.py+bn b.vy s) 58982400 }:=⟨_,rfl⟩;rw [← hb3] at HK4;have ha3:b3.ang=b.ang:=by rw [hb3,hb2]
      have hs3:b3.spin=b.spin:=by rw [hb3,hb2]
      have t1:=Int.lt_tmod_of_pos (b.ang+bn b.spin s) (show (0:Int)<65536 by omega);have t2:=Int.tmod_lt_of_pos (b.ang+bn b.spin s) (show (0:Int)<65536 by omega);have w6':IntKind.i64.wrap ((b.ang+bn b.spin s).tmod 65536+65536)=(b.ang+bn b.spin s).tmod 65536+65536:=IntWalk.i64_in _ (by omega)
      go_wp2_with fail
      refine wp_region_noPanic ?_;refine au (S:=(S2 (fun w'=>bC w' w.heap.size b3 A1 n1 c1∧jX w' (w.heap.size+1)∧Sl w' A1 n1 c1 l∧Below w.heap.size w w'))) (T:=(fun j=>[0,0,0,0,0,0,0,0,0,0,0,1].getD j 0)) (by kernel_rfl) (aM ⟨HK4.out.drew,HZ4.out.drew,HS4.out.drew',hB4.drew⟩) (fun hH=>?_);have hWr3:aO (S2 (fun w'=>bC w' w.heap.size b3 A1 n1 c1∧jX w' (w.heap.size+1)∧Sl w' A1 n1 c1 l∧Below w.heap.size w w')):=aR _;refine gH [(0,52),(1,53),(2,54),(3,55),(4,56)] 7 0 0 (L':=?Lr3_1) hWr3 hH ?hyr3_1 ?_
      case hyr3_1=>((iterate 5 apply gK;rfl;kernel_rfl;intro w' hSw;replace hSw:=aC hSw;(try dsimp only at hSw);have q0:=hSw.1;have q1:=hSw.2.1;have q2:=hSw.2.2.1;have q3:=hSw.2.2.2;obtain ⟨qa0_0,qa0_1,qa0_2,qa0_3,qa0_4,qa0_5,qa0_6,qa0_7,qa0_8,qa0_9,qa0_10,qa0_11,qa0_12,qa0_f⟩:=id q0;have qa1_f:=q1.free;(try simp only [sB,sC]);go_simp;(try with_reducible rfl));exact gF)
      simp only [sB,sC];refine U1 5 0 rfl (fun K hK=>?_)
      try clear hb
      go_simp
      (go_at_call 52;refine (dK b.spin s _).mono ?_;rintro e wn ⟨rfl,hb⟩)
      refine hK.out _ _ ?hsr3_6 (fun hH2=>?hrr3_6)
      case hsr3_6=>exact aM (by have hG:=hH;replace hG:=aC hG;(try dsimp only at hG);have q0:=hG.1;have q1:=hG.2.1;have q2:=hG.2.2.1;have q3:=hG.2.2.2;exact ⟨bJ hb q0,iJ hb q1,mU hb q2,ah hb q3⟩)
      clear hK K hH;have hH:=hH2;clear hH2
      try simp only [Act.put,sA,sB,sC]
      refine gH [(6,58),(7,59),(8,60),(9,61),(10,62)] 1 0 0 (L':=?Lr3_7) hWr3 hH ?hyr3_7 ?_
      case hyr3_7=>((iterate 5 apply gK;rfl;kernel_rfl;intro w' hSw;clear hSw;(try simp only [sB,sC]);go_simp;(try with_reducible rfl));exact gF)
      simp only [sB,sC];refine U1 11 1 rfl (fun K hK=>?_);have hG:=hH;replace hG:=aC hG;(try dsimp only at hG);have q0:=hG.1;have q1:=hG.2.1;have q2:=hG.2.2.1;have q3:=hG.2.2.2;obtain ⟨qa0_0,qa0_1,qa0_2,qa0_3,qa0_4,qa0_5,qa0_6,qa0_7,qa0_8,qa0_9,qa0_10,qa0_11,qa0_12,qa0_f⟩:=id q0;go_simp;refine hK.out _ _ ?hsr3_12 (fun hH2=>?hrr3_12)
      case hsr3_12=>exact fZ
      clear hK K hH;have hH:=hH2;clear hH2
      try simp only [Act.put,sA,sB,sC]
      refine ak (by kernel_rfl) ?_ _ _;refine NoPanic.normal ?_;clear hWr3;have HK5:=hid (q0.set_ang (((b.ang+bn b.spin s).tmod 65536+65536).tmod 65536));have HZ5:=hid (q1.set ⟨w.heap.size,4,none⟩ (.int .i64 (((b.ang+bn b.spin s).tmod 65536+65536).tmod 65536)));have HS5:=hid (q2.setAt (g:=w.heap.size) (o:=4) (v:=.int .i64 (((b.ang+bn b.spin s).tmod 65536+65536).tmod 65536)) (fun bx off e=>by have:=HF2.out bx off e;omega));have hB5:Below w.heap.size w (wn.setCell ⟨w.heap.size,4,none⟩ (.int .i64 (((b.ang+bn b.spin s).tmod 65536+65536).tmod 65536))):=by go_grown
      clear hH hG q0 q1 q2 q3 qa0_0 qa0_1 qa0_2 qa0_3 qa0_4 qa0_5 qa0_6 qa0_7 qa0_8 qa0_9 qa0_10 qa0_11 qa0_12 qa0_f HK4 HZ4 HS4 hB4;generalize wn.setCell ⟨w.heap.size,4,none⟩ (.int .i64 (((b.ang+bn b.spin s).tmod 65536+65536).tmod 65536))=wd at *
      obtain ⟨b4,hb4⟩:∃ b4:Bd,b4={ b3 with ang:=((b.ang+bn b.spin s).tmod 65536+65536).tmod 65536 }:=⟨_,rfl⟩;rw [← hb4] at HK5;have HR:Hid (moveB b l s=b4):=by show _=_;unfold moveB;rw [if_neg HCOND.out,hb4,hb3,hb2];rfl
      obtain ⟨k0,k1,k2,k3,k4,k5,k6,k7,k8,k9,k10,k11,k12,kf⟩:=HK5.out;obtain ⟨z0,z1,z2,z3,z4,z5,z6,z7,z8,z9,z10,z11,z12,y0,y1,y2,y3,y4,y5,y6,y7,y8,y9,y10,y11,y12⟩:=HZ5.out.all;have yf:=HZ5.out.free;have hl1:=HZ5.out.lt;have hz5:=HK5.out.lt;clear hb2 hb3 hb4 hy2 hv2 ha3 hs3;go_wp2;refine bodyPost_ret (v:=fP b4 A1 n1 c1) (by simp [results,Tryz.results51,go_sem,y0,y1,y2,y3,y4,y5,y6,y7,y8,y9,y10,y11,y12,hl1]) rfl ⟨_,_,_,by rw [HR.out],?_,HF1.out,?_⟩
      ·iterate 13 refine Sl.setAt ?_ (fun bx off e => by have := HF2.out bx off e; omega)
       exact HS5.out
      ·go_grown
 ·have hne : (aJ b l != 0) = true := by simp [hE]
  have HR:Hid (moveB b l s=b):=by show _=_;unfold moveB;rw [if_pos (.inl hE)]
  obtain ⟨z0,z1,z2,z3,z4,z5,z6,z7,z8,z9,z10,z11,z12,y0,y1,y2,y3,y4,y5,y6,y7,y8,y9,y10,y11,y12⟩:=HZ2.out.all;have yf:=HZ2.out.free;have hl1:=HZ2.out.lt;go_wp2;refine bodyPost_ret (v:=fP b A1 n1 c1) (by simp [results,Tryz.results51,go_sem,y0,y1,y2,y3,y4,y5,y6,y7,y8,y9,y10,y11,y12,hl1] <;> simp [*]) rfl ⟨_,_,_,by rw [HR.out],?_,HF1.out,?_⟩
  ·iterate 13 refine Sl.setAt ?_ (fun bx off e => by have := HF2.out bx off e; omega)
   exact HS2.out
  ·go_grown
end
end Go.Proofs.YtokgmcomgflloaaGreat
