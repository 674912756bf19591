/- Parts of a proof: contracts and laws. -/
import Derived.Test.YtodpincpofoiiaaGreatQM36
import Derived.Test.YtodpincpofoiiaaGreatQM38
import Derived.Test.YtodpincpofoiiaaGreatQM43
import Derived.Test.YtodpincpofoiiaaGreatQM03
import Derived.Test.YtodpincpofoiiaaGreatQM42
import Derived.Test.YtodpincpofoiiaaGreatQM41
import Derived.Test.YtodpincpofoiiaaGreatQM00
import Derived.Test.YtodpincpofoiiaaGreatQM02
import Derived.Test.YtodpincpofoiiaaGreatQM08
import Derived.Deep.DeepCutAuto
import Derived.Laws.StructEq
import Derived.Maps.AppendAt
set_option maxRecDepth 100000
set_option maxHeartbeats 16000000
namespace Go.Proofs.YtodpincpofoiiaaGreat
section
set_option linter.unusedVariables false
set_option linter.unusedSimpArgs false
open Go.RowKit
def q7:List V:=[(-65536,-65536),(65536,-65536),(65536,65536),(-65536,65536)]
def h7M:Bd:=⟨0,327680,0,0,0,0,massQ q7 65536,inerQ q7 65536,0,0,false,0⟩
def h7F:Bd:=⟨0,0,0,0,0,0,0,0,0,0,false,0⟩
theorem h7_of:ofE q7 65536=0:=by kernel_rfl
theorem BdZ.farZ {w:World} {g k o:Nat} {v:Value} (h:BdZ w g) (hne:k≠g):BdZ (w.setCell ⟨k,o,none⟩ v) g :=
 ⟨fun j hj=>by obtain ⟨u,hu⟩:=h.c j hj;exact ⟨u,far1 hne hu⟩,fun j=>by rw [World.frozen?_setCell];exact h.free j⟩
theorem h7box_mov (w:World):Calls Tryz.prog 12 #[.int .i64 0,.int .i64 5,.int .i64 1,.int .i64 1,.bool true] w (RetBlk h7M q7 w):=by
 obtain ⟨W,hW⟩:∃ W,W=w.alloc (.cells #[.int .i64 0,.int .i64 0,.int .i64 0,.int .i64 0,.int .i64 0,.int .i64 0,.int .i64 0,.int .i64 0,.int .i64 0,.int .i64 0,.slice none 0 0,.bool false,.int .i64 0] 27):=⟨_,rfl⟩
 have HZ:=hid (show BdZ W w.heap.size by rw [hW];exact BdZ.of (BdAt.here w (⟨0,0,0,0,0,0,0,0,0,0,false,0⟩:Bd) none 0 0 _))
 have hB0:Below w.heap.size w W:=by rw [hW];go_grown
 obtain ⟨gq,hgq⟩:∃ g,g=w.heap.size+1:=⟨_,rfl⟩
 have hWs:W.heap.size=gq:=by rw [hW,hgq,World.size_alloc]
 obtain ⟨w1,hw1⟩:∃ x,x=W.alloc (.cells #[.int .i64 (-65536),.int .i64 (-65536),.int .i64 (65536),.int .i64 (-65536),.int .i64 (65536),.int .i64 (65536),.int .i64 (-65536),.int .i64 (65536)] 24):=⟨_,rfl⟩
 have hb1:Below W.heap.size W w1:=by rw [hw1];exact (Below.refl _ _).alloc (Nat.le_refl _) _
 have HS1:Hid (Sl w1 (some ⟨gq,0,none⟩) 4 4 q7):=hid (by rw [hw1,← hWs];exact Sl.of4 _ _ _ _ _ _ _ _ (by go_simp) (by go_simp) (by go_simp) (by go_simp) (by go_simp) (by go_simp) (by go_simp) (by go_simp) (by omega) (by omega))
 obtain ⟨g,hg⟩:∃ g,g=w.heap.size+1+1:=⟨_,rfl⟩
 have hw1s:w1.heap.size=g:=by rw [hw1,hg,World.size_alloc,hWs,hgq]
 obtain ⟨w2,hw2⟩:∃ x,x=w1.alloc (.cells #[.int .i64 0,.int .i64 327680,.int .i64 0,.int .i64 0,.int .i64 0,.int .i64 0,.int .i64 0,.int .i64 0,.int .i64 0,.int .i64 0,.slice (some ⟨gq,0,none⟩) 4 4,.bool false,.int .i64 0] 27):=⟨_,rfl⟩
 have hb2:Below w1.heap.size w1 w2:=by rw [hw2];exact (Below.refl _ _).alloc (Nat.le_refl _) _
 have HK2:=hid (show BdAt w2 g (⟨0,327680,0,0,0,0,0,0,0,0,false,0⟩:Bd) (some ⟨gq,0,none⟩) 4 4 by rw [hw2,← hw1s];exact BdAt.here w1 (⟨0,327680,0,0,0,0,0,0,0,0,false,0⟩:Bd) (some ⟨gq,0,none⟩) 4 4 _)
 have HS2:=hid (HS1.out.below hb2)
 have hlw:w.heap.size<gq:=by omega
 have hlq:gq<g:=by omega
 have HZ2:=hid (keepBdZ hb2 (keepBdZ hb1 HZ.out))
 have HB2:=hid (keepBelow hb2 (keepBelow hb1 hB0))
 clear HZ hB0 hb1 hb2 HS1
 obtain ⟨mz,hmz⟩:∃ y,y=massQ q7 65536:=⟨_,rfl⟩
 obtain ⟨iz,hiz⟩:∃ y,y=inerQ q7 65536:=⟨_,rfl⟩
 have HMO:Hid (∃ p q:Int,Calls Tryz.prog 50 #[.slice (some ⟨gq,0,none⟩) 4 4,.int .i64 65536] w2 (Ret (.tuple #[.int .i64 mz,.int .i64 iz,vecV p q,.int .i64 0]) w2)):=hid ⟨_,_,by
  have h:=mof_calls (some ⟨gq,0,none⟩) 4 4 q7 65536 w2 HS2.out (by unfold i64;omega)
  rw [massV_ok h7_of,← hmz,← hiz] at h
  exact h⟩
 obtain ⟨p,q,hmo⟩:=HMO.out
 have HMO2:=hid hmo
 have HMI:=hid (And.intro hmz hiz)
 clear hmo hmz hiz HMO
 obtain ⟨k0,k1,k2,k3,k4,k5,k6,k7,k8,k9,k10,k11,k12,kf⟩:=HK2.out
 have hl2:=HK2.out.lt
 go_enter Tryz.func12,Tryz.ntmps12
 go_upto_region 3 with fail
 rw [← hg,← hgq,← hW,← hw1,← hw2]
 clear hW hgq hw1 hg hw2 hWs hw1s
 go_wp2_with fail
 refine HMO2.out.mono ?_
 rintro e w3 ⟨rfl,hb3⟩
 replace HK2:=hid (keepBd hb3 HK2.out)
 replace HS2:=hid (HS2.out.below hb3)
 replace HZ2:=hid (keepBdZ hb3 HZ2.out)
 replace HB2:=hid (keepBelow hb3 HB2.out)
 clear hb3 HMO2 k0 k1 k2 k3 k4 k5 k6 k7 k8 k9 k10 k11 k12 kf hl2
 obtain ⟨k0,k1,k2,k3,k4,k5,k6,k7,k8,k9,k10,k11,k12,kf⟩:=HK2.out
 have hl2:=HK2.out.lt
 obtain ⟨w4,hw4⟩:∃ x,x=(w3.setCell ⟨g,6,none⟩ (.int .i64 mz)).setCell ⟨g,7,none⟩ (.int .i64 iz):=⟨_,rfl⟩
 have HK4:=hid (show BdAt w4 g (⟨0,327680,0,0,0,0,mz,iz,0,0,false,0⟩:Bd) (some ⟨gq,0,none⟩) 4 4 by rw [hw4];exact ⟨by go_simp,by go_simp,by go_simp,by go_simp,by go_simp,by go_simp,by go_simp,by go_simp,by go_simp,by go_simp,by go_simp,by go_simp,by go_simp,frz_set (frz_set kf _ _) _ _⟩)
 have HO4:Hid (Out (fun k=>k=g) w3 w4):=hid (by rw [hw4];exact ((Out.refl (fun k=>k=g) w3).setCell (p:=⟨g,6,none⟩) (.inr rfl) _).setCell (p:=⟨g,7,none⟩) (.inr rfl) _)
 have HS4:=hid (HS2.out.outD HO4.out (fun b off e _ q=>by cases e;have q:gq=g:=q;omega))
 have HZ4:=hid (show BdZ w4 w.heap.size by rw [hw4];exact (HZ2.out.farZ (by omega)).farZ (by omega))
 have HB4:Hid (Below w.heap.size w w4):=hid (HO4.out.toBelow HB2.out HB2.out.size (by omega))
 go_upto_region 5 with fail
 rw [← hw4]
 clear hw4 k0 k1 k2 k3 k4 k5 k6 k7 k8 k9 k10 k11 k12 kf hl2 HK2 HS2 HZ2 HB2 HO4
 obtain ⟨z0,z1,z2,z3,z4,z5,z6,z7,z8,z9,z10,z11,z12,y0,y1,y2,y3,y4,y5,y6,y7,y8,y9,y10,y11,y12⟩:=HZ4.out.all
 have yf:=HZ4.out.free
 obtain ⟨k0,k1,k2,k3,k4,k5,k6,k7,k8,k9,k10,k11,k12,kf⟩:=HK4.out
 have hl1:=HZ4.out.lt
 have hl2:=HK4.out.lt
 have hB:=HB4.out
 have hBs:=hB.size
 go_wp2
 refine bodyPost_ret (v:=bodyV (⟨0,327680,0,0,0,0,mz,iz,0,0,false,0⟩:Bd) (some ⟨gq,0,none⟩) 4 4) (by simp [results,Tryz.results12,go_sem,y0,y1,y2,y3,y4,y5,y6,y7,y8,y9,y10,y11,y12,hl1,bodyV]) rfl ⟨some ⟨gq,0,none⟩,4,4,by rw [HMI.out.1,HMI.out.2];rfl,?_,fun b off e=>by cases e;omega,?_⟩
 ·exact HS4.out.setBd (⟨0,327680,0,0,0,0,mz,iz,0,0,false,0⟩:Bd) (fun bx off e h=>by cases e;omega)
 ·go_grown
theorem h7box_fix (w:World):Calls Tryz.prog 12 #[.int .i64 0,.int .i64 0,.int .i64 1,.int .i64 1,.bool false] w (RetBlk h7F q7 w):=by
 obtain ⟨W,hW⟩:∃ W,W=w.alloc (.cells #[.int .i64 0,.int .i64 0,.int .i64 0,.int .i64 0,.int .i64 0,.int .i64 0,.int .i64 0,.int .i64 0,.int .i64 0,.int .i64 0,.slice none 0 0,.bool false,.int .i64 0] 27):=⟨_,rfl⟩
 have HZ:=hid (show BdZ W w.heap.size by rw [hW];exact BdZ.of (BdAt.here w (⟨0,0,0,0,0,0,0,0,0,0,false,0⟩:Bd) none 0 0 _))
 have hB0:Below w.heap.size w W:=by rw [hW];go_grown
 obtain ⟨gq,hgq⟩:∃ g,g=w.heap.size+1:=⟨_,rfl⟩
 have hWs:W.heap.size=gq:=by rw [hW,hgq,World.size_alloc]
 obtain ⟨w1,hw1⟩:∃ x,x=W.alloc (.cells #[.int .i64 (-65536),.int .i64 (-65536),.int .i64 (65536),.int .i64 (-65536),.int .i64 (65536),.int .i64 (65536),.int .i64 (-65536),.int .i64 (65536)] 24):=⟨_,rfl⟩
 have hb1:Below W.heap.size W w1:=by rw [hw1];exact (Below.refl _ _).alloc (Nat.le_refl _) _
 have HS1:Hid (Sl w1 (some ⟨gq,0,none⟩) 4 4 q7):=hid (by rw [hw1,← hWs];exact Sl.of4 _ _ _ _ _ _ _ _ (by go_simp) (by go_simp) (by go_simp) (by go_simp) (by go_simp) (by go_simp) (by go_simp) (by go_simp) (by omega) (by omega))
 obtain ⟨g,hg⟩:∃ g,g=w.heap.size+1+1:=⟨_,rfl⟩
 have hw1s:w1.heap.size=g:=by rw [hw1,hg,World.size_alloc,hWs,hgq]
 obtain ⟨w2,hw2⟩:∃ x,x=w1.alloc (.cells #[.int .i64 0,.int .i64 0,.int .i64 0,.int .i64 0,.int .i64 0,.int .i64 0,.int .i64 0,.int .i64 0,.int .i64 0,.int .i64 0,.slice (some ⟨gq,0,none⟩) 4 4,.bool false,.int .i64 0] 27):=⟨_,rfl⟩
 have hb2:Below w1.heap.size w1 w2:=by rw [hw2];exact (Below.refl _ _).alloc (Nat.le_refl _) _
 have HK2:=hid (show BdAt w2 g (⟨0,0,0,0,0,0,0,0,0,0,false,0⟩:Bd) (some ⟨gq,0,none⟩) 4 4 by rw [hw2,← hw1s];exact BdAt.here w1 (⟨0,0,0,0,0,0,0,0,0,0,false,0⟩:Bd) (some ⟨gq,0,none⟩) 4 4 _)
 have HS2:=hid (HS1.out.below hb2)
 have hlw:w.heap.size<gq:=by omega
 have hlq:gq<g:=by omega
 have HZ2:=hid (keepBdZ hb2 (keepBdZ hb1 HZ.out))
 have HB2:=hid (keepBelow hb2 (keepBelow hb1 hB0))
 clear HZ hB0 hb1 hb2 HS1
 obtain ⟨k0,k1,k2,k3,k4,k5,k6,k7,k8,k9,k10,k11,k12,kf⟩:=HK2.out
 have hl2:=HK2.out.lt
 go_enter Tryz.func12,Tryz.ntmps12
 go_upto_region 3 with fail
 rw [← hg,← hgq,← hW,← hw1,← hw2]
 clear hW hgq hw1 hg hw2 hWs hw1s
 have HK4:=HK2
 have HS4:=HS2
 have HZ4:=HZ2
 have HB4:=HB2
 go_upto_region 5 with fail
 clear k0 k1 k2 k3 k4 k5 k6 k7 k8 k9 k10 k11 k12 kf hl2 HK2 HS2 HZ2 HB2
 obtain ⟨z0,z1,z2,z3,z4,z5,z6,z7,z8,z9,z10,z11,z12,y0,y1,y2,y3,y4,y5,y6,y7,y8,y9,y10,y11,y12⟩:=HZ4.out.all
 have yf:=HZ4.out.free
 obtain ⟨k0,k1,k2,k3,k4,k5,k6,k7,k8,k9,k10,k11,k12,kf⟩:=HK4.out
 have hl1:=HZ4.out.lt
 have hl2:=HK4.out.lt
 have hB:=HB4.out
 have hBs:=hB.size
 go_wp2
 refine bodyPost_ret (v:=bodyV (⟨0,0,0,0,0,0,0,0,0,0,false,0⟩:Bd) (some ⟨gq,0,none⟩) 4 4) (by simp [results,Tryz.results12,go_sem,y0,y1,y2,y3,y4,y5,y6,y7,y8,y9,y10,y11,y12,hl1,bodyV]) rfl ⟨some ⟨gq,0,none⟩,4,4,rfl,?_,fun b off e=>by cases e;omega,?_⟩
 ·exact HS4.out.setBd (⟨0,0,0,0,0,0,0,0,0,0,false,0⟩:Bd) (fun bx off e h=>by cases e;omega)
 ·go_grown
def h7Y:Bd:=⟨0,327680,0,-10240,0,0,massQ q7 65536,inerQ q7 65536,0,0,false,0⟩
def h7N:Bd:=⟨0,327520,0,-10240,0,0,massQ q7 65536,inerQ q7 65536,0,0,false,0⟩
theorem h7_y (A:Option Addr) (n c:Nat) (l:List V):(fallB 0 (-655360) 1024 ⟨h7M,A,n,c,l⟩).b=h7Y:=by kernel_rfl
theorem h7_e:bodyE h7M q7=0∧bodyE h7Y q7=0:=⟨by kernel_rfl,by kernel_rfl⟩
theorem h7_m:moveB h7Y q7 (mulF 1024 65536)=h7N:=by kernel_rfl
theorem h7_r (A:Option Addr) (n c:Nat) (l:List V):(restL [⟨h7N,A,n,c,l⟩] id).map (fun z=>(z.b.py,z.b.vy))=[(327520,-10240)]:=by kernel_rfl
theorem h7_c (A:Option Addr) (n c:Nat):castV [⟨h7F,A,n,c,q7⟩] (-262144,0) (524288,0) = .tuple #[.int .i64 0,.int .i64 24576,.int .i64 0]:=by kernel_rfl
theorem rest_one7 {w:World} {A:Option Addr} {n c:Nat} {L':List BE} {l:List V} (hS:SlB w A n c (restL L' id)) (hm:L'.map valB=[(h7N,l)]):n=1∧∃ b off,A=some ⟨b,off,none⟩∧w.cell? ⟨b,off+3,none⟩=some (.int .i64 (-10240)):=by
 obtain ⟨⟨zb,zA,zn,zc,zl⟩,rfl,h1,h2⟩:=one_val hm
 dsimp only at h1 h2
 subst h1
 have hr:=h7_r zA zn zc zl
 have hl:(restL [(⟨h7N,zA,zn,zc,zl⟩:BE)] id).length=1:=by have:=congrArg List.length hr;simpa using this
 obtain ⟨b,off,e,hc⟩:=hS.sl.at_ (by intro h;rw [h] at hl;cases hl)
 have h0:0<(restL [(⟨h7N,zA,zn,zc,zl⟩:BE)] id).length:=by omega
 obtain ⟨-,-,-,c3,-⟩:=cells_bd hc h0 rfl
 have hz:((restL [(⟨h7N,zA,zn,zc,zl⟩:BE)] id)[0].b.py,(restL [(⟨h7N,zA,zn,zc,zl⟩:BE)] id)[0].b.vy)=((327520:Int),(-10240:Int)):=by
  have h9:((restL [(⟨h7N,zA,zn,zc,zl⟩:BE)] id).map (fun z=>(z.b.py,z.b.vy)))[0]? = some (327520,-10240):=by rw [hr];rfl
  rw [List.getElem?_map,List.getElem?_eq_getElem h0] at h9
  exact Option.some.inj h9
 have z2:(restL [(⟨h7N,zA,zn,zc,zl⟩:BE)] id)[0].b.vy = -10240:=congrArg Prod.snd hz
 rw [z2] at c3
 exact ⟨by have:=hS.sl.len;omega,b,off,e,by simpa using c3⟩
theorem h7begun_calls (w:World):Calls Tryz.prog 15 #[] w (Ret (.bool true) w):=by
 have HB1:=hid h7box_mov
 have HB2:=hid h7box_fix
 obtain ⟨bM,hM⟩:∃ b,b=h7M:=⟨_,rfl⟩
 obtain ⟨bF,hF⟩:∃ b,b=h7F:=⟨_,rfl⟩
 obtain ⟨q,hq⟩:∃ q,q=q7:=⟨_,rfl⟩
 have HST:Hid (∀ (w':World) (g:Nat) (A:Option Addr) (n c:Nat),BdAt w' g bM A n c→Sl w' A n c q→Calls Tryz.prog 16 #[.agg #[.slice (some ⟨g,0,none⟩) 1 1,.slice none 0 0,.slice none 0 0,.int .i64 0,.int .i64 (-655360),.int .i64 1024]] w' (RetStep [(h7N,q)] id [] [] 0 (-655360) 1024 w')):=hid (fun w' g A n c hb hs=>by
  have h:=pstep1_calls ⟨bM,A,n,c,q⟩ 0 (-655360) 1024 h7Y (SlB.one (x:=⟨bM,A,n,c,q⟩) hb hs) (SlE.nil layJ w') (SlE.nil layC w') (by rw [hq,hM];exact h7_e.1) st_g (by rw [hM];rfl) (by rw [hM];exact h7_y A n c q) (by rw [hq];exact h7_e.2) (by decide) (of_decide_eq_true (by kernel_rfl))
  rw [hq] at h ⊢
  rwa [h7_m] at h)
 have HCS:Hid (∀ (w':World) (g:Nat) (A:Option Addr) (n c:Nat),BdAt w' g bF A n c→Sl w' A n c q→Calls Tryz.prog 32 #[.slice (some ⟨g,0,none⟩) 1 1,vecV (-262144) 0,vecV 524288 0] w' (Ret (.tuple #[.int .i64 0,.int .i64 24576,.int .i64 0]) w')):=hid (fun w' g A n c hb hs=>by
  have h:=cast_calls (some ⟨g,0,none⟩) 1 1 [⟨bF,A,n,c,q⟩] (-262144) 0 524288 0 w' (SlB.one (x:=⟨bF,A,n,c,q⟩) hb hs)
  rw [hF,hq] at h
  rwa [h7_c] at h)
 rw [← hM,← hq] at HB1
 rw [← hF,← hq] at HB2
 clear hM hF hq
 go_enter Tryz.func15,Tryz.ntmps15
 go_wp2_with fail
 refine (HB1.out _).mono ?_
 rintro e w1 ⟨A1,n1,c1,rfl,hs1,hf1,hb1⟩
 have HST2:=hid (HST.out (w1.alloc (.cells #[.int .i64 bM.px,.int .i64 bM.py,.int .i64 bM.vx,.int .i64 bM.vy,.int .i64 bM.ang,.int .i64 bM.spin,.int .i64 bM.mass,.int .i64 bM.iner,.int .i64 bM.bounce,.int .i64 bM.rub,.slice A1 n1 c1,.bool bM.asleep,.int .i64 bM.calm] 27)) w1.heap.size A1 n1 c1 (BdAt.here w1 bM A1 n1 c1 _) (hs1.below Ba))
 have HB:=hid (keepBelow ((Below.refl _ _).alloc (Nat.le_refl _) (.cells #[.int .i64 bM.px,.int .i64 bM.py,.int .i64 bM.vx,.int .i64 bM.vy,.int .i64 bM.ang,.int .i64 bM.spin,.int .i64 bM.mass,.int .i64 bM.iner,.int .i64 bM.bounce,.int .i64 bM.rub,.slice A1 n1 c1,.bool bM.asleep,.int .i64 bM.calm] 27)) hb1)
 clear hs1 hf1 hb1 HB1 HST
 go_wp2_with fail
 refine HST2.out.mono ?_
 rintro e w2 ⟨A2,n2,c2,Aj,nj,cj,Ac,nc,cc,L',rfl,hs2,hj2,hc2,hm2,hb2⟩
 obtain ⟨rfl,b,off,rfl,k3⟩:=rest_one7 hs2 hm2
 replace HB:=hid (keepBelow hb2 HB.out)
 have lb:=lt_of_cell k3
 obtain ⟨w3,hw3⟩:∃ x,x=w2.alloc (.cells #[.slice (some ⟨b,off,none⟩) 1 c2,.slice Aj nj cj,.slice Ac nc cc,.int .i64 0,.int .i64 (-655360),.int .i64 1024] 33):=⟨_,rfl⟩
 obtain ⟨g,hg⟩:∃ g,g=w2.heap.size:=⟨_,rfl⟩
 have hb3:Below w2.heap.size w2 w3:=by rw [hw3];exact (Below.refl _ _).alloc (Nat.le_refl _) _
 have z0:w3.cell? ⟨g,0,none⟩=some (.slice (some ⟨b,off,none⟩) 1 c2):=by rw [hw3,hg];go_simp
 replace k3:=keepCell hb3 k3
 replace HB:=hid (keepBelow hb3 HB.out)
 have lg:=lt_of_cell z0
 clear hs2 hj2 hc2 hm2 hb2 HST2 hb3 lb
 go_upto_region 2 with fail
 rw [← hw3,← hg]
 clear hw3 hg
 go_wp2_with fail
 refine (HB2.out _).mono ?_
 rintro e w4 ⟨A3,n3,c3,rfl,hs3,hf3,hb4⟩
 replace z0:=keepCell hb4 z0
 replace k3:=keepCell hb4 k3
 have HCS2:=hid (HCS.out (w4.alloc (.cells #[.int .i64 bF.px,.int .i64 bF.py,.int .i64 bF.vx,.int .i64 bF.vy,.int .i64 bF.ang,.int .i64 bF.spin,.int .i64 bF.mass,.int .i64 bF.iner,.int .i64 bF.bounce,.int .i64 bF.rub,.slice A3 n3 c3,.bool bF.asleep,.int .i64 bF.calm] 27)) w4.heap.size A3 n3 c3 (BdAt.here w4 bF A3 n3 c3 _) (hs3.below Ba))
 have hb5:Below w4.heap.size w4 (w4.alloc (.cells #[.int .i64 bF.px,.int .i64 bF.py,.int .i64 bF.vx,.int .i64 bF.vy,.int .i64 bF.ang,.int .i64 bF.spin,.int .i64 bF.mass,.int .i64 bF.iner,.int .i64 bF.bounce,.int .i64 bF.rub,.slice A3 n3 c3,.bool bF.asleep,.int .i64 bF.calm] 27)):=(Below.refl _ _).alloc (Nat.le_refl _) _
 replace HB:=hid (keepBelow hb5 (keepBelow hb4 HB.out))
 have z0':=keepCell hb5 z0
 have k3':=keepCell hb5 k3
 clear hs3 hf3 hb4 hb5 HB2 HCS z0 k3 lg
 go_wp2_with fail
 refine HCS2.out.mono ?_
 rintro e w6 ⟨rfl,hb6⟩
 have z0:=keepCell hb6 z0'
 have k3:=keepCell hb6 k3'
 replace HB:=hid (keepBelow hb6 HB.out)
 have lb:=lt_of_cell k3
 have lg:=lt_of_cell z0
 clear hb6 HCS2 z0' k3'
 go_wp2
 go_returns
 exact ret_bool (by simp) (by have h9:=HB.out;have h8:=h9.size;go_grown)
end
end Go.Proofs.YtodpincpofoiiaaGreat
namespace Go.Proofs.YtodpincpofoiiaaGreat
section
set_option linter.unusedVariables false
set_option linter.unusedSimpArgs false
open Go.RowKit
theorem keepCf {w w':World} {g:Nat} {x y:Int} (hb:Below w.heap.size w w') (h:Cf w g x y):Cf w' g x y:=⟨keepCell hb h.a,keepCell hb h.b⟩
theorem Cf.lt {w:World} {g:Nat} {x y:Int} (h:Cf w g x y):g<w.heap.size:=lt_of_cell h.a
theorem Cf.far {w:World} {g k:Nat} {x y:Int} (h:Cf w g x y) (hne:g≠k) (o:Nat) (v:Value):Cf (w.setCell ⟨k,o,none⟩ v) g x y:=by
 obtain ⟨a,b⟩:=h
 exact ⟨by go_simp,by go_simp⟩

structure Lk (w wx : World) (gt gp gq : Nat) (fx fy ux uy tx ty ax ay bx by_ : Int) : Prop where
 f:Cf wx w.heap.size fx fy
 u:Cf wx (w.heap.size+1) ux uy
 t:Cf wx gt tx ty
 p:Cf wx gp ax ay
 q:Cf wx gq bx by_
 b:Below w.heap.size w wx
 l1:w.heap.size+1<gt
 l2:gt<gp
 l3:gp<gq
 lq:gq<wx.heap.size
section
variable {w wx wy:World} {gt gp gq:Nat} {fx fy ux uy tx ty ax ay bx by_:Int}
theorem keepLk (hb:Below wx.heap.size wx wy) (h:Lk w wx gt gp gq fx fy ux uy tx ty ax ay bx by_):Lk w wy gt gp gq fx fy ux uy tx ty ax ay bx by_ :=
 ⟨keepCf hb h.f,keepCf hb h.u,keepCf hb h.t,keepCf hb h.p,keepCf hb h.q,keepBelow hb h.b,h.l1,h.l2,h.l3,Nat.lt_of_lt_of_le h.lq hb.size⟩
theorem Lk.drew (h:Lk w wx gt gp gq fx fy ux uy tx ty ax ay bx by_):Lk w wx.drew gt gp gq fx fy ux uy tx ty ax ay bx by_:=keepLk (Below.refl _ _).drew h
theorem Lk.far (h:Lk w wx gt gp gq fx fy ux uy tx ty ax ay bx by_) {g:Nat} (hg:gq<g) (o:Nat) (v:Value):Lk w (wx.setCell ⟨g,o,none⟩ v) gt gp gq fx fy ux uy tx ty ax ay bx by_:=by
 have:=h.l1
 have:=h.l2
 have:=h.l3
 exact ⟨h.f.far (by omega) _ _,h.u.far (by omega) _ _,h.t.far (by omega) _ _,h.p.far (by omega) _ _,h.q.far (by omega) _ _,h.b.setCell (p:=⟨g,o,none⟩) (by show _≤g;omega) _,h.l1,h.l2,h.l3,by have:=h.lq;simpa using this⟩


end
end
end Go.Proofs.YtodpincpofoiiaaGreat
namespace Go.Proofs.YtodpincpofoiiaaGreat
section
set_option linter.unusedVariables false
set_option linter.unusedSimpArgs false
open Go.RowKit
def lowV (p q:V):Prop:=p.2<q.2∨(p.2=q.2∧p.1<q.1)
instance (p q:V):Decidable (lowV p q):=by unfold lowV;infer_instance

def wrpB (o nx p:V):Prop:=nx=o∨cr (vsub nx o) (vsub p o)<0∨(cr (vsub nx o) (vsub p o)=0∧sqZ (nx.1-o.1) (nx.2-o.2)<sqZ (p.1-o.1) (p.2-o.2))
instance (o p q:V):Decidable (wrpB o p q):=by unfold wrpB;infer_instance

section
variable {l D:List V}
end



end
end Go.Proofs.YtodpincpofoiiaaGreat
namespace Go.Proofs.YtodpincpofoiiaaGreat
section
set_option linter.unusedVariables false
set_option linter.unusedSimpArgs false
open Go.RowKit

structure Vc (w : World) (g : Nat) (x y : Int) : Prop where
 a:w.cell? ⟨g,0,none⟩=some (.int .i64 x)
 b:w.cell? ⟨g,1,none⟩=some (.int .i64 y)
 f:∀ j,w.frozen? ⟨g,j,none⟩=false
theorem keepVc {w w':World} {g:Nat} {x y:Int} (hb:Below w.heap.size w w') (h:Vc w g x y):Vc w' g x y :=
 ⟨keepCell hb h.a,keepCell hb h.b,fun j=>((bcell hb).2 _ _ (lt_of_cell h.a)).trans (h.f j)⟩
theorem Vc.lt {w:World} {g:Nat} {x y:Int} (h:Vc w g x y):g<w.heap.size:=lt_of_cell h.a
theorem Vc.alloc {w:World} {g:Nat} {x y:Int} (h:Vc w g x y) (o:Obj):Vc (w.alloc o) g x y:=keepVc Ba h
theorem Vc.drew {w:World} {g:Nat} {x y:Int} (h:Vc w g x y):Vc w.drew g x y:=⟨h.a,h.b,h.f⟩
theorem Vc.here (w:World) (x y:Int) (t:TypeId):Vc (w.alloc (.cells #[.int .i64 x,.int .i64 y] t)) w.heap.size x y:=⟨by go_simp,by go_simp,fun j=>by go_simp⟩
theorem Vc.put {w:World} {g:Nat} {x y:Int} (h:Vc w g x y) (u v:Int):Vc ((w.setCell ⟨g,0,none⟩ (.int .i64 u)).setCell ⟨g,1,none⟩ (.int .i64 v)) g u v:=by
 obtain ⟨a,b,f⟩:=h
 exact ⟨by go_simp,by go_simp,fun j=>by go_simp⟩
theorem Vc.off {w:World} {g b:Nat} {x y:Int} (h:Vc w b x y) (hne:g≠b) (u v:Value):Vc ((w.setCell ⟨g,0,none⟩ u).setCell ⟨g,1,none⟩ v) b x y:=by
 have hl:=h.lt
 obtain ⟨a,b',f⟩:=h
 have hne2:¬ b=g:=fun e=>hne e.symm
 exact ⟨far2 hne a,far2 hne b',fun j=>by go_simp⟩
theorem Own.off {w:World} {B g:Nat} {s:Value} {l:List V} (h:Own w B s l) (hne:∀ k,s.ownBlock=some k→k≠g) (o:Nat) (u:Value):Own (w.setCell ⟨g,o,none⟩ u) B s l:=by
 refine World.ownsRow.kept h (grown_setCell _ g o _) ?_
 cases hv:s.ownBlock with
 | none=>exact .inl rfl
 | some k=>exact .inr fun e=>by cases e;exact hne _ hv rfl

structure WW (w0 : World) (gF : Nat) (s : Value) (o : List V) (F : V) (w : World) : Prop where
 vF:Vc w gF F.1 F.2
 own:Own w (gF+1) s o
 bel:Below w0.heap.size w0 w
 le:w0.heap.size≤gF
theorem WW.keep {w0:World} {gF:Nat} {s:Value} {o:List V} {F:V} {w w':World} (hb:Below w.heap.size w w') (h:WW w0 gF s o F w):WW w0 gF s o F w' :=
 ⟨keepVc hb h.vF,h.own.below hb,keepBelow hb h.bel,h.le⟩
theorem WW.app {w0:World} {gF:Nat} {s s':Value} {o o':List V} {F:V} {w w':World} {ob:Obj} (h:WW w0 gF s o F w) (ho:Own w' (gF+1) s' o') (hb:Below (gF+1) (w.alloc ob) w'):WW w0 gF s' o' F w' :=
 have h2:=h.keep ((Below.refl _ _).alloc (Nat.le_refl _) ob)
 ⟨⟨((bcell hb).1 _ _ (Nat.lt_succ_self gF)).trans h2.vF.a,((bcell hb).1 _ _ (Nat.lt_succ_self gF)).trans h2.vF.b,fun j=>((bcell hb).2 _ _ (Nat.lt_succ_self gF)).trans (h2.vF.f j)⟩,ho,h2.bel.trans (hb.mono (Nat.le_succ_of_le h.le)),h.le⟩

structure WN (w0 : World) (gF : Nat) (s : Value) (o : List V) (F : V) (gO gN : Nat) (q nx : V) (w : World) : Prop where
 ww:WW w0 gF s o F w
 vO:Vc w gO q.1 q.2
 vN:Vc w gN nx.1 nx.2
 ob:∀ k,s.ownBlock=some k→k<gN
 l1:gF<gO
 l2:gO<gN
theorem WN.keep {w0:World} {gF:Nat} {s:Value} {o:List V} {F:V} {gO gN:Nat} {q nx:V} {w w':World} (hb:Below w.heap.size w w') (h:WN w0 gF s o F gO gN q nx w):WN w0 gF s o F gO gN q nx w' :=
 ⟨h.ww.keep hb,keepVc hb h.vO,keepVc hb h.vN,h.ob,h.l1,h.l2⟩
theorem WN.put {w0:World} {gF:Nat} {s:Value} {o:List V} {F:V} {gO gN:Nat} {q nx:V} {w:World} (h:WN w0 gF s o F gO gN q nx w) (p:V):WN w0 gF s o F gO gN q p ((w.setCell ⟨gN,0,none⟩ (.int .i64 p.1)).setCell ⟨gN,1,none⟩ (.int .i64 p.2)):=by
 have:=h.l1
 have:=h.l2
 have:=h.ww.le
 refine ⟨⟨h.ww.vF.off (by omega) _ _,(h.ww.own.off (fun k hk=>by have:=h.ob k hk;omega) _ _).off (fun k hk=>by have:=h.ob k hk;omega) _ _,(h.ww.bel.setCell (p:=⟨gN,0,none⟩) (by show _≤gN;omega) _).setCell (p:=⟨gN,1,none⟩) (by show _≤gN;omega) _,h.ww.le⟩,h.vO.off (by omega) _ _,h.vN.put _ _,h.ob,h.l1,h.l2⟩
end
end Go.Proofs.YtodpincpofoiiaaGreat
namespace Go.Proofs.YtodpincpofoiiaaGreat
section
set_option linter.unusedVariables false
set_option linter.unusedSimpArgs false
open Go.RowKit
def farP (p q:V):Int:=farZ p.1 p.2 q.1 q.2



end
end Go.Proofs.YtodpincpofoiiaaGreat
namespace Go.Proofs.YtodpincpofoiiaaGreat
section
set_option linter.unusedVariables false
set_option linter.unusedSimpArgs false
open Go.RowKit


structure MN (w0 : World) (s : Value) (o : List V) (w : World) : Prop where
 own:Own w w0.heap.size s o
 bel:Below w0.heap.size w0 w
theorem MN.keep {w0:World} {s:Value} {o:List V} {w w':World} (hb:Below w.heap.size w w') (h:MN w0 s o w):MN w0 s o w':=⟨h.own.below hb,keepBelow hb h.bel⟩

structure MI (w0 : World) (g : Nat) (x y : Int) (s : Value) (o : List V) (w : World) : Prop where
 mn:MN w0 s o w
 a:w.cell? ⟨g,0,none⟩=some (.int .i64 x)
 b:w.cell? ⟨g,1,none⟩=some (.int .i64 y)
 ob:∀ k,s.ownBlock=some k→k≠g
theorem MI.keep {w0:World} {g:Nat} {x y:Int} {s:Value} {o:List V} {w w':World} (hb:Below w.heap.size w w') (h:MI w0 g x y s o w):MI w0 g x y s o w':=⟨h.mn.keep hb,keepCell hb h.a,keepCell hb h.b,h.ob⟩
theorem MI.app {w0:World} {g:Nat} {x y:Int} {s s':Value} {o o':List V} {w w':World} (h:MI w0 g x y s o w) (ho:Own w' w0.heap.size s' o') (hg:w.grownBy w' s.ownBlock) (hat:s'.ownBlock=s.ownBlock∨s'.ownBlock=some w.heap.size):MI w0 g x y s' o' w':=by
 have hne:some g≠s.ownBlock:=fun e=>h.ob g e.symm rfl
 refine ⟨⟨ho,h.mn.bel.grown hg h.mn.bel.size (fun k hk=>(World.ownsRow.lt h.mn.own k hk).1)⟩,hg.cell h.a hne,hg.cell h.b hne,fun k hk=>?_⟩
 rcases hat with q | q
 ·exact h.ob k (by rw [← q];exact hk)
 ·have := lt_of_cell h.a
  rw [q] at hk
  cases hk
  omega
end
end Go.Proofs.YtodpincpofoiiaaGreat
