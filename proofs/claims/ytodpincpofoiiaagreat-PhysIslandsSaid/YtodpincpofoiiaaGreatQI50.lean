/- The walk of PhysIslands. -/
import Derived.Test.YtodpincpofoiiaaGreatQI46
import Derived.Test.YtodpincpofoiiaaGreatQI47
import Derived.Test.YtodpincpofoiiaaGreatQI48
import Derived.Test.YtodpincpofoiiaaGreatQI49
import Derived.Test.YtodpincpofoiiaaGreatQI03
set_option maxRecDepth 100000
set_option maxHeartbeats 16000000
namespace Go.Proofs.YtodpincpofoiiaaGreat
section
set_option linter.unusedVariables false
set_option linter.unusedSimpArgs false
open Go.RowKit
theorem mvL_at {L:List BE} {k:Nat} (h:k<L.length):mvL L k=decide (L[k].b.mass≠0):=by unfold mvL;rw [List.getElem?_eq_getElem h]
theorem physIslands_walk (A:Option Addr) (n c:Nat) (r:List Int) (w:World) (hS:SlI w A n c r):Calls Tryz.prog 4 #[.slice A n c] w (Ret (.bool true) w):=by
 have HSI:=hid hS
 clear hS
 go_enter Tryz.func4,Tryz.ntmps4
 go_wp2_with fail
 refine (scene_calls A n c r _ HSI.out).mono ?_
 rintro e w1 ⟨sv,jv,L,J,gy,st,rfl,hok⟩
 obtain ⟨A1,n1,c1,rfl,hs1,hn1⟩:=hok.own.sl
 obtain ⟨A8,n8,c8,rfl,hj8,hn8⟩:=hok.jown.sl
 obtain rfl:n1=L.length:=hs1.len
 have HMD:Hid (∀ x ∈ L,MadeB x.b∧Made x.l):=hid (fun x hx=>(hok.co x hx).2)
 have HV:=hid (made_all HMD.out)
 have HBE:Hid (bodiesE L=0):=hid (bodiesE_okJ (by have:=hok.len;omega) HV.out)
 have HL:=hid (show SlB w1 A1 L.length c1 L from ⟨hs1,fun x hx=>(hok.co x hx).1⟩)
 have HJ:=hid hj8
 have hln:L.length≤5:=hok.len
 have hB:=hok.bel
 have HXN:Hid (∀ x ∈ L,x.l≠[]):=hid (fun x hx e=>by have:=HV.out x hx;rw [e] at this;exact absurd (bodyE_zero this).1 (by decide))
 have HLT:Hid ((∀ b off,A1=some ⟨b,off,none⟩→b<w1.heap.size)∧(∀ x ∈ L,∀ b off,x.A=some ⟨b,off,none⟩→b<w1.heap.size)∧∀ b off,A8=some ⟨b,off,none⟩→b<w1.heap.size):=hid ⟨fun b off e=>(hok.own.lt (k:=b) (by rw [e];rfl)).2,fun x hx b off e=>sl_lt (hok.co x hx).1 (HXN.out x hx) b off e,fun b off e=>(hok.jown.lt (k:=b) (by rw [e];rfl)).2⟩
 clear hok hs1 hj8 hn1 hn8
 obtain ⟨C,hC⟩:∃ C,C=findE L []:=⟨_,rfl⟩
 obtain ⟨E,hE⟩:∃ E,E=sceneE L J C 0 gy st:=⟨_,rfl⟩
 obtain ⟨f,hf⟩:∃ f,f=islR (mvL L) (lnkJ J ++ lnkC C):=⟨_,rfl⟩
 have HEE:=hid hE
 have HCC:=hid hC
 have HFF:=hid hf
 obtain ⟨g,hg⟩:∃ g,g=w1.heap.size:=⟨_,rfl⟩
 obtain ⟨w2,hw2⟩:∃ x,x=w1.alloc (.cells #[.slice A1 L.length c1,.slice A8 n8 c8,.slice none 0 0,.int .i64 0,.int .i64 gy,.int .i64 st] 33):=⟨_,rfl⟩
 have hb2:Below w1.heap.size w1 w2:=by rw [hw2];exact (Below.refl _ _).alloc (Nat.le_refl _) _
 have HZ2:Hid (ZS g (.slice A1 L.length c1) (.slice A8 n8 c8) (.slice none 0 0) 0 gy st w2):=hid (by rw [hw2,hg];exact ⟨by go_simp,by go_simp,by go_simp,by go_simp,by go_simp,by go_simp⟩)
 have HZN:Hid ((∀ j,6≤j→w2.cell? ⟨g,j,none⟩=none)∧∀ j,w2.frozen? ⟨g,j,none⟩=false):=hid (by
  have h:w2.heap[g]? = some (.cells #[.slice A1 L.length c1,.slice A8 n8 c8,.slice none 0 0,.int .i64 0,.int .i64 gy,.int .i64 st] 33):=by rw [hw2,hg];exact heap_alloc_new w1 _
  refine ⟨fun j hj=>?_,fun j=>by unfold World.frozen?;rw [h];simp⟩
  unfold World.cell?
  rw [h]
  simp
  omega)
 have HB2:=hid (keepBelow hb2 hB)
 have HL2:=hid (HL.out.below hb2)
 have HJ2:=hid (HJ.out.below hb2)
 have HG:=hid hg
 have HBW:=hid hB.size
 have HFI:=hid (kfind_calls A1 none L.length c1 0 0 L [] w2 HL2.out (SlE.nil layC w2))
 clear hb2 hB HL HJ hE hf hC
 obtain ⟨z0,z1,z2,z3,z4,z5⟩:=HZ2.out
 have lz:=lt_of_cell z0
 go_upto_region 2 with fail
 rw [← hw2,← hg]
 clear hw2 hg
 go_wp2_with fail
 refine HFI.out.mono ?_
 rintro e w3 ⟨A2,n2,c2,rfl,hs3,hb3⟩
 rw [← HCC.out] at hs3
 obtain rfl:n2=C.length:=hs3.len
 rw [HBE.out]
 replace z0:=keepCell hb3 z0
 replace z1:=keepCell hb3 z1
 replace z2:=keepCell hb3 z2
 replace z3:=keepCell hb3 z3
 replace z4:=keepCell hb3 z4
 replace z5:=keepCell hb3 z5
 replace lz:=lt_of_cell z0
 have h23:=hb3.size
 have zf:∀ j,w3.frozen? ⟨g,j,none⟩=false:=fun j=>(World.frozen?_of_block (hb3.block _ (lt_of_cell HZ2.out.z0))).trans (HZN.out.2 j)
 obtain ⟨w4,hw4⟩:∃ y,y=w3.setCell ⟨g,2,none⟩ (.slice A2 C.length c2):=⟨_,rfl⟩
 have ho4:Out (fun k=>k=g) w3 w4:=by rw [hw4];exact (Out.refl (fun k=>k=g) w3).setCell (p:=⟨g,2,none⟩) (.inr rfl) _
 have HZ4:Hid (ZS g (.slice A1 L.length c1) (.slice A8 n8 c8) (.slice A2 C.length c2) 0 gy st w4):=hid (by rw [hw4];exact ⟨by go_simp,by go_simp,by go_simp,by go_simp,by go_simp,by go_simp⟩)
 have HL4:=hid ((HL2.out.below hb3).outD ho4 (fun b off e _ q=>by have q:b=g:=q;have:=HLT.out.1 b off e;have:=HG.out;omega) (fun y hy b off e _ q=>by have q:b=g:=q;have:=HLT.out.2.1 y hy b off e;have:=HG.out;omega))
 have HJ4:=hid ((HJ2.out.below hb3).outD ho4 (fun b off e _ q=>by have q:b=g:=q;have:=HLT.out.2.2 b off e;have:=HG.out;omega))
 have HC4:Hid (SlE layC w4 A2 C.length c2 C):=hid ⟨rfl,hs3.cap,hs3.big,fun hl=>by
  obtain ⟨b,off,e,hc⟩:=hs3.at_ hl
  have hp:0<C.length:=by rcases C with _ | ⟨x,l⟩;exact absurd rfl hl;simp
  have hne:b≠g:=fun e2=>by
   subst e2
   have h9:=hc.at_ 0 hp 9 (.int .i64 C[0].sli) rfl
   have h8:=(World.cell?_of_block (a:=⟨b,off+0*10+9,none⟩) (hb3.block b (lt_of_cell HZ2.out.z0))).trans (HZN.out.1 (off+0*10+9) (by omega))
   rw [show off+0*layC.k+9=off+0*10+9 from rfl,h8] at h9
   cases h9
  exact ⟨b,off,e,Nat.lt_of_lt_of_le hc.lt ho4.size,fun j hj i v hv=>ho4.cell (hc.at_ j hj i v hv) hne⟩⟩
 have HB4:Hid (Below w.heap.size w w4):=hid (ho4.toBelow (keepBelow hb3 HB2.out) (keepBelow hb3 HB2.out).size (by have h1:=HG.out;have h2:=HBW.out;omega))
 clear hs3 hb3 ho4 HFI h23
 go_upto_region 4 with fail
 rw [← hw4]
 clear hw4 z0 z1 z2 z3 z4 z5 lz zf
 obtain ⟨z0,z1,z2,z3,z4,z5⟩:=HZ4.out
 have lz:=lt_of_cell z0
 have HIS:=hid (pIslands_calls HL4.out HJ4.out HC4.out 0 gy st)
 rw [← HEE.out,← HFF.out] at HIS
 go_wp2_with fail
 refine HIS.out.mono ?_
 rintro e w5 ⟨hb5,hres⟩
 replace z0:=keepCell hb5 z0
 replace z1:=keepCell hb5 z1
 replace z2:=keepCell hb5 z2
 replace z3:=keepCell hb5 z3
 replace z4:=keepCell hb5 z4
 replace z5:=keepCell hb5 z5
 replace lz:=lt_of_cell z0
 have HB45:=hid hb5
 clear hb5 HIS
 have HCK:Hid (∀ w',Below w4.heap.size w4 w'→Calls Tryz.prog 22 #[.agg #[.slice A1 L.length c1,.slice A8 n8 c8,.slice A2 C.length c2,.int .i64 0,.int .i64 gy,.int .i64 st]] w' (Ret (.int .i64 E) w')):=hid (fun w' hb=>by rw [HEE.out];exact pcheck_calls (HL4.out.below hb) (HJ4.out.below hb) (HC4.out.below hb) 0 gy st)
 rcases hres with ⟨hne,rfl⟩ | ⟨he,gs,rfl,hgs,hcg,hfg⟩
 ·have hq : (E != 0) = true := by simpa using hne
  have hq2:(E == 0)=false:=by simpa using hne
  clear hne
  go_wp2_with fail
  refine (steps_calls _).mono ?_
  rintro e w6 ⟨rfl,hb6⟩
  replace z0:=keepCell hb6 z0
  replace z1:=keepCell hb6 z1
  replace z2:=keepCell hb6 z2
  replace z3:=keepCell hb6 z3
  replace z4:=keepCell hb6 z4
  replace z5:=keepCell hb6 z5
  replace lz:=lt_of_cell z0
  replace HB45:=hid (keepBelow hb6 HB45.out)
  clear hb6
  go_wp2_with fail
  refine (HCK.out _ HB45.out).mono ?_
  rintro e w7 ⟨rfl,hb7⟩
  have HBF:=hid (keepBelow hb7 (keepBelow HB45.out HB4.out))
  clear hb7 HB45
  go_wp2
  go_returns
  exact ret_bool (by simp) HBF.out
 ·subst he
  have hCT:=HEE.out.symm
  have HCT:=hid (contactsE_zero (scene_zero hCT).1).2.2
  have HGR:Hid (∀ j,j<L.length→w5.cell? ⟨gs,j,none⟩=some (.int .i64 (f j:Nat))):=hid (fun j hj=>by
   have h:=hcg.at_ j (by simpa using hj) 0 (.int .i64 (f j:Nat)) (by simp [layNat])
   simpa [layNat] using h)
  have HRT:Hid (RtOk f):=hid (by rw [HFF.out];exact islR_ok _ _)
  clear hgs hcg hfg hCT
  go_wp2_with fail
  refine (steps_calls _).mono ?_
  rintro e w5b ⟨rfl,hb6⟩
  replace z0:=keepCell hb6 z0
  replace z1:=keepCell hb6 z1
  replace z2:=keepCell hb6 z2
  replace z3:=keepCell hb6 z3
  replace z4:=keepCell hb6 z4
  replace z5:=keepCell hb6 z5
  replace lz:=lt_of_cell z0
  replace HB45:=hid (keepBelow hb6 HB45.out)
  replace HGR:=hid (fun j hj=>keepCell hb6 (HGR.out j hj))
  clear hb6
  go_wp2_with fail
  refine (HCK.out _ HB45.out).mono ?_
  rintro e w6 ⟨rfl,hb7⟩
  replace z0:=keepCell hb7 z0
  replace z2:=keepCell hb7 z2
  replace lz:=lt_of_cell z0
  replace HB45:=hid (keepBelow hb7 HB45.out)
  replace HGR:=hid (fun j hj=>keepCell hb7 (HGR.out j hj))
  have HL6:=hid (HL4.out.below HB45.out)
  have HC6:=hid (HC4.out.below HB45.out)
  have HBF:=hid (keepBelow HB45.out HB4.out)
  clear hb7 HCK z1 z3 z4 z5 HB45 HL4 HJ4 HC4 HL2 HJ2 HZ4 HZ2 HB4 HB2
  go_wp2
  go_loopw [46] (fun j wr=>∃ t:Nat,t≤L.length∧j = .int .i64 t∧w6=wr) (fun j _=>L.length-(intOf j).toNat)
  case atStart=>exact ⟨0,Nat.zero_le _,rfl,rfl⟩
  case round =>
   obtain ⟨t,ht,rfl,rfl⟩:=hrel
   by_cases hlt:t<L.length
   ·have hlt' : (t : Int) < (L.length : Int) := by omega
    have hwk:IntKind.i64.wrap ((t:Int)+1)=(t:Int)+1:=IntWalk.i64_in _ (by omega)
    obtain ⟨k,hk⟩:∃ k,k=f t:=⟨_,rfl⟩
    have hkt:k≤t:=by rw [hk];exact HRT.out.1 t
    have hkl:k<L.length:=by omega
    have hkl':(k:Int)<(L.length:Int):=by omega
    have cg1:w6.cell? ⟨gs,t,none⟩=some (.int .i64 (k:Nat)):=by rw [hk];exact HGR.out t hlt
    have cg2:w6.cell? ⟨gs,k,none⟩=some (.int .i64 (k:Nat)):=by have:=HGR.out k hkl;rwa [show f k=k from by rw [hk];exact HRT.out.2 t] at this
    have lg:=lt_of_cell cg1
    obtain ⟨bL,oL,rfl,hCL⟩:=HL6.out.sl.at_ (by intro h;rw [h] at hlt;simp at hlt)
    obtain ⟨x,hx⟩:∃ x,x=L[t]:=⟨_,rfl⟩
    obtain ⟨-,-,-,-,-,-,d6,-,-,-,-,-,-⟩:=cells_bd hCL hlt hx
    have lb:=hCL.lt
    have HKM:Hid (x.b.mass=0→k=t):=hid (fun h=>by
     rw [hk]
     have hz:mvL L t=false:=by rw [mvL_at hlt,← hx,h];rfl
     have:=(islR_alone hz (lnkJ J ++ lnkC C) t).2 rfl
     rw [HFF.out];exact this)
    clear hCL hx hk
    generalize x.b.mass=mx at *
    by_cases hm:mx=0
    ·have hkt2 := HKM.out hm
     subst hkt2 hm
     go_wp2
     go_roundw
     case rel=>exact ⟨k+1,hlt,by go_num,trivial⟩
     case measure=>simp [intOf];omega
    ·have hmq : (mx == 0) = false := by simpa using hm
     clear HKM
     go_wp2
     go_roundw
     case rel=>exact ⟨t+1,hlt,by go_num,trivial⟩
     case measure=>simp [intOf];omega
   ·have hte : t = L.length := by omega
    subst hte
    have hcap:=HC6.out.cap
    have hbig:=HC6.out.big
    go_wp2
    go_loopw [84] (fun j wr=>∃ t:Nat,t≤C.length∧j = .int .i64 t∧Hid (t≤C.length∧Below w6.heap.size w6 wr)) (fun j _=>C.length-(intOf j).toNat)
    case atStart=>exact ⟨0,Nat.zero_le _,rfl,hid ⟨Nat.zero_le _,Below.refl _ _⟩⟩
    case round =>
     obtain ⟨t,ht,rfl,HB0⟩:=hrel
     have HB:=hid HB0.out.2
     clear HB0
     obtain ⟨wq,rfl⟩:∃ wq:World,wq=wr:=⟨_,rfl⟩
     by_cases hlt:t<C.length
     ·have hlt' : (t : Int) < (C.length : Int) := by omega
      have hwk:IntKind.i64.wrap ((t:Int)+1)=(t:Int)+1:=IntWalk.i64_in _ (by omega)
      obtain ⟨bC,oC,rfl,hCC⟩:=(HC6.out.below HB.out).at_ (by intro h;rw [h] at hlt;simp at hlt)
      obtain ⟨x,hx⟩:∃ x,x=C[t]:=⟨_,rfl⟩
      have hxm:x ∈ C:=by rw [hx];exact List.getElem_mem hlt
      obtain ⟨c0,c1',c2',c3,c4,c5,c6,c7,c8,c9⟩:=cells_ct hCC hlt hx
      obtain ⟨⟨x1,x2,x3,-⟩,-⟩:=HCT.out x hxm
      have lc:=hCC.lt
      have hlk:((x.a.toNat,x.b.toNat):Nat × Nat) ∈ lnkJ J ++ lnkC C:=List.mem_append_right _ (List.mem_map.2 ⟨x,hxm,rfl⟩)
      clear hCC hx hxm
      obtain ⟨xa,xb,xid,xpx,xpy,xnx,xny,xdep,xpush,xsli⟩:=x
      dsimp only at c0 c1' c2' c3 c4 c5 c6 c7 c8 c9 x1 x2 x3 hlk
      obtain ⟨ka,rfl⟩:∃ ka:Nat,xa=ka:=⟨xa.toNat,by omega⟩
      obtain ⟨kb,rfl⟩:∃ kb:Nat,xb=kb:=⟨xb.toNat,by omega⟩
      rw [Int.toNat_natCast,Int.toNat_natCast] at hlk
      have HLK:=hid hlk
      have ha:ka<L.length:=by omega
      have hb:kb<L.length:=by omega
      have ha':(ka:Int)<(L.length:Int):=by omega
      have hab:¬ (ka:Int) ≥ (kb:Int):=by omega
      obtain ⟨wp,hwp⟩:∃ y,y=wq.alloc (.cells #[.int .i64 (ka:Nat),.int .i64 (kb:Nat),.int .i64 xid,.int .i64 xpx,.int .i64 xpy,.int .i64 xnx,.int .i64 xny,.int .i64 xdep,.int .i64 xpush,.int .i64 xsli] 53):=⟨_,rfl⟩
      obtain ⟨gx,hgx⟩:∃ y,y=wq.heap.size:=⟨_,rfl⟩
      have hbq:Below wq.heap.size wq wp:=by rw [hwp];exact (Below.refl _ _).alloc (Nat.le_refl _) _
      have HBp:=hid (keepBelow hbq HB.out)
      have e1:wp.cell? ⟨gx,0,none⟩=some (.int .i64 (ka:Nat)):=by rw [hwp,hgx];go_simp
      have e2:wp.cell? ⟨gx,1,none⟩=some (.int .i64 (kb:Nat)):=by rw [hwp,hgx];go_simp
      have lx:=lt_of_cell e1
      obtain ⟨bL,oL,hA,hCL⟩:=(HL6.out.below HBp.out).sl.at_ (by intro h;rw [h] at ha;simp at ha)
      obtain ⟨-,-,-,-,-,-,e3,-,-,-,-,-,-⟩:=cells_bd hCL ha rfl
      obtain ⟨-,-,-,-,-,-,e4,-,-,-,-,-,-⟩:=cells_bd hCL hb rfl
      have e0:=keepCell HBp.out z0
      rw [hA] at e0
      have ll:=hCL.lt
      obtain ⟨fa,hfa⟩:∃ y,y=f ka:=⟨_,rfl⟩
      have e5:=keepCell HBp.out (HGR.out ka ha)
      have e6:=keepCell HBp.out (HGR.out kb hb)
      rw [← hfa] at e5
      have HSM:Hid (L[ka].b.mass > 0→L[kb].b.mass > 0→f kb=fa):=hid (fun h1 h2=>by
       rw [hfa,HFF.out]
       exact (islR_same (p:=(ka,kb)) HLK.out (by rw [mvL_at ha];simp;omega) (by rw [mvL_at hb];simp;omega)).symm)
      have hlg:=lt_of_cell e5
      have hl0:=lt_of_cell e0
      clear hCL hbq hfa HB
      generalize L[ka].b.mass=ma at *
      generalize L[kb].b.mass=mb at *
      go_upto_region 20 with fail
      rw [← hwp,← hgx]
      clear hwp hgx c0 c1' c2' c3 c4 c5 c6 c7 c8 c9 lc
      rw [hA]
      go_upto_region 22 with fail
      by_cases hma:ma > 0
      ·by_cases hmb : mb > 0
       ·rw [HSM.out hma hmb] at e6
        clear HSM
        refine wp_region_noPanic ?_
        refine wp_region_U (S:=(S2 (fun w'=>w'.cell? ⟨g,0,none⟩=some (.slice (some ⟨bL,oL,none⟩) L.length c1)∧w'.cell? ⟨gx,0,none⟩=some (.int .i64 (ka:Nat))∧w'.cell? ⟨gx,1,none⟩=some (.int .i64 (kb:Nat))∧w'.cell? ⟨bL,oL+ka*13+6,none⟩=some (.int .i64 ma)∧w'.cell? ⟨bL,oL+kb*13+6,none⟩=some (.int .i64 mb)∧Bq w6 w'∧w'.cell? ⟨gs,ka,none⟩=some (.int .i64 (fa:Nat))∧w'.cell? ⟨gs,kb,none⟩=some (.int .i64 (fa:Nat))))) (T:=(fun _=>0)) (by kernel_rfl) (S2i0 ⟨e0,e1,e2,e3,e4,⟨HBp.out.drew⟩,e5,e6⟩) (fun hH=>?_)
        have hWr1:Weaker (S2 (fun w'=>w'.cell? ⟨g,0,none⟩=some (.slice (some ⟨bL,oL,none⟩) L.length c1)∧w'.cell? ⟨gx,0,none⟩=some (.int .i64 (ka:Nat))∧w'.cell? ⟨gx,1,none⟩=some (.int .i64 (kb:Nat))∧w'.cell? ⟨bL,oL+ka*13+6,none⟩=some (.int .i64 ma)∧w'.cell? ⟨bL,oL+kb*13+6,none⟩=some (.int .i64 mb)∧Bq w6 w'∧w'.cell? ⟨gs,ka,none⟩=some (.int .i64 (fa:Nat))∧w'.cell? ⟨gs,kb,none⟩=some (.int .i64 (fa:Nat)))):=weaker2 _
        refine Utn [(0,106),(1,107),(2,108),(3,109),(4,110),(5,111),(6,112),(7,113),(8,114),(9,115),(10,116),(11,117),(12,118),(13,119),(14,120),(15,121),(16,122),(17,123),(18,124),(19,125),(20,126),(21,127),(22,128),(23,129),(24,130),(25,131),(26,132),(27,133),(28,134),(29,135),(30,136)] 0 0 0 (L':=?Lr1_1) hWr1 hH ?yr1_1 ?_
        case yr1_1=>((iterate 31 apply tkC;rfl;kernel_rfl;intro w' hSw;replace hSw:=S2o0 hSw;(try dsimp only at hSw);have q0:=hSw.1;have q1:=hSw.2.1;have q2:=hSw.2.2.1;have q3:=hSw.2.2.2.1;have q4:=hSw.2.2.2.2.1;have q5:=hSw.2.2.2.2.2.1;have q6:=hSw.2.2.2.2.2.2.1;have q7:=hSw.2.2.2.2.2.2.2;(try simp only [sB,sC]);go_simp;(try with_reducible rfl));exact tkN)
        simp only [sB,sC]
        refine wpAnyU_done (by kernel_rfl) ?_ _ _
        refine NoPanic.normal ?_
        replace hH:=S2o0 hH
        (try dsimp only at hH)
        have q0:=hH.1
        have q1:=hH.2.1
        have q2:=hH.2.2.1
        have q3:=hH.2.2.2.1
        have q4:=hH.2.2.2.2.1
        have q5:=hH.2.2.2.2.2.1
        have q6:=hH.2.2.2.2.2.2.1
        have q7:=hH.2.2.2.2.2.2.2
        have HBQ:=hid (show t+1≤C.length∧_ from ⟨hlt,q5.b⟩)
        clear q0 q1 q2 q3 q4 q5 q6 q7 hH
        go_wp2
        go_roundw
        case rel=>exact ⟨_,_,_,⟨t+1,hlt,rfl,HBQ⟩,rfl,rfl,rfl⟩
        case measure=>simp [intOf];omega
       ·clear HSM e5 e6
        refine wp_region_noPanic ?_
        refine wp_region_U (S:=(S2 (fun w'=>w'.cell? ⟨g,0,none⟩=some (.slice (some ⟨bL,oL,none⟩) L.length c1)∧w'.cell? ⟨gx,0,none⟩=some (.int .i64 (ka:Nat))∧w'.cell? ⟨gx,1,none⟩=some (.int .i64 (kb:Nat))∧w'.cell? ⟨bL,oL+ka*13+6,none⟩=some (.int .i64 ma)∧w'.cell? ⟨bL,oL+kb*13+6,none⟩=some (.int .i64 mb)∧Bq w6 w'))) (T:=(fun _=>0)) (by kernel_rfl) (S2i0 ⟨e0,e1,e2,e3,e4,⟨HBp.out.drew⟩⟩) (fun hH=>?_)
        have hWr2:Weaker (S2 (fun w'=>w'.cell? ⟨g,0,none⟩=some (.slice (some ⟨bL,oL,none⟩) L.length c1)∧w'.cell? ⟨gx,0,none⟩=some (.int .i64 (ka:Nat))∧w'.cell? ⟨gx,1,none⟩=some (.int .i64 (kb:Nat))∧w'.cell? ⟨bL,oL+ka*13+6,none⟩=some (.int .i64 ma)∧w'.cell? ⟨bL,oL+kb*13+6,none⟩=some (.int .i64 mb)∧Bq w6 w')):=weaker2 _
        refine Utn [(0,106),(1,107),(2,108),(3,109),(4,110),(5,111),(6,112),(7,113),(8,114),(9,115),(10,116),(11,117),(12,118),(13,119),(14,120),(15,121),(16,122),(17,123),(18,124)] 12 0 0 (L':=?Lr2_1) hWr2 hH ?yr2_1 ?_
        case yr2_1=>((iterate 19 apply tkC;rfl;kernel_rfl;intro w' hSw;replace hSw:=S2o0 hSw;(try dsimp only at hSw);have q0:=hSw.1;have q1:=hSw.2.1;have q2:=hSw.2.2.1;have q3:=hSw.2.2.2.1;have q4:=hSw.2.2.2.2.1;have q5:=hSw.2.2.2.2.2;(try simp only [sB,sC]);go_simp;(try with_reducible rfl));exact tkN)
        simp only [sB,sC]
        refine U_skips (by kernel_rfl) (fun _ _ _ _ h=>h) hWr2 0 0 (by omega) hH [(19,125),(20,126),(21,127),(22,128),(23,129),(24,130),(25,131),(26,132),(27,133),(28,134),(29,135)] 1 _ _ _ (by kernel_rfl) (by kernel_rfl) ?_
        simp only [tsetUndef,List.set_cons_zero,List.set_cons_succ]
        refine Ut 30 136 0 0 0 (v:=?vr2_20) rfl hWr2 hH ?yr2_20 ?_
        case yr2_20=>(intro w' hSw;clear hSw;go_simp;try (with_reducible rfl))
        simp only [sB,sC]
        refine wpAnyU_done (by kernel_rfl) ?_ _ _
        refine NoPanic.normal ?_
        replace hH:=S2o0 hH
        (try dsimp only at hH)
        have q0:=hH.1
        have q1:=hH.2.1
        have q2:=hH.2.2.1
        have q3:=hH.2.2.2.1
        have q4:=hH.2.2.2.2.1
        have q5:=hH.2.2.2.2.2
        have HBQ:=hid (show t+1≤C.length∧_ from ⟨hlt,q5.b⟩)
        clear q0 q1 q2 q3 q4 q5 hH
        go_wp2
        go_roundw
        case rel=>exact ⟨_,_,_,⟨t+1,hlt,rfl,HBQ⟩,rfl,rfl,rfl⟩
        case measure=>simp [intOf];omega
      ·clear HSM e5 e6
       refine wp_region_noPanic ?_
       refine wp_region_U (S:=(S2 (fun w'=>w'.cell? ⟨g,0,none⟩=some (.slice (some ⟨bL,oL,none⟩) L.length c1)∧w'.cell? ⟨gx,0,none⟩=some (.int .i64 (ka:Nat))∧w'.cell? ⟨gx,1,none⟩=some (.int .i64 (kb:Nat))∧w'.cell? ⟨bL,oL+ka*13+6,none⟩=some (.int .i64 ma)∧w'.cell? ⟨bL,oL+kb*13+6,none⟩=some (.int .i64 mb)∧Bq w6 w'))) (T:=(fun _=>0)) (by kernel_rfl) (S2i0 ⟨e0,e1,e2,e3,e4,⟨HBp.out.drew⟩⟩) (fun hH=>?_)
       have hWr3:Weaker (S2 (fun w'=>w'.cell? ⟨g,0,none⟩=some (.slice (some ⟨bL,oL,none⟩) L.length c1)∧w'.cell? ⟨gx,0,none⟩=some (.int .i64 (ka:Nat))∧w'.cell? ⟨gx,1,none⟩=some (.int .i64 (kb:Nat))∧w'.cell? ⟨bL,oL+ka*13+6,none⟩=some (.int .i64 ma)∧w'.cell? ⟨bL,oL+kb*13+6,none⟩=some (.int .i64 mb)∧Bq w6 w')):=weaker2 _
       refine Utn [(0,106),(1,107),(2,108),(3,109),(4,110),(5,111),(6,112),(7,113),(8,114)] 22 0 0 (L':=?Lr3_1) hWr3 hH ?yr3_1 ?_
       case yr3_1=>((iterate 9 apply tkC;rfl;kernel_rfl;intro w' hSw;replace hSw:=S2o0 hSw;(try dsimp only at hSw);have q0:=hSw.1;have q1:=hSw.2.1;have q2:=hSw.2.2.1;have q3:=hSw.2.2.2.1;have q4:=hSw.2.2.2.2.1;have q5:=hSw.2.2.2.2.2;(try simp only [sB,sC]);go_simp;(try with_reducible rfl));exact tkN)
       simp only [sB,sC]
       refine U_skips (by kernel_rfl) (fun _ _ _ _ h=>h) hWr3 0 0 (by omega) hH [(9,115),(10,116),(11,117),(12,118),(13,119),(14,120),(15,121),(16,122)] 14 _ _ _ (by kernel_rfl) (by kernel_rfl) ?_
       simp only [tsetUndef,List.set_cons_zero,List.set_cons_succ]
       refine Utn [(17,123),(18,124)] 12 0 0 (L':=?Lr3_10) hWr3 hH ?yr3_10 ?_
       case yr3_10=>((iterate 2 apply tkC;rfl;kernel_rfl;intro w' hSw;clear hSw;(try simp only [sB,sC]);go_simp;(try with_reducible rfl));exact tkN)
       simp only [sB,sC]
       refine U_skips (by kernel_rfl) (fun _ _ _ _ h=>h) hWr3 0 0 (by omega) hH [(19,125),(20,126),(21,127),(22,128),(23,129),(24,130),(25,131),(26,132),(27,133),(28,134),(29,135)] 1 _ _ _ (by kernel_rfl) (by kernel_rfl) ?_
       simp only [tsetUndef,List.set_cons_zero,List.set_cons_succ]
       refine Ut 30 136 0 0 0 (v:=?vr3_12) rfl hWr3 hH ?yr3_12 ?_
       case yr3_12=>(intro w' hSw;clear hSw;go_simp;try (with_reducible rfl))
       simp only [sB,sC]
       refine wpAnyU_done (by kernel_rfl) ?_ _ _
       refine NoPanic.normal ?_
       replace hH:=S2o0 hH
       (try dsimp only at hH)
       have q0:=hH.1
       have q1:=hH.2.1
       have q2:=hH.2.2.1
       have q3:=hH.2.2.2.1
       have q4:=hH.2.2.2.2.1
       have q5:=hH.2.2.2.2.2
       have HBQ:=hid (show t+1≤C.length∧_ from ⟨hlt,q5.b⟩)
       clear q0 q1 q2 q3 q4 q5 hH
       go_wp2
       go_roundw
       case rel=>exact ⟨_,_,_,⟨t+1,hlt,rfl,HBQ⟩,rfl,rfl,rfl⟩
       case measure=>simp [intOf];omega
     ·have hte : t = C.length := by omega
      subst hte
      have HFIN:=hid (keepBelow HB.out HBF.out)
      clear HB
      go_wp2
      go_returns
      exact ret_bool (by simp) HFIN.out
end
end Go.Proofs.YtodpincpofoiiaaGreat
