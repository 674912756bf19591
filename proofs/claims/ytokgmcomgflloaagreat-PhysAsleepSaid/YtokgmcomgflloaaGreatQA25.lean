/- Parts of a proof: contracts and laws. -/
import Derived.Test.YtokgmcomgflloaaGreatQA24
import Derived.Test.YtokgmcomgflloaaGreatQA02
import Derived.Test.YtokgmcomgflloaaGreatQA17
import Derived.Test.YtokgmcomgflloaaGreatQA01
import Derived.Laws.CopyOwn
set_option maxRecDepth 100000
set_option maxHeartbeats 16000000
namespace Go.Proofs.YtokgmcomgflloaaGreat
section
set_option linter.unusedVariables false
set_option linter.unusedSimpArgs false
open Go.RowKit
variable {w0 w w':World}
def Qc (v:Int):Int:=if (268435456:Int)<(if (-268435456:Int) > v then -268435456 else v) then 268435456 else (if (-268435456:Int) > v then -268435456 else v)
def jr (gx gy st:Int) (x:BE):BE:=if decide (x.b.mass > 0) && !x.b.asleep then { x with b:={ x.b with vx:=Qc (bT x.b.vx (aX gx st)),vy:=Qc (bT x.b.vy (aX gy st)) } } else x

structure EC (w0 : World) (g n k : Nat) (L : List BE) (F : BE → BE) (M : List BE) (gx gy : Int) (wr : World) : Prop where
 len:M.length=n
 at_:∀ j:Nat,j<n→M[j]? = if j<k then (L[j]?).map F else L[j]?
 bl:BL wr g M
 out:Out (fun k=>k=g) w0 wr
 v0:wr.cell? ⟨w0.heap.size,0,none⟩=some (.int .i64 gx)
 v1:wr.cell? ⟨w0.heap.size,1,none⟩=some (.int .i64 gy)
 lt:g<w0.heap.size
 lo:∀ y ∈ M,∀ bx off,y.A=some ⟨bx,off,none⟩→bx<w0.heap.size
theorem ig {g n k:Nat} {L:List BE} {F:BE→BE} {M:List BE} {gx gy:Int} {wr w':World} (hb:Below wr.heap.size wr w') (h:EC w0 g n k L F M gx gy wr):EC w0 g n k L F M gx gy w' :=
 ⟨h.len,h.at_,fI hb h.bl,h.out.trans (Out.below (D:=fun _=>False) hb) (fun i _ q=>q.elim),keepCell hb h.v0,keepCell hb h.v1,h.lt,h.lo⟩
theorem EC.set {g n k:Nat} {L:List BE} {F:BE→BE} {M:List BE} {gx gy:Int} {wr:World} {q o:Nat} {v:Value} (h:EC w0 g n k L F M gx gy wr) (hq:w0.heap.size<q):EC w0 g n k L F M gx gy (wr.setCell ⟨q,o,none⟩ v) :=
 ⟨h.len,h.at_,h.bl.off (by have:=h.lt;omega) (fun y hy bx off e=>by have:=h.lo y hy bx off e;omega),h.out.setCell (p:=⟨q,o,none⟩) (.inl (by show w0.heap.size≤q;omega)) _,aY (by omega) h.v0,aY (by omega) h.v1,h.lt,h.lo⟩
theorem EC.next {g n k:Nat} {L:List BE} {F:BE→BE} {M:List BE} {gx gy:Int} {wr:World} (h:EC w0 g n k L F M gx gy wr) (hk:k<n) {x:BE} (hx:L[k]? = some x) (hF:F x=x):EC w0 g n (k+1) L F M gx gy wr :=
 ⟨h.len,fun j hj=>by
  rw [h.at_ j hj]
  by_cases e:j<k
  ·rw [if_pos e,if_pos (by omega)]
  ·rw [if_neg e]
   by_cases e2:j=k
   ·subst e2;rw [if_pos (by omega),hx];simp [hF]
   ·rw [if_neg (by omega)],h.bl,h.out,h.v0,h.v1,h.lt,h.lo⟩
theorem EC.store {g n k:Nat} {L:List BE} {F:BE→BE} {M:List BE} {gx gy:Int} {wr:World} (h:EC w0 g n k L F M gx gy wr) {x:BE} (hk:k<M.length) (hx:x=M[k]) (c1 c2:Int) (hF:L[k]? = some x∧F x={ x with b:={ x.b with vx:=c1,vy:=c2 } }) (hkn:k<n) :
  EC w0 g n (k+1) L F (M.set k { x with b:={ x.b with vx:=c1,vy:=c2 } }) gx gy ((wr.setCell ⟨g,k*13+2,none⟩ (.int .i64 c1)).setCell ⟨g,k*13+3,none⟩ (.int .i64 c2)):=by
 have hB1:=h.bl.cell hk { x with b:={ x.b with vx:=c1 } } (o:=2) (v:=.int .i64 c1) (by omega) (by rw [← hx];rfl) (by rw [← hx];exact ⟨rfl,rfl,rfl,rfl⟩);have hB2:=hB1.cell (k:=k) (by rw [List.length_set];exact hk) { x with b:={ x.b with vx:=c1,vy:=c2 } } (o:=3) (v:=.int .i64 c2) (by omega) (by rw [List.getElem_set_self];rfl) (by rw [List.getElem_set_self];exact ⟨rfl,rfl,rfl,rfl⟩);rw [List.set_set] at hB2;have hlt:=h.lt;refine ⟨by rw [List.length_set];exact h.len,fun j hj=>?_,hB2,(h.out.setCell (p:=⟨g,k*13+2,none⟩) (.inr rfl) _).setCell (p:=⟨g,k*13+3,none⟩) (.inr rfl) _,aY (by omega) (aY (by omega) h.v0),aY (by omega) (aY (by omega) h.v1),h.lt,fun y hy=>?_⟩
 ·by_cases e : j = k
  ·subst e;rw [List.getElem?_set_self hk,if_pos (by omega),hF.1,← hF.2];rfl
  ·rw [List.getElem?_set_ne (fun q => e q.symm), h.at_ j hj]
   by_cases e2:j<k
   ·rw [if_pos e2,if_pos (by omega)]
   ·rw [if_neg e2,if_neg (by omega)]
 ·rcases List.mem_or_eq_of_mem_set hy with q | rfl
  ·exact h.lo y q
  ·exact h.lo x (by rw [hx];exact List.getElem_mem _)
theorem Fb {g n c:Nat} {L:List BE} {gx gy st:Int} (hB:BL w g L) (hn:n=L.length) (hlo:∀ y ∈ L,∀ bx off,y.A=some ⟨bx,off,none⟩→bx<w.heap.size) (hc:n≤c) (hN:n≤1000000) :
  Calls Tryz.prog 47 #[.slice (some ⟨g,0,none⟩) n c,aR gx gy,.int .i64 st] w (fun e w'=>e = .returned (.tuple #[])∧BL w' g (L.map (jr gx gy st))∧Out (fun k=>k=g) w w'):=by
 obtain ⟨w1,hw1⟩:∃ x,x=w.alloc (.cells #[.int .i64 gx,.int .i64 gy] 24):=⟨_,rfl⟩;have hb1:Below w.heap.size w w1:=by rw [hw1];exact (Below.refl _ _).alloc (Nat.le_refl _) _
 obtain ⟨F,hF⟩:∃ F,F=jr gx gy st:=⟨_,rfl⟩;have HS1:Hid (w.heap.size<w1.heap.size):=hid (by rw [hw1,World.size_alloc];omega);have HF0:Hid (EC w g n 0 L F L gx gy w1):=hid ⟨hn.symm,fun j hj=>by rw [if_neg (by omega)],fI hb1 hB,Out.below hb1,by rw [hw1];go_simp,by rw [hw1];go_simp,hB.cl.lt,hlo⟩;have HFE:=hid hF;have HL:=hid hn;clear hB hlo hb1 hF;obtain ⟨m1,hm1⟩:∃ y,y=aX gx st:=⟨_,rfl⟩;obtain ⟨m2,hm2⟩:∃ y,y=aX gy st:=⟨_,rfl⟩;have HM1:Hid (∀ w,Calls Tryz.prog 52 #[.int .i64 gx,.int .i64 st] w (dG (.int .i64 m1) w)):=fun w=>by rw [hm1];exact bM gx st w
 have HM2:Hid (∀ w,Calls Tryz.prog 52 #[.int .i64 gy,.int .i64 st] w (dG (.int .i64 m2) w)):=fun w=>by rw [hm2];exact bM gy st w
 have HE1:=hid hm1;have HE2:=hid hm2;clear hm1 hm2 hn
 go_enter Tryz.func47,Tryz.ntmps47
 go_upto_region 2 with fail
 rw [← hw1];clear hw1
 go_loopw [11] (fun j wr=>∃ (k:Nat) (M:List BE),k≤n∧j = .int .i64 k∧Hid (EC w g n k L F M gx gy wr)) (fun j _=>n-(intOf j).toNat)
 case atStart=>exact ⟨0,L,Nat.zero_le _,rfl,HF0⟩
 case round =>
  clear HF0;obtain ⟨k,M,hk,rfl,HW⟩:=hrel;obtain ⟨wo,rfl⟩:∃ wo:World,wo=wr:=⟨_,rfl⟩
  by_cases hlt:k<n
  ·have hlt' : (k : Int) < (n : Int) := by omega
   have hwk:IntKind.i64.wrap ((k:Int)+1)=(k:Int)+1:=IntWalk.i64_in _ (by omega);have HKN:=hid hlt;have hkM:k<M.length:=by rw [HW.out.len];exact hlt
   obtain ⟨x,hx⟩:∃ x,x=M[k]:=⟨_,rfl⟩;have HX:Hid (∀ h:k<M.length,x=M[k]):=hid (fun _=>hx);obtain ⟨d0,d1,d2,d3,d4,d5,d6,d7,d8,d9,d10,d11,d12⟩:=bK HW.out.bl.cl hkM hx;have hML:M[k]? = L[k]? := by have:=HW.out.at_ k hlt;rwa [if_neg (by omega)] at this
   have HLK:Hid (L[k]? = some x):=hid (by rw [← hML,List.getElem?_eq_getElem hkM,hx]);clear hx hML hkM;obtain ⟨⟨px,py,vx,vy,ang,spin,ms,iner,bounce,rub,asl,calm⟩,xA,xn,xc,xl⟩:=x;dsimp only at d0 d1 d2 d3 d4 d5 d6 d7 d8 d9 d10 d11 d12;have ld:=lt_of_cell d0;obtain ⟨w5,hw5⟩:∃ y,y=wo.alloc (.cells #[.int .i64 px,.int .i64 py,.int .i64 vx,.int .i64 vy,.int .i64 ang,.int .i64 spin,.int .i64 ms,.int .i64 iner,.int .i64 bounce,.int .i64 rub,.slice xA xn xc,.bool asl,.int .i64 calm] 27):=⟨_,rfl⟩;obtain ⟨gb,hgb⟩:∃ y,y=wo.heap.size:=⟨_,rfl⟩;have hb5:Below wo.heap.size wo w5:=by rw [hw5];exact (Below.refl _ _).alloc (Nat.le_refl _) _
   have C2:Hid (w5.cell? ⟨gb,2,none⟩=some (.int .i64 vx)):=hid (by rw [hw5,hgb];go_simp);have C3:Hid (w5.cell? ⟨gb,3,none⟩=some (.int .i64 vy)):=hid (by rw [hw5,hgb];go_simp);have c6:w5.cell? ⟨gb,6,none⟩=some (.int .i64 ms):=by rw [hw5,hgb];go_simp
   have c11:w5.cell? ⟨gb,11,none⟩=some (.bool asl):=by rw [hw5,hgb];go_simp
   have HFL5:=hid (ig hb5 HW.out);have HGB:Hid (w.heap.size<gb):=hid (by rw [hgb];exact lt_of_cell HW.out.v0);clear hb5 HW
   go_upto_region 4 with fail
   rw [← hw5,← hgb];clear hw5 hgb d0 d1 d2 d3 d4 d5 d6 d7 d8 d9 d10 d11 d12 ld;have lb:=lt_of_cell c6
   by_cases hm:ms > 0
   ·cases asl with
    | true =>
     have HR:=hid (HFL5.out.next hlt HLK.out (by rw [HFE.out];unfold jr;rw [if_neg (by simp)]));clear HFL5 HLK HX C2 C3;go_wp2;go_roundw
     case rel=>exact ⟨k+1,M,hlt,by go_num,HR⟩
     case measure=>simp [intOf];omega
    | false =>
     obtain ⟨s1,hs1⟩:∃ y,y=bT vx m1:=⟨_,rfl⟩;obtain ⟨s2,hs2⟩:∃ y,y=bT vy m2:=⟨_,rfl⟩;have HAD:Hid (∀ w,Calls Tryz.prog 89 #[aR vx vy,aR m1 m2] w (dG (aR s1 s2) w)):=fun w=>by rw [hs1,hs2];exact jR vx vy m1 m2 w
     obtain ⟨t1,ht1⟩:∃ y,y=if (-268435456:Int) > s1 then -268435456 else s1:=⟨_,rfl⟩
     obtain ⟨t2,ht2⟩:∃ y,y=if (-268435456:Int) > s2 then -268435456 else s2:=⟨_,rfl⟩
     obtain ⟨c1,hc1⟩:∃ y,y=if (268435456:Int)<t1 then 268435456 else t1:=⟨_,rfl⟩
     obtain ⟨c2,hc2⟩:∃ y,y=if (268435456:Int)<t2 then 268435456 else t2:=⟨_,rfl⟩
     have HMX1:Hid (∀ (ts:Array TypeId) (t:TypeId) (w:World),(Builtin.max_ ts t #[.int .i64 s1,.int .i64 (-268435456)]).run Tryz.prog w = .ok (.int .i64 t1) w):=fun ts t w=>by rw [run_max_int2,ht1]
     have HMX2:Hid (∀ (ts:Array TypeId) (t:TypeId) (w:World),(Builtin.max_ ts t #[.int .i64 s2,.int .i64 (-268435456)]).run Tryz.prog w = .ok (.int .i64 t2) w):=fun ts t w=>by rw [run_max_int2,ht2]
     have HMN1:Hid (∀ (ts:Array TypeId) (t:TypeId) (w:World),(Builtin.min_ ts t #[.int .i64 t1,.int .i64 268435456]).run Tryz.prog w = .ok (.int .i64 c1) w):=fun ts t w=>by rw [run_min_int2,hc1]
     have HMN2:Hid (∀ (ts:Array TypeId) (t:TypeId) (w:World),(Builtin.min_ ts t #[.int .i64 t2,.int .i64 268435456]).run Tryz.prog w = .ok (.int .i64 c2) w):=fun ts t w=>by rw [run_min_int2,hc2]
     have HFX:=hid (show L[k]? = some _∧F _=_ from ⟨HLK.out,show F (⟨⟨px,py,vx,vy,ang,spin,ms,iner,bounce,rub,false,calm⟩,xA,xn,xc,xl⟩:BE)=(⟨⟨px,py,c1,c2,ang,spin,ms,iner,bounce,rub,false,calm⟩,xA,xn,xc,xl⟩:BE) from by
      rw [HFE.out];unfold jr;rw [if_pos (by simp [hm]),hc1,hc2,ht1,ht2,hs1,hs2,HE1.out,HE2.out]
      rfl⟩)
     clear hs1 hs2 ht1 ht2 hc1 hc2
     go_upto_region 5 with fail
     clear c6 c11 hm lb;refine (fun (hNr1:Hid (?Tr1:Prop))=>?mainr1) (hid ?prfr1)
     case mainr1 =>
      refine wp_region_noPanic ?_;refine au (S:=(S2 (fun w'=>EC w g n k L F M gx gy w'∧w'.cell? ⟨gb,2,none⟩=some (.int .i64 vx)∧w'.cell? ⟨gb,3,none⟩=some (.int .i64 vy)))) (T:=(fun j=>[0,0,0,0,0,0,0,0,0,0,0,0,0,1].getD j 0)) (by kernel_rfl) (aC ⟨ig ((Below.refl _ _).drew) HFL5.out,C2.out,C3.out⟩) (fun hH=>?_);have hWr1:aH (S2 (fun w'=>EC w g n k L F M gx gy w'∧w'.cell? ⟨gb,2,none⟩=some (.int .i64 vx)∧w'.cell? ⟨gb,3,none⟩=some (.int .i64 vy))):=aK _;refine dn [(0,24),(1,25),(2,26),(3,27),(4,28),(6,30),(7,31),(8,32)] 6 0 0 (L':=?Lr1_1) hWr1 hH ?yr1_1 ?_
      case yr1_1=>((iterate 8 apply dA;rfl;kernel_rfl;intro w' hSw;replace hSw:=aA hSw;(try dsimp only at hSw);have q0:=hSw.1;have q1:=hSw.2.1;have q2:=hSw.2.2;have qa0_0:=(q0).v0;have qa0_1:=(q0).v1;(try simp only [sB,sC]);go_simp;(try with_reducible rfl));exact dw)
      simp only [sB,sC];refine Ur [5,12] ?_;refine Uc 0 rfl (fun K hK=>?_) ?_
      ·try clear hb
       go_simp
       (go_at_call 52;refine (HM1.out _).mono ?_;rintro e wn ⟨rfl,hb⟩)
       refine hK.out _ _ (aC (by have hG:=hH;replace hG:=aA hG;(try dsimp only at hG);have q0:=hG.1;have q1:=hG.2.1;have q2:=hG.2.2;exact ⟨ig hb q0,keepCell hb q1,keepCell hb q2⟩)) (fun hH2=>?_);clear hK K hH
       rename _=>hH
       try simp only [Act.put,sA,sB,sC]
       refine Ur [9,12] ?_;refine Uc 0 rfl (fun K hK=>?_) ?_
       ·try clear hb
        go_simp
        (go_at_call 52;refine (HM2.out _).mono ?_;rintro e wn ⟨rfl,hb⟩)
        refine hK.out _ _ (aC (by have hG:=hH;replace hG:=aA hG;(try dsimp only at hG);have q0:=hG.1;have q1:=hG.2.1;have q2:=hG.2.2;exact ⟨ig hb q0,keepCell hb q1,keepCell hb q2⟩)) (fun hH2=>?_);clear hK K hH
        rename _=>hH
        try simp only [Act.put,sA,sB,sC]
        refine Ut 10 34 3 0 0 (v:=?vr1_11) rfl hWr1 hH ?yr1_11 ?_
        case yr1_11=>(intro w' hSw;clear hSw;go_simp;try (with_reducible rfl))
        simp only [sB,sC];refine Ur [11,12] ?_;refine Uc 0 rfl (fun K hK=>?_) ?_
        ·try clear hb
         go_simp
         (go_at_call 89;refine (HAD.out _).mono ?_;rintro e wn ⟨rfl,hb⟩)
         refine hK.out _ _ (aC (by have hG:=hH;replace hG:=aA hG;(try dsimp only at hG);have q0:=hG.1;have q1:=hG.2.1;have q2:=hG.2.2;exact ⟨ig hb q0,keepCell hb q1,keepCell hb q2⟩)) (fun hH2=>?_);clear hK K hH
         rename _=>hH
         try simp only [Act.put,sA,sB,sC]
         refine U1 12 0 rfl (fun K hK=>?_)
         try clear hb
         have hG:=hH;replace hG:=aA hG;(try dsimp only at hG);have q0:=hG.1;have q1:=hG.2.1;have q2:=hG.2.2;go_simp;refine hK.out _ _ (aC (by have hG:=hH;replace hG:=aA hG;(try dsimp only at hG);have q0:=hG.1;have q1:=hG.2.1;have q2:=hG.2.2;exact ⟨ig Ba q0,keepCell Ba q1,keepCell Ba q2⟩)) (fun hH2=>?_);clear hK K hH
         rename _=>hH
         try simp only [Act.put,sA,sB,sC]
         have hJ:VZ (wn.alloc (.cells #[.int .i64 0,.int .i64 0] 24)) wn.heap.size:=VZ.here wn 0 0 24;obtain ⟨gJ,hgJ⟩:∃ g,g=wn.heap.size:=⟨_,rfl⟩;have hlJ:gb<gJ:=by rw [hgJ];exact lt_of_cell q1
         rw [← hgJ] at hJ
         try rw [← hgJ]
         clear hgJ q0 q1 q2;generalize wn.alloc (.cells #[.int .i64 0,.int .i64 0] 24)=wx12 at *
         refine bE (l':=tf 14 8191) (by kernel_rfl) ?_;have hl2:gb<gJ:=by exact hlJ
         clear hlJ
         try clear hZJ
         try clear hb
         revert hH
         revert hJ
         revert hl2
         revert gJ
         revert wx12
         exact hNr1.out
        refine Uc 0 rfl (fun K hK=>?_) ?_
        ·try clear hb
         have hG:=hH;replace hG:=aA hG;(try dsimp only at hG);have q0:=hG.1;have q1:=hG.2.1;have q2:=hG.2.2;go_simp;refine hK.out _ _ (aC (by have hG:=hH;replace hG:=aA hG;(try dsimp only at hG);have q0:=hG.1;have q1:=hG.2.1;have q2:=hG.2.2;exact ⟨ig Ba q0,keepCell Ba q1,keepCell Ba q2⟩)) (fun hH2=>?_);clear hK K hH
         rename _=>hH
         try simp only [Act.put,sA,sB,sC]
         have hJ:VZ (wn.alloc (.cells #[.int .i64 0,.int .i64 0] 24)) wn.heap.size:=VZ.here wn 0 0 24;obtain ⟨gJ,hgJ⟩:∃ g,g=wn.heap.size:=⟨_,rfl⟩;have hlJ:gb<gJ:=by rw [hgJ];exact lt_of_cell q1
         rw [← hgJ] at hJ
         try rw [← hgJ]
         clear hgJ q0 q1 q2;generalize wn.alloc (.cells #[.int .i64 0,.int .i64 0] 24)=wx12 at *
         refine U1 11 0 rfl (fun K hK=>?_)
         try clear hb
         go_simp
         (go_at_call 89;refine (HAD.out _).mono ?_;rintro e wn ⟨rfl,hb⟩)
         refine hK.out _ _ (aC (by have hG:=hH;replace hG:=aA hG;(try dsimp only at hG);have q0:=hG.1;have q1:=hG.2.1;have q2:=hG.2.2;exact ⟨ig hb q0,keepCell hb q1,keepCell hb q2⟩)) (fun hH2=>?_);clear hK K hH
         rename _=>hH
         try simp only [Act.put,sA,sB,sC]
         replace hJ:=aG hb hJ;refine bE (l':=tf 14 8191) (by kernel_rfl) ?_;have hl2:gb<gJ:=by exact hlJ
         clear hlJ
         try clear hZJ
         try clear hb
         revert hH
         revert hJ
         revert hl2
         revert gJ
         revert wn
         exact hNr1.out
        exact bC.nil
       refine Uc 0 rfl (fun K hK=>?_) ?_
       ·try clear hb
        have hG:=hH;replace hG:=aA hG;(try dsimp only at hG);have q0:=hG.1;have q1:=hG.2.1;have q2:=hG.2.2;go_simp;refine hK.out _ _ (aC (by have hG:=hH;replace hG:=aA hG;(try dsimp only at hG);have q0:=hG.1;have q1:=hG.2.1;have q2:=hG.2.2;exact ⟨ig Ba q0,keepCell Ba q1,keepCell Ba q2⟩)) (fun hH2=>?_);clear hK K hH
        rename _=>hH
        try simp only [Act.put,sA,sB,sC]
        have hJ:VZ (wn.alloc (.cells #[.int .i64 0,.int .i64 0] 24)) wn.heap.size:=VZ.here wn 0 0 24;obtain ⟨gJ,hgJ⟩:∃ g,g=wn.heap.size:=⟨_,rfl⟩;have hlJ:gb<gJ:=by rw [hgJ];exact lt_of_cell q1
        rw [← hgJ] at hJ
        try rw [← hgJ]
        clear hgJ q0 q1 q2;generalize wn.alloc (.cells #[.int .i64 0,.int .i64 0] 24)=wx12 at *
        refine U1 9 0 rfl (fun K hK=>?_)
        try clear hb
        go_simp
        (go_at_call 52;refine (HM2.out _).mono ?_;rintro e wn ⟨rfl,hb⟩)
        refine hK.out _ _ (aC (by have hG:=hH;replace hG:=aA hG;(try dsimp only at hG);have q0:=hG.1;have q1:=hG.2.1;have q2:=hG.2.2;exact ⟨ig hb q0,keepCell hb q1,keepCell hb q2⟩)) (fun hH2=>?_);clear hK K hH
        rename _=>hH
        try simp only [Act.put,sA,sB,sC]
        replace hJ:=aG hb hJ;refine Ut 10 34 2 0 0 (v:=?vr1_19) rfl hWr1 hH ?yr1_19 ?_
        case yr1_19=>(intro w' hSw;clear hSw;go_simp;try (with_reducible rfl))
        simp only [sB,sC];refine U1 11 0 rfl (fun K hK=>?_)
        try clear hb
        go_simp
        (go_at_call 89;refine (HAD.out _).mono ?_;rintro e wn ⟨rfl,hb⟩)
        refine hK.out _ _ (aC (by have hG:=hH;replace hG:=aA hG;(try dsimp only at hG);have q0:=hG.1;have q1:=hG.2.1;have q2:=hG.2.2;exact ⟨ig hb q0,keepCell hb q1,keepCell hb q2⟩)) (fun hH2=>?_);clear hK K hH
        rename _=>hH
        try simp only [Act.put,sA,sB,sC]
        replace hJ:=aG hb hJ;refine bE (l':=tf 14 8191) (by kernel_rfl) ?_;have hl2:gb<gJ:=by exact hlJ
        clear hlJ
        try clear hZJ
        try clear hb
        revert hH
        revert hJ
        revert hl2
        revert gJ
        revert wn
        exact hNr1.out
       exact bC.nil
      refine Uc 0 rfl (fun K hK=>?_) ?_
      ·try clear hb
       have hG:=hH;replace hG:=aA hG;(try dsimp only at hG);have q0:=hG.1;have q1:=hG.2.1;have q2:=hG.2.2;go_simp;refine hK.out _ _ (aC (by have hG:=hH;replace hG:=aA hG;(try dsimp only at hG);have q0:=hG.1;have q1:=hG.2.1;have q2:=hG.2.2;exact ⟨ig Ba q0,keepCell Ba q1,keepCell Ba q2⟩)) (fun hH2=>?_);clear hK K hH
       rename _=>hH
       try simp only [Act.put,sA,sB,sC]
       have hJ:VZ ((w5.alloc (.cells #[.int .i64 0,.int .i64 0] 24)).drew) w5.heap.size:=VZ.drew (VZ.here w5 0 0 24);obtain ⟨gJ,hgJ⟩:∃ g,g=w5.heap.size:=⟨_,rfl⟩;have hlJ:gb<gJ:=by rw [hgJ];exact lt_of_cell q1
       rw [← hgJ] at hJ
       try rw [← hgJ]
       clear hgJ q0 q1 q2;generalize (w5.alloc (.cells #[.int .i64 0,.int .i64 0] 24)).drew=wx12 at *
       refine U1 5 0 rfl (fun K hK=>?_)
       try clear hb
       go_simp
       (go_at_call 52;refine (HM1.out _).mono ?_;rintro e wn ⟨rfl,hb⟩)
       refine hK.out _ _ (aC (by have hG:=hH;replace hG:=aA hG;(try dsimp only at hG);have q0:=hG.1;have q1:=hG.2.1;have q2:=hG.2.2;exact ⟨ig hb q0,keepCell hb q1,keepCell hb q2⟩)) (fun hH2=>?_);clear hK K hH
       rename _=>hH
       try simp only [Act.put,sA,sB,sC]
       replace hJ:=aG hb hJ;refine U1 9 0 rfl (fun K hK=>?_)
       try clear hb
       go_simp
       (go_at_call 52;refine (HM2.out _).mono ?_;rintro e wn ⟨rfl,hb⟩)
       refine hK.out _ _ (aC (by have hG:=hH;replace hG:=aA hG;(try dsimp only at hG);have q0:=hG.1;have q1:=hG.2.1;have q2:=hG.2.2;exact ⟨ig hb q0,keepCell hb q1,keepCell hb q2⟩)) (fun hH2=>?_);clear hK K hH
       rename _=>hH
       try simp only [Act.put,sA,sB,sC]
       replace hJ:=aG hb hJ;refine Ut 10 34 2 0 0 (v:=?vr1_24) rfl hWr1 hH ?yr1_24 ?_
       case yr1_24=>(intro w' hSw;clear hSw;go_simp;try (with_reducible rfl))
       simp only [sB,sC];refine U1 11 0 rfl (fun K hK=>?_)
       try clear hb
       go_simp
       (go_at_call 89;refine (HAD.out _).mono ?_;rintro e wn ⟨rfl,hb⟩)
       refine hK.out _ _ (aC (by have hG:=hH;replace hG:=aA hG;(try dsimp only at hG);have q0:=hG.1;have q1:=hG.2.1;have q2:=hG.2.2;exact ⟨ig hb q0,keepCell hb q1,keepCell hb q2⟩)) (fun hH2=>?_);clear hK K hH
       rename _=>hH
       try simp only [Act.put,sA,sB,sC]
       replace hJ:=aG hb hJ;refine bE (l':=tf 14 8191) (by kernel_rfl) ?_;have hl2:gb<gJ:=by exact hlJ
       clear hlJ
       try clear hZJ
       try clear hb
       revert hH
       revert hJ
       revert hl2
       revert gJ
       revert wn
       exact hNr1.out
      exact bC.nil
     case prfr1 =>
      intro wX gJ hl2 hJ hH;have hWr1:aH (S2 (fun w'=>EC w g n k L F M gx gy w'∧w'.cell? ⟨gb,2,none⟩=some (.int .i64 vx)∧w'.cell? ⟨gb,3,none⟩=some (.int .i64 vy))):=aK _;refine U1 13 1 rfl (fun K hK=>?_)
      try clear hb
      have hG:=hH;replace hG:=aA hG;(try dsimp only at hG);have fq0:=hG.1;have fq1:=hG.2.1;have fq2:=hG.2.2;have HFL:=hid fq0;have HJ:=hid hJ;obtain ⟨⟨vv0,vv1,y0,y1⟩,yf⟩:=hJ;clear hG fq0 fq1 fq2;go_simp;refine hK.out _ _ (dY) (fun hH2=>?_);clear hK K hH
      rename _=>hH
      try simp only [Act.put,sA,sB,sC]
      refine ak (by kernel_rfl) ?_ _ _;refine NoPanic.normal ?_;obtain ⟨w9,hw9⟩:∃ w9,w9=(wX.setCell ⟨gJ,0,none⟩ (.int .i64 s1)).setCell ⟨gJ,1,none⟩ (.int .i64 s2):=⟨_,rfl⟩;have hgj:w.heap.size<gJ:=by have:=HGB.out;omega
      have HF9:=hid ((HFL.out.set (o:=0) (v:=.int .i64 s1) hgj).set (o:=1) (v:=.int .i64 s2) hgj);have j0:w9.cell? ⟨gJ,0,none⟩=some (.int .i64 s1):=by rw [hw9];go_simp
      have j1:w9.cell? ⟨gJ,1,none⟩=some (.int .i64 s2):=by rw [hw9];go_simp
      rw [← hw9] at HF9;clear HFL HJ y0 y1 yf hgj
      try clear hH
      go_upto_region 6 with fail
      rw [← hw9];clear hw9;have hkM:k<M.length:=by rw [HF9.out.len];exact HKN.out
      obtain ⟨-,-,e2,e3,-⟩:=bK HF9.out.bl.cl hkM (HX.out hkM);have cf:=HF9.out.bl.free;have ld:=lt_of_cell e2;have lj:=lt_of_cell j0;have HR:=hid (HF9.out.store hkM (HX.out hkM) c1 c2 HFX.out HKN.out);have hmx1:=HMX1.out;have hmx2:=HMX2.out;have hmn1:=HMN1.out;have hmn2:=HMN2.out;clear HF9 hkM;go_wp2;go_roundw
      case rel=>exact ⟨k+1,_,hlt,by go_num,HR⟩
      case measure=>simp [intOf];omega
   ·have HR := hid (HFL5.out.next hlt HLK.out (by rw [HFE.out]; unfold jr; rw [if_neg (by simp [hm])]));clear HFL5 HLK HX C2 C3;go_wp2;go_roundw
    case rel=>exact ⟨k+1,M,hlt,by go_num,HR⟩
    case measure=>simp [intOf];omega
  ·have hke : n = k := by omega
   subst hke
   have HE:Hid (M=L.map F):=hid (by
    refine List.ext_getElem? fun j=>?_
    rw [List.getElem?_map]
    by_cases e:j<n
    ·rw [HW.out.at_ j e,if_pos e]
    ·rw [List.getElem?_eq_none (by rw [HW.out.len]; omega), List.getElem?_eq_none (by rw [← HL.out]; omega)]
     rfl)
   have HFIN:Hid (BL wo g (L.map (jr gx gy st))∧Out (fun k=>k=g) w wo):=hid ⟨by rw [← HFE.out,← HE.out];exact HW.out.bl,HW.out.out⟩;clear HW HE;go_wp2
   go_returns
   exact ⟨by simp,HFIN.out.1,HFIN.out.2⟩
theorem yu (x y:Nat) (hx:x<18446744073709551616) (hy:y<18446744073709551616) (w:World) :
  Calls Tryz.prog 181 #[.int .u64 x,.int .u64 y] w fun e w'=>e = .returned (.tuple #[.int .u64 ((x*y / 18446744073709551616:Nat):Int),.int .u64 ((x*y % 18446744073709551616:Nat):Int)])∧w'=w:=by
 have hm:=hid (bits_Mul64 x y hx hy)
 go_enter Tryz.func181,Tryz.ntmps181
 go_wp2_with (go_at_call 99;refine (hm.out _).mono ?_;rintro e w' ⟨rfl,hw⟩;rw [hw])
 go_returns
 exact ⟨rfl,rfl⟩

def zS (n:Nat) (v:Value) (w:World) (e:Ending) (w':World):Prop:=∃ gs,e = .returned (.slice (some ⟨gs,0,none⟩) n n)∧w.heap.size≤gs∧gs<w'.heap.size∧(∀ j,j<n→w'.cell? ⟨gs,j,none⟩=some v)∧(∀ j,w'.frozen? ⟨gs,j,none⟩=false)∧Below w.heap.size w w'

def yP (n k:Nat) (v z:Value):List Value:=List.replicate k v ++ List.replicate (n-k) z
theorem DU (n:Nat) (v z:Value):yP n 0 v z=List.replicate n z:=rfl
theorem wu {n k:Nat} (v z:Value) (h:k≤n):(yP n k v z).length=n:=by unfold yP;simp;omega
theorem sW {n k m:Nat} (v z:Value) (h:k+m≤n):splice (yP n k v z) k (List.replicate m v)=yP n (k+m) v z:=by
 unfold splice yP;rw [List.take_append_of_le_length (by simp),List.take_of_length_le (by simp),List.drop_append,List.length_replicate,List.length_replicate,List.drop_eq_nil_of_le (by simp),List.nil_append,List.drop_replicate,← List.append_assoc,List.replicate_append_replicate]
 congr 2
 omega
theorem Cb {n k j:Nat} {v z:Value} (h:j<k):(yP n k v z)[j]? = some v:=by
 unfold yP;rw [List.getElem?_append_left (by simpa using h),List.getElem?_replicate,if_pos h]
theorem oV:(Tryz.prog.info? 4).map (fun i=>(i.zero,i.size,i.bytes))=some (some (.bool false),1,1):=by kernel_rfl
theorem mV (n:Nat) (hn:n≤1000000) (w:World):(Instr.makeSlice 163 (.int .i64 (n:Int)) (.int .i64 (n:Int))).run Tryz.prog w = .ok (.slice (some ⟨w.heap.size,0,none⟩) n n) (w.alloc (.cells (List.replicate n (.bool false)).toArray 4)):=by
 obtain ⟨i0,hi,hz0,hz1,hz2⟩:=info_parts oV;have:=run_makeSlice (P:=Tryz.prog) w 163 4 i0 (.bool false) Tryz.underlying163 hi hz0 .i64 .i64 n n (by omega) (Int.le_refl _) (by rw [hz1];omega) (by rw [hz2];omega) (by omega);rw [this,hz1,Int.toNat_natCast,Nat.mul_one]
 have e:madeCells (Value.cells (.bool false)) n=(List.replicate n (.bool false)).toArray:=by
  have:=toList_madeCells_one (.bool false) n;rw [show Value.cells (.bool false)=#[.bool false] from rfl,← this]
 rw [e]
theorem qU (ga c n:Nat) (x:Bool) (w:World) (h0:w.cell? ⟨ga,0,none⟩=some (.bool x)) (hn:n≤1000) :
  Calls Tryz.prog 126 #[.slice (some ⟨ga,0,none⟩) 1 c,.int .i64 n] w (zS n (.bool x) w):=by
 obtain ⟨gs,hgs⟩:∃ g,g=w.heap.size:=⟨_,rfl⟩;obtain ⟨rep,hrep⟩:∃ x:Array Value,x=(List.replicate n (.bool false)).toArray:=⟨_,rfl⟩;obtain ⟨w1,hw1⟩:∃ y,y=w.alloc (.cells rep 4):=⟨_,rfl⟩;have hmk:∀ w:World,(Instr.makeSlice 163 (.int .i64 (n:Int)) (.int .i64 (n:Int))).run Tryz.prog w = .ok (.slice (some ⟨w.heap.size,0,none⟩) n n) (w.alloc (.cells rep 4)):=fun w=>by rw [hrep];exact mV n (by omega) w
 have hb1:Below w.heap.size w w1:=by rw [hw1];exact (Below.refl _ _).alloc (Nat.le_refl _) _
 have HR1:Hid (w1.heap[gs]? = some (.cells (yP n 0 (.bool x) (.bool false)).toArray 4 (0,0))):=hid (by rw [DU,← hrep,hw1,hgs];exact heap_alloc_new w _);have HB1:=hid hb1;have HC0:=hid (keepCell hb1 h0);have HG:=hid (show w.heap.size≤gs by omega);have hwu:IntKind.u64.wrap (n:Int)=(n:Int):=by rw [IntKind.wrap_u64];omega
 have hwi:IntKind.i64.wrap (n:Int)=(n:Int):=IntWalk.i64_in _ (by omega);have hge:¬ (n:Int)<0:=by omega
 have hle:¬ (9223372036854775807:Int)<(n:Int):=by omega
 have HM:Hid (∀ w,Calls Tryz.prog 181 #[.int .u64 1,.int .u64 n] w (fun e w'=>e = .returned (.tuple #[.int .u64 0,.int .u64 n])∧w'=w)):=hid (fun w=>(yu 1 n (by omega) (by omega) w).mono (by
  rintro e w' ⟨rfl,rfl⟩;refine ⟨?_,rfl⟩;rw [Nat.one_mul,Nat.mod_eq_of_lt (by omega),Nat.div_eq_of_lt (by omega)]
  rfl))
 obtain ⟨V,hV⟩:∃ V:Value,V = .bool x:=⟨_,rfl⟩;have h1c:V.oneCell'=true:=by rw [hV];rfl
 have HZI:Hid (Tryz.prog.underlying 163=some (.slice 4)∧(Tryz.prog.info? 4).map (·.size)=some 1):=hid ⟨Tryz.underlying163,by obtain ⟨i0,hi,hz0,hz1,hz2⟩:=info_parts oV;rw [hi];simp [hz1]⟩;rw [← hV] at HR1 HC0 ⊢;clear hb1 h0 hV hrep
 go_enter Tryz.func126,Tryz.ntmps126
 go_wp2_with fail
 refine (HM.out _).mono ?_;rintro e wm ⟨rfl,hwm⟩;rw [hwm];clear hwm HM
 go_upto_region 7 with fail
 rw [← hw1,← hgs];clear hw1 hgs hmk
 have HSRC:Hid (∀ j v,(List.replicate (min 1 n) V)[j]? = some v→w1.cell? ((⟨ga,0,none⟩:Addr).add j)=some v):=hid (fun j v hj=>by
  rw [List.getElem?_replicate] at hj
  split at hj
  ·rename_i hlt;obtain rfl:j=0:=by omega
   cases hj
   exact HC0.out
  ·cases hj)
 go_wp2_with (with_reducible refine wpList_copy_splice rfl _ _ _ _ rfl _ HZI.out.1 HZI.out.2 _ _ _ _ _ _ rfl rfl gs 0 _ _ HR1.out (List.replicate (min 1 n) V) (by simp) (fun h=>⟨rfl,_,rfl,HSRC.out⟩) (by rw [wu _ _ (Nat.zero_le _)];simp;omega) (by simp [h1c]) w.heap.size w HB1.out HG.out ?_;intro w4 hrow hbw;rw [sW _ _ (by omega),Nat.zero_add] at hrow;have HROW:=hrow;have HBW:=hid hbw;clear hrow hbw HR1 HB1 HSRC)
 go_loopw [8] (fun j wr=>∃ k:Nat,k≤n∧(0<n→0<k)∧j = .int .i64 k∧Hid (wr.heap[gs]? = some (.cells (yP n k V (.bool false)).toArray 4 (0,0))∧Below w.heap.size w wr)) (fun j _=>n-(intOf j).toNat)
 case atStart=>exact ⟨min 1 n,by omega,fun _=>by omega,by simp,hid ⟨HROW.out,HBW.out⟩⟩
 case round =>
  clear HROW HBW;obtain ⟨k,hk,hk0,rfl,HR⟩:=hrel;obtain ⟨wo,rfl⟩:∃ wo:World,wo=wr:=⟨_,rfl⟩
  by_cases hlt:k<n
  ·have hlt' : (k : Int) < (n : Int) := by omega
   obtain ⟨m,hm⟩:∃ m,m=min k (n-k):=⟨_,rfl⟩;have hm0:0<m:=by omega
   have hnk:¬ n=k:=by omega
   have HKM:=hid (show k+m≤n by omega);have hwk:IntKind.i64.wrap ((k:Int)+(m:Int))=(k:Int)+(m:Int):=IntWalk.i64_in _ (by omega)
   have HSRC:Hid (∀ wx:World,wx.heap[gs]? = some (.cells (yP n k V (.bool false)).toArray 4 (0,0))→∀ j v,(List.replicate m V)[j]? = some v→wx.cell? ((⟨gs,0,none⟩:Addr).add j)=some v):=hid (fun wx hx j v hj=>by
    rw [List.getElem?_replicate] at hj
    split at hj
    ·rename_i hjm
     cases hj
     have hadd:(⟨gs,0,none⟩:Addr).add j=⟨gs,j,none⟩:=by unfold Addr.add;split <;> simp_all
     rw [hadd];unfold World.cell?
     rw [hx];show (yP n k V (.bool false)).toArray[j]? = _;rw [List.getElem?_toArray];exact Cb (by omega)
    ·cases hj)
   have HM2:=hid hm;clear hm
   go_upto_region 9 with fail
   refine wp_region_noPanic ?_;refine au (S:=(S2 (fun w'=>Hid (w'.heap[gs]? = some (.cells (yP n k V (.bool false)).toArray 4 (0,0))∧Below w.heap.size w w')))) (T:=(fun j=>[0,0,0,0,0,0,0,1].getD j 0)) (by kernel_rfl) (aC (hid (And.intro HR.out.1 HR.out.2.drew))) (fun hH=>?_);have hWr1:aH (S2 (fun w'=>Hid (w'.heap[gs]? = some (.cells (yP n k V (.bool false)).toArray 4 (0,0))∧Below w.heap.size w w'))):=aK _;refine dn [(1,39),(2,40),(3,41),(4,42),(5,43),(6,44)] 4 0 0 (L':=?Lr1_1) hWr1 hH ?yr1_1 ?_
   case yr1_1=>((iterate 6 apply dA;rfl;kernel_rfl;intro w' hSw;clear hSw;(try simp only [sB,sC]);go_simp;(try with_reducible rfl));exact dw)
   simp only [sB,sC];refine Ut 0 38 3 1 0 (v:=?vr1_7) rfl hWr1 hH ?yr1_7 ?_
   case yr1_7=>(intro w' hSw;clear hSw;go_simp;try (with_reducible rfl))
   simp only [sB,sC];refine U1 7 1 rfl (fun K hK=>?_);have hG:=aA hH;have hrw:=hG.out.1;have hbw:=hG.out.2;clear hG
   (refine step_copy_splice (by rfl) _ _ _ _ (by rfl) _ HZI.out.1 HZI.out.2 _ _ _ _ _ _ (by rfl) (by rfl) gs k _ _ hrw (List.replicate m V) (by have:=HM2.out;simp;omega) (fun h=>⟨rfl,_,rfl,HSRC.out _ hrw⟩) (by have:=HKM.out;rw [wu _ _ (by omega)];simp;omega) (by simp [h1c]) w.heap.size w hbw HG.out ?_;intro w5 hrow hbw5)
   refine hK.out _ _ (dY) (fun hH2=>?_);clear hK K hH
   rename _=>hH
   try simp only [Act.put,List.getElem_toArray,List.getElem_cons_succ,List.getElem_cons_zero,sA,sB,sC]
   rw [sW _ _ HKM.out] at hrow;have HRN:=hid (And.intro hrow.out hbw5);clear hrow hbw5 hrw hbw;refine dn [(8,46),(9,8)] 0 1 1 (L':=?Lr1_9) hWr1 hH ?yr1_9 ?_
   case yr1_9=>((iterate 2 apply dA;rfl;kernel_rfl;intro w' hSw;clear hSw;(try simp only [sB,sC]);go_simp;(try with_reducible rfl));exact dw)
   simp only [sB,sC];refine ak (by kernel_rfl) ?_ _ _;refine NoPanic.normal ?_;clear hWr1 hH;go_wp2;go_roundw
   case rel=>exact ⟨k+m,by have:=HKM.out;omega,fun _=>by omega,by go_num,HRN⟩
   case measure=>simp [intOf];omega
  ·have hkn : n = k := by omega
   subst hkn
   have HFIN:Hid (zS n V w (.returned (.slice (some ⟨gs,0,none⟩) n n)) wo):=hid ⟨gs,rfl,HG.out,(Array.getElem?_eq_some_iff.1 HR.out.1).1,fun j hj=>by
    unfold World.cell?
    rw [HR.out.1];show (yP n n V (.bool false)).toArray[j]? = _;rw [List.getElem?_toArray]
    exact Cb hj,fun j=>by unfold World.frozen?;rw [HR.out.1];simp,HR.out.2⟩
   clear HR;go_wp2;refine bodyPost_ret (v:=.slice (some ⟨gs,0,none⟩) n n) (by simp [results,Tryz.results126,go_sem]) rfl HFIN.out
theorem pX:(Tryz.prog.info? 3).map (fun i=>(i.zero,i.size,i.bytes))=some (some (.int .i64 0),1,8):=by kernel_rfl
theorem vL (n:Nat) (hn:n≤1000000) (w:World):(Instr.makeSlice 45 (.int .i64 (n:Int)) (.int .i64 (n:Int))).run Tryz.prog w = .ok (.slice (some ⟨w.heap.size,0,none⟩) n n) (w.alloc (.cells (List.replicate n (.int .i64 0)).toArray 3)):=by
 obtain ⟨i0,hi,hz0,hz1,hz2⟩:=info_parts pX;have:=run_makeSlice (P:=Tryz.prog) w 45 3 i0 (.int .i64 0) Tryz.underlying45 hi hz0 .i64 .i64 n n (by omega) (Int.le_refl _) (by rw [hz1];omega) (by rw [hz2];omega) (by omega);rw [this,hz1,Int.toNat_natCast,Nat.mul_one]
 have e:madeCells (Value.cells (.int .i64 0)) n=(List.replicate n (.int .i64 0)).toArray:=by
  have:=toList_madeCells_one (.int .i64 0) n;rw [show Value.cells (.int .i64 0)=#[.int .i64 0] from rfl,← this]
 rw [e]
theorem BJ (ga c n:Nat) (x:Int) (w:World) (h0:w.cell? ⟨ga,0,none⟩=some (.int .i64 x)) (hn:n≤1000) :
  Calls Tryz.prog 119 #[.slice (some ⟨ga,0,none⟩) 1 c,.int .i64 n] w (zS n (.int .i64 x) w):=by
 obtain ⟨gs,hgs⟩:∃ g,g=w.heap.size:=⟨_,rfl⟩;obtain ⟨rep,hrep⟩:∃ x:Array Value,x=(List.replicate n (.int .i64 0)).toArray:=⟨_,rfl⟩;obtain ⟨w1,hw1⟩:∃ y,y=w.alloc (.cells rep 3):=⟨_,rfl⟩;have hmk:∀ w:World,(Instr.makeSlice 45 (.int .i64 (n:Int)) (.int .i64 (n:Int))).run Tryz.prog w = .ok (.slice (some ⟨w.heap.size,0,none⟩) n n) (w.alloc (.cells rep 3)):=fun w=>by rw [hrep];exact vL n (by omega) w
 have hb1:Below w.heap.size w w1:=by rw [hw1];exact (Below.refl _ _).alloc (Nat.le_refl _) _
 have HR1:Hid (w1.heap[gs]? = some (.cells (yP n 0 (.int .i64 x) (.int .i64 0)).toArray 3 (0,0))):=hid (by rw [DU,← hrep,hw1,hgs];exact heap_alloc_new w _);have HB1:=hid hb1;have HC0:=hid (keepCell hb1 h0);have HG:=hid (show w.heap.size≤gs by omega);have hwu:IntKind.u64.wrap (n:Int)=(n:Int):=by rw [IntKind.wrap_u64];omega
 have hwi:IntKind.i64.wrap (n:Int)=(n:Int):=IntWalk.i64_in _ (by omega);have hge:¬ (n:Int)<0:=by omega
 have hle:¬ (9223372036854775807:Int)<(n:Int):=by omega
 have HM:Hid (∀ w,Calls Tryz.prog 181 #[.int .u64 1,.int .u64 n] w (fun e w'=>e = .returned (.tuple #[.int .u64 0,.int .u64 n])∧w'=w)):=hid (fun w=>(yu 1 n (by omega) (by omega) w).mono (by
  rintro e w' ⟨rfl,rfl⟩;refine ⟨?_,rfl⟩;rw [Nat.one_mul,Nat.mod_eq_of_lt (by omega),Nat.div_eq_of_lt (by omega)]
  rfl))
 obtain ⟨V,hV⟩:∃ V:Value,V = .int .i64 x:=⟨_,rfl⟩;have h1c:V.oneCell'=true:=by rw [hV];rfl
 have HZI:Hid (Tryz.prog.underlying 45=some (.slice 3)∧(Tryz.prog.info? 3).map (·.size)=some 1):=hid ⟨Tryz.underlying45,by obtain ⟨i0,hi,hz0,hz1,hz2⟩:=info_parts pX;rw [hi];simp [hz1]⟩;rw [← hV] at HR1 HC0 ⊢;clear hb1 h0 hV hrep
 go_enter Tryz.func119,Tryz.ntmps119
 go_wp2_with fail
 refine (HM.out _).mono ?_;rintro e wm ⟨rfl,hwm⟩;rw [hwm];clear hwm HM
 go_upto_region 7 with fail
 rw [← hw1,← hgs];clear hw1 hgs hmk
 have HSRC:Hid (∀ j v,(List.replicate (min 1 n) V)[j]? = some v→w1.cell? ((⟨ga,0,none⟩:Addr).add j)=some v):=hid (fun j v hj=>by
  rw [List.getElem?_replicate] at hj
  split at hj
  ·rename_i hlt;obtain rfl:j=0:=by omega
   cases hj
   exact HC0.out
  ·cases hj)
 go_wp2_with (with_reducible refine wpList_copy_splice rfl _ _ _ _ rfl _ HZI.out.1 HZI.out.2 _ _ _ _ _ _ rfl rfl gs 0 _ _ HR1.out (List.replicate (min 1 n) V) (by simp) (fun h=>⟨rfl,_,rfl,HSRC.out⟩) (by rw [wu _ _ (Nat.zero_le _)];simp;omega) (by simp [h1c]) w.heap.size w HB1.out HG.out ?_;intro w4 hrow hbw;rw [sW _ _ (by omega),Nat.zero_add] at hrow;have HROW:=hrow;have HBW:=hid hbw;clear hrow hbw HR1 HB1 HSRC)
 go_loopw [8] (fun j wr=>∃ k:Nat,k≤n∧(0<n→0<k)∧j = .int .i64 k∧Hid (wr.heap[gs]? = some (.cells (yP n k V (.int .i64 0)).toArray 3 (0,0))∧Below w.heap.size w wr)) (fun j _=>n-(intOf j).toNat)
 case atStart=>exact ⟨min 1 n,by omega,fun _=>by omega,by simp,hid ⟨HROW.out,HBW.out⟩⟩
 case round =>
  clear HROW HBW;obtain ⟨k,hk,hk0,rfl,HR⟩:=hrel;obtain ⟨wo,rfl⟩:∃ wo:World,wo=wr:=⟨_,rfl⟩
  by_cases hlt:k<n
  ·have hlt' : (k : Int) < (n : Int) := by omega
   obtain ⟨m,hm⟩:∃ m,m=min k (n-k):=⟨_,rfl⟩;have hm0:0<m:=by omega
   have hnk:¬ n=k:=by omega
   have HKM:=hid (show k+m≤n by omega);have hwk:IntKind.i64.wrap ((k:Int)+(m:Int))=(k:Int)+(m:Int):=IntWalk.i64_in _ (by omega)
   have HSRC:Hid (∀ wx:World,wx.heap[gs]? = some (.cells (yP n k V (.int .i64 0)).toArray 3 (0,0))→∀ j v,(List.replicate m V)[j]? = some v→wx.cell? ((⟨gs,0,none⟩:Addr).add j)=some v):=hid (fun wx hx j v hj=>by
    rw [List.getElem?_replicate] at hj
    split at hj
    ·rename_i hjm
     cases hj
     have hadd:(⟨gs,0,none⟩:Addr).add j=⟨gs,j,none⟩:=by unfold Addr.add;split <;> simp_all
     rw [hadd];unfold World.cell?
     rw [hx];show (yP n k V (.int .i64 0)).toArray[j]? = _;rw [List.getElem?_toArray];exact Cb (by omega)
    ·cases hj)
   have HM2:=hid hm;clear hm
   go_upto_region 9 with fail
   refine wp_region_noPanic ?_;refine au (S:=(S2 (fun w'=>Hid (w'.heap[gs]? = some (.cells (yP n k V (.int .i64 0)).toArray 3 (0,0))∧Below w.heap.size w w')))) (T:=(fun j=>[0,0,0,0,0,0,0,1].getD j 0)) (by kernel_rfl) (aC (hid (And.intro HR.out.1 HR.out.2.drew))) (fun hH=>?_);have hWr2:aH (S2 (fun w'=>Hid (w'.heap[gs]? = some (.cells (yP n k V (.int .i64 0)).toArray 3 (0,0))∧Below w.heap.size w w'))):=aK _;refine dn [(1,39),(2,40),(3,41),(4,42),(5,43),(6,44)] 4 0 0 (L':=?Lr2_1) hWr2 hH ?yr2_1 ?_
   case yr2_1=>((iterate 6 apply dA;rfl;kernel_rfl;intro w' hSw;clear hSw;(try simp only [sB,sC]);go_simp;(try with_reducible rfl));exact dw)
   simp only [sB,sC];refine Ut 0 38 3 1 0 (v:=?vr2_7) rfl hWr2 hH ?yr2_7 ?_
   case yr2_7=>(intro w' hSw;clear hSw;go_simp;try (with_reducible rfl))
   simp only [sB,sC];refine U1 7 1 rfl (fun K hK=>?_);have hG:=aA hH;have hrw:=hG.out.1;have hbw:=hG.out.2;clear hG
   (refine step_copy_splice (by rfl) _ _ _ _ (by rfl) _ HZI.out.1 HZI.out.2 _ _ _ _ _ _ (by rfl) (by rfl) gs k _ _ hrw (List.replicate m V) (by have:=HM2.out;simp;omega) (fun h=>⟨rfl,_,rfl,HSRC.out _ hrw⟩) (by have:=HKM.out;rw [wu _ _ (by omega)];simp;omega) (by simp [h1c]) w.heap.size w hbw HG.out ?_;intro w5 hrow hbw5)
   refine hK.out _ _ (dY) (fun hH2=>?_);clear hK K hH
   rename _=>hH
   try simp only [Act.put,List.getElem_toArray,List.getElem_cons_succ,List.getElem_cons_zero,sA,sB,sC]
   rw [sW _ _ HKM.out] at hrow;have HRN:=hid (And.intro hrow.out hbw5);clear hrow hbw5 hrw hbw;refine dn [(8,46),(9,8)] 0 1 1 (L':=?Lr2_9) hWr2 hH ?yr2_9 ?_
   case yr2_9=>((iterate 2 apply dA;rfl;kernel_rfl;intro w' hSw;clear hSw;(try simp only [sB,sC]);go_simp;(try with_reducible rfl));exact dw)
   simp only [sB,sC];refine ak (by kernel_rfl) ?_ _ _;refine NoPanic.normal ?_;clear hWr2 hH;go_wp2;go_roundw
   case rel=>exact ⟨k+m,by have:=HKM.out;omega,fun _=>by omega,by go_num,HRN⟩
   case measure=>simp [intOf];omega
  ·have hkn : n = k := by omega
   subst hkn
   have HFIN:Hid (zS n V w (.returned (.slice (some ⟨gs,0,none⟩) n n)) wo):=hid ⟨gs,rfl,HG.out,(Array.getElem?_eq_some_iff.1 HR.out.1).1,fun j hj=>by
    unfold World.cell?
    rw [HR.out.1];show (yP n n V (.int .i64 0)).toArray[j]? = _;rw [List.getElem?_toArray]
    exact Cb hj,fun j=>by unfold World.frozen?;rw [HR.out.1];simp,HR.out.2⟩
   clear HR;go_wp2;refine bodyPost_ret (v:=.slice (some ⟨gs,0,none⟩) n n) (by simp [results,Tryz.results119,go_sem]) rfl HFIN.out
end
end Go.Proofs.YtokgmcomgflloaaGreat
