/- Parts of a proof: contracts and laws. -/
import Derived.Test.YtodpincpofoiiaaGreatQM23
import Derived.Test.YtodpincpofoiiaaGreatQM03
import Derived.Test.YtodpincpofoiiaaGreatQM07
import Derived.Test.YtodpincpofoiiaaGreatQM22
set_option maxRecDepth 100000
set_option maxHeartbeats 16000000
namespace Go.Proofs.YtodpincpofoiiaaGreat
section
set_option linter.unusedVariables false
set_option linter.unusedSimpArgs false
open Go.RowKit

def axN1 (l m:List V) (s:Option Ax):Int:=match s with | none=>0 | some a=>if a.1=true then -nrmX m a.2.1 else nrmX l a.2.1
def axN2 (l m:List V) (s:Option Ax):Int:=match s with | none=>0 | some a=>if a.1=true then -nrmY m a.2.1 else nrmY l a.2.1
def tstX (l m:List V):Int:=if meetsB l m=true then unitX (axN1 l m (leastO l m)) (axN2 l m (leastO l m)) else 0
def tstY (l m:List V):Int:=if meetsB l m=true then unitY (axN1 l m (leastO l m)) (axN2 l m (leastO l m)) else 0
def tstD (l m:List V):Int:=axD (leastO l m)
theorem axUp_some (s:Option Ax) (sec:Bool) (i:Nat) (d:Int):∃ a,axUp s sec i d=some a∧(a=(sec,i,d)∨s=some a):=by
 cases s with
 | none=>exact ⟨_,rfl,.inl rfl⟩
 | some a =>
  unfold axUp
  dsimp only
  split
  ·exact ⟨_,rfl,.inl rfl⟩
  ·exact ⟨_,rfl,.inr rfl⟩
theorem axTo_some (l m : List V) (sec : Bool) (s : Option Ax) : ∀ k, 0 < k → ∃ a, axTo l m sec s k = some a ∧ ((a.1 = sec ∧ a.2.1 < k) ∨ s = some a)
 | 0,h=>absurd h (by omega)
 | k+1,_=>by
  rw [axTo]
  obtain ⟨a,h1,h2⟩:=axUp_some (axTo l m sec s k) sec k (depZ l m k)
  refine ⟨a,h1,?_⟩
  rcases h2 with rfl | h2
  ·exact .inl ⟨rfl,by simp⟩
  ·rcases Nat.eq_zero_or_pos k with rfl | hk
   ·exact .inr h2
   ·obtain ⟨a', h3, h4⟩ := axTo_some l m sec s k hk
    rw [h2] at h3
    cases h3
    rcases h4 with ⟨g1,g2⟩ | h4
    ·exact .inl ⟨g1,by omega⟩
    ·exact .inr h4
theorem least_some {l m:List V} (h:meetsB l m=true):∃ s e d,leastO l m=some (s,e,d)∧(s=true→e<m.length)∧(s=false→e<l.length):=by
 have h0:=h
 unfold meetsB at h0
 rw [decide_eq_true_iff] at h0
 have hE:=h0.1
 obtain ⟨hc1,hc2⟩:checkE l=0∧checkE m=0:=by unfold bothE at hE;split at hE <;> omega
 obtain ⟨-,l3,-⟩:=checkE_zero hc1
 obtain ⟨-,m3,-⟩:=checkE_zero hc2
 unfold leastO
 rw [if_pos h,show stL l m 2=axTo m l true (axTo l m false none l.length) m.length from by simp [stL]]
 obtain ⟨a,h1,h2⟩:=axTo_some m l true (axTo l m false none l.length) m.length (by omega)
 obtain ⟨b,h3,h4⟩:=axTo_some l m false none l.length (by omega)
 refine ⟨a.1,a.2.1,a.2.2,h1,?_⟩
 rcases h2 with ⟨g1,g2⟩ | h2
 ·exact ⟨fun _=>g2,fun g=>by rw [g] at g1;cases g1⟩
 ·rw [h3] at h2
  cases h2
  rcases h4 with ⟨g1,g2⟩ | h4
  ·exact ⟨fun g=>(by rw [g] at g1;cases g1),fun _=>g2⟩
  ·cases h4
theorem AxAt.here' (w:World) (s:Bool) (e:Nat) (d:Int) (t:TypeId):AxAt (w.alloc (.cells #[.bool s,.int .i64 e,.int .i64 d] t)) w.heap.size (some (s,e,d)):=⟨by go_simp;rfl,by go_simp;rfl,by go_simp;rfl,fun j=>by go_simp⟩
theorem AxAt.drew {w:World} {g:Nat} {s:Option Ax} (h:AxAt w g s):AxAt w.drew g s:=⟨h.c0,h.c1,h.c2,h.free⟩
theorem test_calls (A B:Option Addr) (n c n' c':Nat) (l m:List V) (w:World) (hS:Sl w A n c l) (hM:Sl w B n' c' m) :
  Calls Tryz.prog 37 #[.slice A n c,.slice B n' c'] w (Ret (.tuple #[.bool (meetsB l m),.int .i64 (tstD l m),vecV (tstX l m) (tstY l m)]) w):=by
 have HS:=hid hS
 have HM:=hid hM
 have hn:=hS.len
 have hn':=hM.len
 subst hn hn'
 clear hS hM
 obtain ⟨W,hW⟩:∃ W,W=w.alloc (.cells #[.int .i64 0,.int .i64 0] 24):=⟨_,rfl⟩
 have HZ0:=hid (show VZ W w.heap.size by rw [hW];exact VZ.here w 0 0 _)
 have hB0:Below w.heap.size w W:=by rw [hW];go_grown
 go_enter Tryz.func37,Tryz.ntmps37
 go_wp2_with fail
 rw [← hW]
 clear hW
 refine (least_calls A B l.length c m.length c' l m _ (HS.out.below hB0) (HM.out.below hB0)).mono ?_
 rintro e w1 ⟨rfl,hb1⟩
 have HZ1:=hid (keepVZ hb1 HZ0.out)
 have hB1:=keepBelow hb1 hB0
 clear HZ0 hB0 hb1
 by_cases hm:meetsB l m=true
 ·obtain ⟨s, e0, d0, hO, hs1, hs2⟩ := least_some hm
  have HR:Hid (meetsB l m=true∧tstD l m=d0∧tstX l m=unitX (axN1 l m (some (s,e0,d0))) (axN2 l m (some (s,e0,d0)))∧tstY l m=unitY (axN1 l m (some (s,e0,d0))) (axN2 l m (some (s,e0,d0)))):=⟨hm,by unfold tstD;rw [hO];rfl,by unfold tstX;rw [if_pos hm,hO],by unfold tstY;rw [if_pos hm,hO]⟩
  have hE:bothE l m=0:=by unfold meetsB at hm;rw [decide_eq_true_iff] at hm;exact hm.1
  obtain ⟨hc1,hc2⟩:checkE l=0∧checkE m=0:=by unfold bothE at hE;split at hE <;> omega
  obtain ⟨hl8,hl3,hlw,-⟩:=checkE_zero hc1
  obtain ⟨hm8,hm3,hmw,-⟩:=checkE_zero hc2
  have HLW:=hid hlw
  have HMW:=hid hmw
  have HEL:=hid hs2
  have HEM:=hid hs1
  rw [hO,hE,hm]
  clear hm hO hE hs1 hs2 hc1 hc2 hlw hmw
  simp only [axV,axS,axE,axD]
  go_upto_region 4 with fail
  obtain ⟨gx,hgx⟩:∃ g,g=w1.heap.size:=⟨_,rfl⟩
  obtain ⟨w2,hw2⟩:∃ w2,w2=w1.alloc (.cells #[.bool s,.int .i64 e0,.int .i64 d0] 134):=⟨_,rfl⟩
  have hx:AxAt w2 gx (some (s,e0,d0)):=by rw [hw2,hgx];exact AxAt.here' _ _ _ _ _
  have hz:VZ w2 w.heap.size:=by rw [hw2];exact HZ1.out.alloc _
  have hB:Below w.heap.size w w2:=by rw [hw2];exact hB1.alloc hB1.size _
  have hgl:w.heap.size<gx:=by rw [hgx];exact HZ1.out.lt
  rw [← hw2,← hgx]
  clear hw2 hgx HZ1 hB1
  cases s with
  | true =>
   have hem:=HEM.out rfl
   obtain ⟨bn1,bn2⟩:=nrm_bd HMW.out hem
   have HNM:=hid (normal_calls B m.length c' m e0 w2 (HM.out.below hB) HMW.out hm3 hm8 hem)
   have hr1:axN1 l m (some (true,e0,d0)) = -nrmX m e0:=rfl
   have hr2:axN2 l m (some (true,e0,d0)) = -nrmY m e0:=rfl
   rw [hr1,hr2] at HR
   obtain ⟨n1,hn1⟩:∃ z,z=nrmX m e0:=⟨_,rfl⟩
   obtain ⟨n2,hn2⟩:∃ z,z=nrmY m e0:=⟨_,rfl⟩
   rw [← hn1] at bn1 HNM HR
   rw [← hn2] at bn2 HNM HR
   have v1:IntKind.i64.wrap (-n1) = -n1:=IntWalk.i64_in _ (by omega)
   have v2:IntKind.i64.wrap (-n2) = -n2:=IntWalk.i64_in _ (by omega)
   have HX:=hid hx
   obtain ⟨x0,x1,x2,xf⟩:=hx
   dsimp only [axS,axE,axD] at x0 x1 x2
   clear hr1 hr2 hn1 hn2
   go_wp2_with fail
   refine HNM.out.mono ?_
   rintro e w3 ⟨rfl,hb3⟩
   obtain ⟨gn,hgn⟩:∃ g,g=w3.heap.size:=⟨_,rfl⟩
   obtain ⟨w4,hw4⟩:∃ w4,w4=w3.alloc (.cells #[.int .i64 n1,.int .i64 n2] 24):=⟨_,rfl⟩
   have r1:w4.cell? ⟨gn,0,none⟩=some (.int .i64 n1):=by rw [hw4,hgn];go_simp
   have r2:w4.cell? ⟨gn,1,none⟩=some (.int .i64 n2):=by rw [hw4,hgn];go_simp
   replace hz:VZ w4 w.heap.size:=by rw [hw4];exact (keepVZ hb3 hz).alloc _
   have hx:AxAt w4 gx (some (true,e0,d0)):=by rw [hw4];exact keepAx Ba (keepAx hb3 HX.out)
   replace hB:Below w.heap.size w w4:=by rw [hw4];exact (keepBelow hb3 hB).alloc (keepBelow hb3 hB).size _
   clear x0 x1 x2 xf HX HNM
   go_upto_region 6 with fail
   rw [← hw4,← hgn]
   clear hw4 hgn hb3
   clear hgl HS HM HLW HMW HEL HEM
   refine wp_region_noPanic ?_
   refine wp_region_U (S:=(S2 (fun w'=>VZ w' w.heap.size∧AxAt w' gx (some (true,e0,d0))∧Below w.heap.size w w'∧w'.cell? ⟨gn,0,none⟩=some (.int .i64 n1)∧w'.cell? ⟨gn,1,none⟩=some (.int .i64 n2)))) (T:=(fun j=>[0,0,0,0,0,0,0,0,0,0,0,0,1].getD j 0)) (by kernel_rfl) (S2i0 ⟨hz.drew,hx.drew,hB.drew,r1,r2⟩) (fun hH=>?_)
   have hWr1:Weaker (S2 (fun w'=>VZ w' w.heap.size∧AxAt w' gx (some (true,e0,d0))∧Below w.heap.size w w'∧w'.cell? ⟨gn,0,none⟩=some (.int .i64 n1)∧w'.cell? ⟨gn,1,none⟩=some (.int .i64 n2))):=weaker2 _
   refine Utn [(0,31),(1,32),(2,33),(3,34),(4,35),(5,36),(6,37),(7,38),(8,39)] 4 0 0 (L':=?Lr1_1) hWr1 hH ?hyr1_1 ?_
   case hyr1_1=>((iterate 9 apply tkC;rfl;kernel_rfl;intro w' hSw;replace hSw:=S2o0 hSw;(try dsimp only at hSw);have q0:=hSw.1;have q1:=hSw.2.1;have q2:=hSw.2.2.1;have q3:=hSw.2.2.2.1;have q4:=hSw.2.2.2.2;obtain ⟨qa1_0,qa1_1,qa1_2,qa1_f⟩:=id q1;(try simp only [sB,sC]);go_simp;(try with_reducible rfl));exact tkN)
   simp only [sB,sC]
   refine U1 9 0 rfl (fun K hK=>?_)
   try clear hb
   go_simp
   (go_at_call 92;refine (unit_calls (-n1) (-n2) _).mono ?_;rintro e wn ⟨rfl,hb⟩)
   refine hK.out _ _ ?hsr1_10 (fun hH2=>?hrr1_10)
   case hsr1_10=>exact S2i0 (by have hG:=hH;replace hG:=S2o0 hG;(try dsimp only at hG);have q0:=hG.1;have q1:=hG.2.1;have q2:=hG.2.2.1;have q3:=hG.2.2.2.1;have q4:=hG.2.2.2.2;exact ⟨keepVZ hb q0,keepAx hb q1,keepBelow hb q2,keepCell hb q3,keepCell hb q4⟩)
   clear hK K hH
   have hH:=hH2
   clear hH2
   try simp only [Act.put,sA,sB,sC]
   refine Utn [(10,4),(11,5)] 1 0 0 (L':=?Lr1_11) hWr1 hH ?hyr1_11 ?_
   case hyr1_11=>((iterate 2 apply tkC;rfl;kernel_rfl;intro w' hSw;clear hSw;(try simp only [sB,sC]);go_simp;(try with_reducible rfl));exact tkN)
   simp only [sB,sC]
   refine U1 12 1 rfl (fun K hK=>?_)
   have hG:=hH
   replace hG:=S2o0 hG;(try dsimp only at hG);have q0:=hG.1;have q1:=hG.2.1;have q2:=hG.2.2.1;have q3:=hG.2.2.2.1;have q4:=hG.2.2.2.2
   obtain ⟨⟨z0,z1,y0,y1⟩,yf⟩:=q0
   obtain ⟨v0,v1,v2,vf⟩:=q1
   go_simp
   refine hK.out _ _ ?hsr1_13 (fun hH2=>?hrr1_13)
   case hsr1_13=>exact S2i1
   clear hK K hH
   have hH:=hH2
   clear hH2
   try simp only [Act.put,sA,sB,sC]
   refine wpAnyU_done (by kernel_rfl) ?_ _ _
   refine NoPanic.normal ?_
   generalize unitX (-n1) (-n2)=u0 at *
   generalize unitY (-n1) (-n2)=u1 at *
   go_wp2_with fail
   refine bodyPost_ret (v:=.tuple #[.bool true,.int .i64 d0,vecV u0 u1]) (by simp [results,Tryz.results37,go_sem,axD,y0,y1]) rfl ⟨by rw [HR.out.1,HR.out.2.1,HR.out.2.2.1,HR.out.2.2.2],by go_grown⟩
  | false =>
   have hel:=HEL.out rfl
   obtain ⟨bn1,bn2⟩:=nrm_bd HLW.out hel
   have HX:=hid hx
   obtain ⟨x0,x1,x2,xf⟩:=hx
   dsimp only [axS,axE,axD] at x0 x1 x2
   have hr1:axN1 l m (some (false,e0,d0))=nrmX l e0:=rfl
   have hr2:axN2 l m (some (false,e0,d0))=nrmY l e0:=rfl
   rw [hr1,hr2] at HR
   clear hr1 hr2
   go_upto_region 7 with fail
   clear x0 x1 x2 xf HM HMW HEM
   have HNM:Hid (∀ wo,Below w.heap.size w wo→Calls Tryz.prog 91 #[.slice A l.length c,.int .i64 e0] wo (Ret (vecV (nrmX l e0) (nrmY l e0)) wo)):=fun wo h=>normal_calls A l.length c l e0 wo (HS.out.below h) HLW.out hl3 hl8 hel
   generalize nrmX l e0=n1 at *
   generalize nrmY l e0=n2 at *
   refine wp_region_noPanic ?_
   refine wp_region_U (S:=(S2 (fun w'=>VZ w' w.heap.size∧AxAt w' gx (some (false,e0,d0))∧Below w.heap.size w w'))) (T:=(fun j=>[0,0,0,0,0,0,0,0,0,1].getD j 0)) (by kernel_rfl) (S2i0 ⟨hz.drew,HX.out.drew,hB.drew⟩) (fun hH=>?_)
   have hWr2:Weaker (S2 (fun w'=>VZ w' w.heap.size∧AxAt w' gx (some (false,e0,d0))∧Below w.heap.size w w')):=weaker2 _
   refine Utn [(0,41),(1,42),(2,43),(3,44),(4,45)] 5 0 0 (L':=?Lr2_1) hWr2 hH ?hyr2_1 ?_
   case hyr2_1=>((iterate 5 apply tkC;rfl;kernel_rfl;intro w' hSw;replace hSw:=S2o0 hSw;(try dsimp only at hSw);have q0:=hSw.1;have q1:=hSw.2.1;have q2:=hSw.2.2;obtain ⟨qa1_0,qa1_1,qa1_2,qa1_f⟩:=id q1;(try simp only [sB,sC]);go_simp;(try with_reducible rfl));exact tkN)
   simp only [sB,sC]
   refine U1 5 0 rfl (fun K hK=>?_)
   try clear hb
   go_simp
   (go_at_call 91;refine (HNM.out _ (by have hG:=S2o0 hH;(try dsimp only at hG);exact hG.2.2)).mono ?_;rintro e wn ⟨rfl,hb⟩)
   refine hK.out _ _ ?hsr2_6 (fun hH2=>?hrr2_6)
   case hsr2_6=>exact S2i0 (by have hG:=hH;replace hG:=S2o0 hG;(try dsimp only at hG);have q0:=hG.1;have q1:=hG.2.1;have q2:=hG.2.2;exact ⟨keepVZ hb q0,keepAx hb q1,keepBelow hb q2⟩)
   clear hK K hH
   have hH:=hH2
   clear hH2
   try simp only [Act.put,sA,sB,sC]
   refine U1 6 0 rfl (fun K hK=>?_)
   try clear hb
   go_simp
   (go_at_call 92;refine (unit_calls n1 n2 _).mono ?_;rintro e wn ⟨rfl,hb⟩)
   refine hK.out _ _ ?hsr2_7 (fun hH2=>?hrr2_7)
   case hsr2_7=>exact S2i0 (by have hG:=hH;replace hG:=S2o0 hG;(try dsimp only at hG);have q0:=hG.1;have q1:=hG.2.1;have q2:=hG.2.2;exact ⟨keepVZ hb q0,keepAx hb q1,keepBelow hb q2⟩)
   clear hK K hH
   have hH:=hH2
   clear hH2
   try simp only [Act.put,sA,sB,sC]
   refine Utn [(7,4),(8,5)] 1 0 0 (L':=?Lr2_8) hWr2 hH ?hyr2_8 ?_
   case hyr2_8=>((iterate 2 apply tkC;rfl;kernel_rfl;intro w' hSw;clear hSw;(try simp only [sB,sC]);go_simp;(try with_reducible rfl));exact tkN)
   simp only [sB,sC]
   refine U1 9 1 rfl (fun K hK=>?_)
   have hG:=hH
   replace hG:=S2o0 hG;(try dsimp only at hG);have q0:=hG.1;have q1:=hG.2.1;have q2:=hG.2.2
   obtain ⟨⟨z0,z1,y0,y1⟩,yf⟩:=q0
   obtain ⟨v0,v1,v2,vf⟩:=q1
   go_simp
   refine hK.out _ _ ?hsr2_10 (fun hH2=>?hrr2_10)
   case hsr2_10=>exact S2i1
   clear hK K hH
   have hH:=hH2
   clear hH2
   try simp only [Act.put,sA,sB,sC]
   refine wpAnyU_done (by kernel_rfl) ?_ _ _
   refine NoPanic.normal ?_
   generalize unitX n1 n2=u0 at *
   generalize unitY n1 n2=u1 at *
   go_wp2_with fail
   refine bodyPost_ret (v:=.tuple #[.bool true,.int .i64 d0,vecV u0 u1]) (by simp [results,Tryz.results37,go_sem,axD,y0,y1]) rfl ⟨by rw [HR.out.1,HR.out.2.1,HR.out.2.2.1,HR.out.2.2.2],by go_grown⟩
 ·have HR:Hid (meetsB l m=false∧tstD l m=0∧tstX l m=0∧tstY l m=0):=by
   have h:leastO l m=none:=by unfold leastO;rw [if_neg hm]
   exact ⟨by simpa using hm,by unfold tstD;rw [h];rfl,by unfold tstX;rw [if_neg hm],by unfold tstY;rw [if_neg hm]⟩
  have hO:leastO l m=none:=by unfold leastO;rw [if_neg hm]
  have hmf:meetsB l m=false:=by simpa using hm
  rw [hO,hmf]
  obtain ⟨⟨z0,z1,y0,y1⟩,yf⟩:=HZ1.out
  have hlt:=HZ1.out.lt
  clear hm hO hmf
  simp only [axV,axS,axE,axD]
  by_cases hE:bothE l m=0
  ·rw [hE]
   clear hE
   go_wp2
   refine bodyPost_ret (v:=.tuple #[.bool false,.int .i64 0,vecV 0 0]) (by simp [results,Tryz.results37,go_sem,hlt,y0,y1]) rfl ⟨by rw [HR.out.1,HR.out.2.1,HR.out.2.2.1,HR.out.2.2.2],by go_grown⟩
  ·have hEb : (bothE l m != 0) = true := by simp [hE]
   clear hE
   go_wp2
   refine bodyPost_ret (v:=.tuple #[.bool false,.int .i64 0,vecV 0 0]) (by simp [results,Tryz.results37,go_sem,hlt,y0,y1]) rfl ⟨by rw [HR.out.1,HR.out.2.1,HR.out.2.2.1,HR.out.2.2.2],by go_grown⟩
end
end Go.Proofs.YtodpincpofoiiaaGreat
namespace Go.Proofs.YtodpincpofoiiaaGreat
section
set_option linter.unusedVariables false
set_option linter.unusedSimpArgs false
open Go.RowKit
section
variable {l m:List V} {u v:Int}
theorem bothE_zero {a b:List V}:bothE a b=0↔checkE a=0∧checkE b=0:=by
 unfold bothE
 split <;> omega
end





theorem nrm_ne {l:List V} (h:checkE l=0) {i:Nat} (hi:i<l.length):nrmX l i≠0∨nrmY l i≠0:=by
 obtain ⟨h8,h3,_,hr⟩:=checkE_zero h
 rcases Decidable.em (nrmX l i=0∧nrmY l i=0) with ⟨a,b⟩ | g
 ·exfalso
  have k2:(i+2) % l.length<l.length:=Nat.mod_lt _ (by omega)
  have:=hr i hi ((i+2) % l.length) k2
  unfold edgeBad at this
  rw [decide_eq_false_iff_not] at this
  apply this
  have a1:(i+2) % l.length≠i % l.length:=fun g=>by
   have:=Nat.sub_mod_eq_zero_of_mod_eq g
   rw [show i+2-i=2 by omega,Nat.mod_eq_of_lt (by omega)] at this
   omega
  have a2:(i+2) % l.length≠(i+1) % l.length:=fun g=>by
   have:=Nat.sub_mod_eq_zero_of_mod_eq g
   rw [show i+2-(i+1)=1 by omega,Nat.mod_eq_of_lt (by omega)] at this
   omega
  rw [Nat.mod_eq_of_lt hi] at a1
  refine ⟨a1,a2,?_⟩
  unfold nrmX at a
  unfold nrmY at b
  unfold sideL sideZ
  rw [show px l ((i+1) % l.length)-px l i=0 by omega,show py l ((i+1) % l.length)-py l i=0 by omega]
  simp
 ·omega


end
end Go.Proofs.YtodpincpofoiiaaGreat
namespace Go.Proofs.YtodpincpofoiiaaGreat
section
set_option linter.unusedVariables false
set_option linter.unusedSimpArgs false
open Go.RowKit
theorem axTo_dep (l m : List V) (sec : Bool) (s : Option Ax) : ∀ k, 0 < k → ∃ a, axTo l m sec s k = some a ∧ ((a.1 = sec ∧ a.2.1 < k ∧ a.2.2 = depZ l m a.2.1) ∨ s = some a)
 | 0,h=>absurd h (by omega)
 | k+1,_=>by
  rw [axTo]
  obtain ⟨a,h1,h2⟩:=axUp_some (axTo l m sec s k) sec k (depZ l m k)
  refine ⟨a,h1,?_⟩
  rcases h2 with rfl | h2
  ·exact .inl ⟨rfl,by simp,rfl⟩
  ·rcases Nat.eq_zero_or_pos k with rfl | hk
   ·exact .inr h2
   ·obtain ⟨a', h3, h4⟩ := axTo_dep l m sec s k hk
    rw [h2] at h3
    cases h3
    rcases h4 with ⟨g1,g2,g3⟩ | h4
    ·exact .inl ⟨g1,by omega,g3⟩
    ·exact .inr h4
theorem least_dep {l m:List V} (h:meetsB l m=true):∃ s e d,leastO l m=some (s,e,d)∧(s=true→e<m.length∧d=depZ m l e)∧(s=false→e<l.length∧d=depZ l m e):=by
 have h0:=h
 unfold meetsB at h0
 rw [decide_eq_true_iff] at h0
 obtain ⟨hc1,hc2⟩:=bothE_zero.1 h0.1
 obtain ⟨-,l3,-⟩:=checkE_zero hc1
 obtain ⟨-,m3,-⟩:=checkE_zero hc2
 unfold leastO
 rw [if_pos h,show stL l m 2=axTo m l true (axTo l m false none l.length) m.length from by simp [stL]]
 obtain ⟨a,h1,h2⟩:=axTo_dep m l true (axTo l m false none l.length) m.length (by omega)
 obtain ⟨b,h3,h4⟩:=axTo_dep l m false none l.length (by omega)
 refine ⟨a.1,a.2.1,a.2.2,h1,?_⟩
 rcases h2 with ⟨g1,g2,g3⟩ | h2
 ·exact ⟨fun _=>⟨g2,g3⟩,fun g=>by rw [g] at g1;cases g1⟩
 ·rw [h3] at h2
  cases h2
  rcases h4 with ⟨g1,g2,g3⟩ | h4
  ·exact ⟨fun g=>(by rw [g] at g1;cases g1),fun _=>⟨g2,g3⟩⟩
  ·cases h4
theorem deepTo_mem (l m : List V) (i : Nat) : ∀ k, ∃ j, j ≤ k ∧ deepTo l m i k = dpt l m i j
 | 0=>⟨0,Nat.le_refl _,rfl⟩
 | k+1=>by
  rw [deepTo]
  split
  ·exact ⟨k+1,Nat.le_refl _,rfl⟩
  ·obtain ⟨j, h1, h2⟩ := deepTo_mem l m i k
   exact ⟨j,by omega,h2⟩


end
end Go.Proofs.YtodpincpofoiiaaGreat
namespace Go.Proofs.YtodpincpofoiiaaGreat
section
set_option linter.unusedVariables false
set_option linter.unusedSimpArgs false
open Go.RowKit

theorem overQ_rnd {d L:Int} (hL:0<L) (hd : -34359738368000000≤d∧d≤34359738368000000):overQ d L=(2*d+L) / (2*L):=by
 have e:rnd d L=(2*d+L) / (2*L):=by unfold rnd;rw [if_neg (by omega)]
 have q1:(2*d+L) / (2*L)≤34359738368000001:=by
  have:(2*d+L) / (2*L)<34359738368000002:=Int.ediv_lt_of_lt_mul (by omega) (by have:=Int.mul_le_mul_of_nonneg_left (show 1≤L by omega) (show (0:Int)≤2*34359738368000002 by omega);omega)
  omega
 have q0 : -34359738368000001≤(2*d+L) / (2*L):=by
  have:=(Int.le_ediv_iff_mul_le (show 0<2*L by omega) (a := -34359738368000001) (b:=2*d+L)).2 (by have:=Int.mul_le_mul_of_nonneg_left (show 1≤L by omega) (show (0:Int)≤2*34359738368000001 by omega);omega)
  exact this
 unfold overQ
 rw [if_neg (by omega),e,if_pos (by omega)]

def rD (s:Option Ax):Int:=match s with | none => -1 | some a=>a.2.2
structure AxC (w : World) (g : Nat) (s : Bool) (e d : Int) : Prop where
 c0:w.cell? ⟨g,0,none⟩=some (.bool s)
 c1:w.cell? ⟨g,1,none⟩=some (.int .i64 e)
 c2:w.cell? ⟨g,2,none⟩=some (.int .i64 d)
 free:∀ j,w.frozen? ⟨g,j,none⟩=false
theorem AxC.keep {w w':World} {g:Nat} {s:Bool} {e d:Int} (hb:Below w.heap.size w w') (h:AxC w g s e d):AxC w' g s e d :=
 ⟨keepCell hb h.c0,keepCell hb h.c1,keepCell hb h.c2,fun j=>((bcell hb).2 _ _ (lt_of_cell h.c0)).trans (h.free j)⟩
theorem AxC.here (w:World) (s:Bool) (e d:Int) (t:TypeId):AxC (w.alloc (.cells #[.bool s,.int .i64 e,.int .i64 d] t)) w.heap.size s e d:=⟨by go_simp,by go_simp,by go_simp,fun j=>by go_simp⟩
theorem AxC.away {w:World} {g:Nat} {s:Bool} {e d:Int} (h:AxC w g s e d) (k o:Nat) (v:Value) (hne:k≠g):AxC (w.setCell ⟨k,o,none⟩ v) g s e d :=
 ⟨far1 hne h.c0,far1 hne h.c1,far1 hne h.c2,fun j=>by rw [World.frozen?_setCell];exact h.free j⟩
theorem AxC.set {w:World} {g:Nat} {s:Bool} {e d:Int} (h:AxC w g s e d) (s':Bool) (e' d':Int):AxC (((w.setCell ⟨g,0,none⟩ (.bool s')).setCell ⟨g,1,none⟩ (.int .i64 e')).setCell ⟨g,2,none⟩ (.int .i64 d')) g s' e' d':=by
 obtain ⟨h0,h1,h2,hf⟩:=h
 exact ⟨by go_simp,by go_simp,by go_simp,fun j=>by go_simp⟩
structure RW (w0 : World) (s : Option Ax) (w : World) : Prop where
 r:AxC w w0.heap.size false 0 0
 b:AxC w (w0.heap.size+1) (axS s) (axE s) (rD s)
 bel:Below w0.heap.size w0 w
 le:w0.heap.size+1<w.heap.size
theorem RW.keep {w0:World} {s:Option Ax} {w w':World} (hb:Below w.heap.size w w') (h:RW w0 s w):RW w0 s w':=⟨h.r.keep hb,h.b.keep hb,keepBelow hb h.bel,Nat.lt_of_lt_of_le h.le hb.size⟩
theorem RW.set {w0:World} {s:Option Ax} {w:World} (h:RW w0 s w) (t:Option Ax):RW w0 t (((w.setCell ⟨w0.heap.size+1,0,none⟩ (.bool (axS t))).setCell ⟨w0.heap.size+1,1,none⟩ (.int .i64 (axE t))).setCell ⟨w0.heap.size+1,2,none⟩ (.int .i64 (rD t))) :=
 ⟨((h.r.away _ _ _ (by omega)).away _ _ _ (by omega)).away _ _ _ (by omega),h.b.set _ _ _,((h.bel.setCell (p:=⟨w0.heap.size+1,0,none⟩) (Nat.le_succ _) _).setCell (p:=⟨w0.heap.size+1,1,none⟩) (Nat.le_succ _) _).setCell (p:=⟨w0.heap.size+1,2,none⟩) (Nat.le_succ _) _,by simpa [World.setCell] using h.le⟩
end
end Go.Proofs.YtodpincpofoiiaaGreat
