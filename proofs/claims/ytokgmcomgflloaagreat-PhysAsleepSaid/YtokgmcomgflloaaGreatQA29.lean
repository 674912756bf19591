/- Parts of a proof: contracts and laws. -/
import Derived.Test.YtokgmcomgflloaaGreatQA28
import Derived.Test.YtokgmcomgflloaaGreatQA02
import Derived.Test.YtokgmcomgflloaaGreatQA05
import Derived.Test.YtokgmcomgflloaaGreatQA27
set_option maxRecDepth 100000
set_option maxHeartbeats 16000000
namespace Go.Proofs.YtokgmcomgflloaaGreat
section
set_option linter.unusedVariables false
set_option linter.unusedSimpArgs false
open Go.RowKit
variable {w0 w w':World}

def yU (l m:List V) (s:Option Ax):Int:=match s with | none=>0 | some a=>if a.1=true then -eX m a.2.1 else eX l a.2.1
def zm (l m:List V) (s:Option Ax):Int:=match s with | none=>0 | some a=>if a.1=true then -eZ m a.2.1 else eZ l a.2.1
def qg (l m:List V):Int:=if dN l m=true then ko (yU l m (dZ l m)) (zm l m (dZ l m)) else 0
def qd (l m:List V):Int:=if dN l m=true then ku (yU l m (dZ l m)) (zm l m (dZ l m)) else 0
def EJ (l m:List V):Int:=FK (dZ l m)
theorem I6 (s:Option Ax) (sec:Bool) (i:Nat) (d:Int):∃ a,Io s sec i d=some a∧(a=(sec,i,d)∨s=some a):=by
 cases s with
 | none=>exact ⟨_,rfl,.inl rfl⟩
 | some a =>
  unfold Io;dsimp only
  split
  ·exact ⟨_,rfl,.inl rfl⟩
  ·exact ⟨_,rfl,.inr rfl⟩
theorem tX (l m : List V) (sec : Bool) (s : Option Ax) : ∀ k, 0 < k → ∃ a, nX l m sec s k = some a ∧ ((a.1 = sec ∧ a.2.1 < k) ∨ s = some a)
 | 0,h=>absurd h (by omega)
 | k+1,_=>by
  rw [nX]
  obtain ⟨a,h1,h2⟩:=I6 (nX l m sec s k) sec k (M9 l m k)
  refine ⟨a,h1,?_⟩
  rcases h2 with rfl | h2
  ·exact .inl ⟨rfl,by simp⟩
  ·rcases Nat.eq_zero_or_pos k with rfl | hk
   ·exact .inr h2
   ·obtain ⟨a', h3, h4⟩ := tX l m sec s k hk
    rw [h2] at h3
    cases h3
    rcases h4 with ⟨g1,g2⟩ | h4
    ·exact .inl ⟨g1,by omega⟩
    ·exact .inr h4
theorem least_some {l m:List V} (h:dN l m=true):∃ s e d,dZ l m=some (s,e,d)∧(s=true→e<m.length)∧(s=false→e<l.length):=by
 have h0:=h;unfold dN at h0;rw [decide_eq_true_iff] at h0;have hE:=h0.1;obtain ⟨hc1,hc2⟩:bH l=0∧bH m=0:=by unfold jl at hE;split at hE <;> omega
 obtain ⟨-,l3,-⟩:=bI hc1;obtain ⟨-,m3,-⟩:=bI hc2;unfold dZ;rw [if_pos h,show Ap l m 2=nX m l true (nX l m false none l.length) m.length from by simp [Ap]];obtain ⟨a,h1,h2⟩:=tX m l true (nX l m false none l.length) m.length (by omega);obtain ⟨b,h3,h4⟩:=tX l m false none l.length (by omega);refine ⟨a.1,a.2.1,a.2.2,h1,?_⟩
 rcases h2 with ⟨g1,g2⟩ | h2
 ·exact ⟨fun _=>g2,fun g=>by rw [g] at g1;cases g1⟩
 ·rw [h3] at h2
  cases h2
  rcases h4 with ⟨g1,g2⟩ | h4
  ·exact ⟨fun g=>(by rw [g] at g1;cases g1),fun _=>g2⟩
  ·cases h4
theorem iX.here' (w:World) (s:Bool) (e:Nat) (d:Int) (t:TypeId):iX (w.alloc (.cells #[.bool s,.int .i64 e,.int .i64 d] t)) w.heap.size (some (s,e,d)):=⟨by go_simp;rfl,by go_simp;rfl,by go_simp;rfl,fun j=>by go_simp⟩
theorem iX.drew {g:Nat} {s:Option Ax} (h:iX w g s):iX w.drew g s:=⟨h.c0,h.c1,h.c2,h.free⟩
theorem F3 (A B:Option Addr) (n c n' c':Nat) (l m:List V) (w:World) (hS:Sl w A n c l) (hM:Sl w B n' c' m) :
  Calls Tryz.prog 162 #[.slice A n c,.slice B n' c'] w (dG (.tuple #[.bool (dN l m),.int .i64 (EJ l m),aR (qg l m) (qd l m)]) w):=by
 have HS:=hid hS;have HM:=hid hM;have hn:=hS.len;have hn':=hM.len;subst hn hn';clear hS hM;obtain ⟨W,hW⟩:∃ W,W=w.alloc (.cells #[.int .i64 0,.int .i64 0] 24):=⟨_,rfl⟩;have HZ0:=hid (show VZ W w.heap.size by rw [hW];exact VZ.here w 0 0 _);have hB0:Below w.heap.size w W:=by rw [hW];go_grown
 go_enter Tryz.func162,Tryz.ntmps162
 go_wp2_with fail
 rw [← hW];clear hW;refine (vC A B l.length c m.length c' l m _ (HS.out.below hB0) (HM.out.below hB0)).mono ?_;rintro e w1 ⟨rfl,hb1⟩;have HZ1:=hid (aG hb1 HZ0.out);have hB1:=aj hb1 hB0;clear HZ0 hB0 hb1
 by_cases hm:dN l m=true
 ·obtain ⟨s, e0, d0, hO, hs1, hs2⟩ := least_some hm;have HR:Hid (dN l m=true∧EJ l m=d0∧qg l m=ko (yU l m (some (s,e0,d0))) (zm l m (some (s,e0,d0)))∧qd l m=ku (yU l m (some (s,e0,d0))) (zm l m (some (s,e0,d0)))):=⟨hm,by unfold EJ;rw [hO];rfl,by unfold qg;rw [if_pos hm,hO],by unfold qd;rw [if_pos hm,hO]⟩;have hE:jl l m=0:=by unfold dN at hm;rw [decide_eq_true_iff] at hm;exact hm.1
  obtain ⟨hc1,hc2⟩:bH l=0∧bH m=0:=by unfold jl at hE;split at hE <;> omega
  obtain ⟨hl8,hl3,hlw,-⟩:=bI hc1;obtain ⟨hm8,hm3,hmw,-⟩:=bI hc2;have HLW:=hid hlw;have HMW:=hid hmw;have HEL:=hid hs2;have HEM:=hid hs1;rw [hO,hE,hm];clear hm hO hE hs1 hs2 hc1 hc2 hlw hmw;simp only [Jy,GH,GJ,FK]
  go_upto_region 4 with fail
  obtain ⟨gx,hgx⟩:∃ g,g=w1.heap.size:=⟨_,rfl⟩;obtain ⟨w2,hw2⟩:∃ w2,w2=w1.alloc (.cells #[.bool s,.int .i64 e0,.int .i64 d0] 206):=⟨_,rfl⟩;have hx:iX w2 gx (some (s,e0,d0)):=by rw [hw2,hgx];exact iX.here' _ _ _ _ _
  have hz:VZ w2 w.heap.size:=by rw [hw2];exact HZ1.out.alloc _
  have hB:Below w.heap.size w w2:=by rw [hw2];exact hB1.alloc hB1.size _
  have hgl:w.heap.size<gx:=by rw [hgx];exact HZ1.out.lt
  rw [← hw2,← hgx];clear hw2 hgx HZ1 hB1
  cases s with
  | true =>
   have hem:=HEM.out rfl;obtain ⟨bn1,bn2⟩:=oC HMW.out hem;have HNM:=hid (jH B m.length c' m e0 w2 (HM.out.below hB) HMW.out hm3 hm8 hem);have hr1:yU l m (some (true,e0,d0)) = -eX m e0:=rfl;have hr2:zm l m (some (true,e0,d0)) = -eZ m e0:=rfl;rw [hr1,hr2] at HR;obtain ⟨n1,hn1⟩:∃ z,z=eX m e0:=⟨_,rfl⟩;obtain ⟨n2,hn2⟩:∃ z,z=eZ m e0:=⟨_,rfl⟩;rw [← hn1] at bn1 HNM HR;rw [← hn2] at bn2 HNM HR;have v1:IntKind.i64.wrap (-n1) = -n1:=IntWalk.i64_in _ (by omega);have v2:IntKind.i64.wrap (-n2) = -n2:=IntWalk.i64_in _ (by omega);have HX:=hid hx;obtain ⟨x0,x1,x2,xf⟩:=hx;dsimp only [GH,GJ,FK] at x0 x1 x2;clear hr1 hr2 hn1 hn2
   go_wp2_with fail
   refine HNM.out.mono ?_;rintro e w3 ⟨rfl,hb3⟩;obtain ⟨gn,hgn⟩:∃ g,g=w3.heap.size:=⟨_,rfl⟩;obtain ⟨w4,hw4⟩:∃ w4,w4=w3.alloc (.cells #[.int .i64 n1,.int .i64 n2] 24):=⟨_,rfl⟩;have r1:w4.cell? ⟨gn,0,none⟩=some (.int .i64 n1):=by rw [hw4,hgn];go_simp
   have r2:w4.cell? ⟨gn,1,none⟩=some (.int .i64 n2):=by rw [hw4,hgn];go_simp
   replace hz:VZ w4 w.heap.size:=by rw [hw4];exact (aG hb3 hz).alloc _
   have hx:iX w4 gx (some (true,e0,d0)):=by rw [hw4];exact lN Ba (lN hb3 HX.out)
   replace hB:Below w.heap.size w w4:=by rw [hw4];exact (aj hb3 hB).alloc (aj hb3 hB).size _
   clear x0 x1 x2 xf HX HNM
   go_upto_region 6 with fail
   rw [← hw4,← hgn];clear hw4 hgn hb3;clear hgl HS HM HLW HMW HEL HEM;refine wp_region_noPanic ?_;refine au (S:=(S2 (fun w'=>VZ w' w.heap.size∧iX w' gx (some (true,e0,d0))∧Below w.heap.size w w'∧w'.cell? ⟨gn,0,none⟩=some (.int .i64 n1)∧w'.cell? ⟨gn,1,none⟩=some (.int .i64 n2)))) (T:=(fun j=>[0,0,0,0,0,0,0,0,0,0,0,0,1].getD j 0)) (by kernel_rfl) (aC ⟨hz.drew,hx.drew,hB.drew,r1,r2⟩) (fun hH=>?_);have hWr1:aH (S2 (fun w'=>VZ w' w.heap.size∧iX w' gx (some (true,e0,d0))∧Below w.heap.size w w'∧w'.cell? ⟨gn,0,none⟩=some (.int .i64 n1)∧w'.cell? ⟨gn,1,none⟩=some (.int .i64 n2))):=aK _;refine dn [(0,31),(1,32),(2,33),(3,34),(4,35),(5,36),(6,37),(7,38),(8,39)] 4 0 0 (L':=?Lr1_1) hWr1 hH ?hyr1_1 ?_
   case hyr1_1=>((iterate 9 apply dA;rfl;kernel_rfl;intro w' hSw;replace hSw:=aA hSw;(try dsimp only at hSw);have q0:=hSw.1;have q1:=hSw.2.1;have q2:=hSw.2.2.1;have q3:=hSw.2.2.2.1;have q4:=hSw.2.2.2.2;obtain ⟨qa1_0,qa1_1,qa1_2,qa1_f⟩:=id q1;(try simp only [sB,sC]);go_simp;(try with_reducible rfl));exact dw)
   simp only [sB,sC];refine U1 9 0 rfl (fun K hK=>?_)
   try clear hb
   go_simp
   (go_at_call 113;refine (qY (-n1) (-n2) _).mono ?_;rintro e wn ⟨rfl,hb⟩)
   refine hK.out _ _ ?hsr1_10 (fun hH2=>?hrr1_10)
   case hsr1_10=>exact aC (by have hG:=hH;replace hG:=aA hG;(try dsimp only at hG);have q0:=hG.1;have q1:=hG.2.1;have q2:=hG.2.2.1;have q3:=hG.2.2.2.1;have q4:=hG.2.2.2.2;exact ⟨aG hb q0,lN hb q1,aj hb q2,keepCell hb q3,keepCell hb q4⟩)
   clear hK K hH;have hH:=hH2;clear hH2
   try simp only [Act.put,sA,sB,sC]
   refine dn [(10,4),(11,5)] 1 0 0 (L':=?Lr1_11) hWr1 hH ?hyr1_11 ?_
   case hyr1_11=>((iterate 2 apply dA;rfl;kernel_rfl;intro w' hSw;clear hSw;(try simp only [sB,sC]);go_simp;(try with_reducible rfl));exact dw)
   simp only [sB,sC];refine U1 12 1 rfl (fun K hK=>?_);have hG:=hH;replace hG:=aA hG;(try dsimp only at hG);have q0:=hG.1;have q1:=hG.2.1;have q2:=hG.2.2.1;have q3:=hG.2.2.2.1;have q4:=hG.2.2.2.2;obtain ⟨⟨z0,z1,y0,y1⟩,yf⟩:=q0;obtain ⟨v0,v1,v2,vf⟩:=q1;go_simp;refine hK.out _ _ ?hsr1_13 (fun hH2=>?hrr1_13)
   case hsr1_13=>exact dY
   clear hK K hH;have hH:=hH2;clear hH2
   try simp only [Act.put,sA,sB,sC]
   refine ak (by kernel_rfl) ?_ _ _;refine NoPanic.normal ?_;generalize ko (-n1) (-n2)=u0 at *
   generalize ku (-n1) (-n2)=u1 at *
   go_wp2_with fail
   refine bodyPost_ret (v:=.tuple #[.bool true,.int .i64 d0,aR u0 u1]) (by simp [results,Tryz.results162,go_sem,FK,y0,y1]) rfl ⟨by rw [HR.out.1,HR.out.2.1,HR.out.2.2.1,HR.out.2.2.2],by go_grown⟩
  | false =>
   have hel:=HEL.out rfl;obtain ⟨bn1,bn2⟩:=oC HLW.out hel;have HX:=hid hx;obtain ⟨x0,x1,x2,xf⟩:=hx;dsimp only [GH,GJ,FK] at x0 x1 x2;have hr1:yU l m (some (false,e0,d0))=eX l e0:=rfl;have hr2:zm l m (some (false,e0,d0))=eZ l e0:=rfl;rw [hr1,hr2] at HR;clear hr1 hr2
   go_upto_region 7 with fail
   clear x0 x1 x2 xf HM HMW HEM;have HNM:Hid (∀ wo,Below w.heap.size w wo→Calls Tryz.prog 163 #[.slice A l.length c,.int .i64 e0] wo (dG (aR (eX l e0) (eZ l e0)) wo)):=fun wo h=>jH A l.length c l e0 wo (HS.out.below h) HLW.out hl3 hl8 hel
   generalize eX l e0=n1 at *
   generalize eZ l e0=n2 at *
   refine wp_region_noPanic ?_;refine au (S:=(S2 (fun w'=>VZ w' w.heap.size∧iX w' gx (some (false,e0,d0))∧Below w.heap.size w w'))) (T:=(fun j=>[0,0,0,0,0,0,0,0,0,1].getD j 0)) (by kernel_rfl) (aC ⟨hz.drew,HX.out.drew,hB.drew⟩) (fun hH=>?_);have hWr2:aH (S2 (fun w'=>VZ w' w.heap.size∧iX w' gx (some (false,e0,d0))∧Below w.heap.size w w')):=aK _;refine dn [(0,41),(1,42),(2,43),(3,44),(4,45)] 5 0 0 (L':=?Lr2_1) hWr2 hH ?hyr2_1 ?_
   case hyr2_1=>((iterate 5 apply dA;rfl;kernel_rfl;intro w' hSw;replace hSw:=aA hSw;(try dsimp only at hSw);have q0:=hSw.1;have q1:=hSw.2.1;have q2:=hSw.2.2;obtain ⟨qa1_0,qa1_1,qa1_2,qa1_f⟩:=id q1;(try simp only [sB,sC]);go_simp;(try with_reducible rfl));exact dw)
   simp only [sB,sC];refine U1 5 0 rfl (fun K hK=>?_)
   try clear hb
   go_simp
   (go_at_call 163;refine (HNM.out _ (by have hG:=aA hH;(try dsimp only at hG);exact hG.2.2)).mono ?_;rintro e wn ⟨rfl,hb⟩)
   refine hK.out _ _ ?hsr2_6 (fun hH2=>?hrr2_6)
   case hsr2_6=>exact aC (by have hG:=hH;replace hG:=aA hG;(try dsimp only at hG);have q0:=hG.1;have q1:=hG.2.1;have q2:=hG.2.2;exact ⟨aG hb q0,lN hb q1,aj hb q2⟩)
   clear hK K hH;have hH:=hH2;clear hH2
   try simp only [Act.put,sA,sB,sC]
   refine U1 6 0 rfl (fun K hK=>?_)
   try clear hb
   go_simp
   (go_at_call 113;refine (qY n1 n2 _).mono ?_;rintro e wn ⟨rfl,hb⟩)
   refine hK.out _ _ ?hsr2_7 (fun hH2=>?hrr2_7)
   case hsr2_7=>exact aC (by have hG:=hH;replace hG:=aA hG;(try dsimp only at hG);have q0:=hG.1;have q1:=hG.2.1;have q2:=hG.2.2;exact ⟨aG hb q0,lN hb q1,aj hb q2⟩)
   clear hK K hH;have hH:=hH2;clear hH2
   try simp only [Act.put,sA,sB,sC]
   refine dn [(7,4),(8,5)] 1 0 0 (L':=?Lr2_8) hWr2 hH ?hyr2_8 ?_
   case hyr2_8=>((iterate 2 apply dA;rfl;kernel_rfl;intro w' hSw;clear hSw;(try simp only [sB,sC]);go_simp;(try with_reducible rfl));exact dw)
   simp only [sB,sC];refine U1 9 1 rfl (fun K hK=>?_);have hG:=hH;replace hG:=aA hG;(try dsimp only at hG);have q0:=hG.1;have q1:=hG.2.1;have q2:=hG.2.2;obtain ⟨⟨z0,z1,y0,y1⟩,yf⟩:=q0;obtain ⟨v0,v1,v2,vf⟩:=q1;go_simp;refine hK.out _ _ ?hsr2_10 (fun hH2=>?hrr2_10)
   case hsr2_10=>exact dY
   clear hK K hH;have hH:=hH2;clear hH2
   try simp only [Act.put,sA,sB,sC]
   refine ak (by kernel_rfl) ?_ _ _;refine NoPanic.normal ?_;generalize ko n1 n2=u0 at *
   generalize ku n1 n2=u1 at *
   go_wp2_with fail
   refine bodyPost_ret (v:=.tuple #[.bool true,.int .i64 d0,aR u0 u1]) (by simp [results,Tryz.results162,go_sem,FK,y0,y1]) rfl ⟨by rw [HR.out.1,HR.out.2.1,HR.out.2.2.1,HR.out.2.2.2],by go_grown⟩
 ·have HR:Hid (dN l m=false∧EJ l m=0∧qg l m=0∧qd l m=0):=by
   have h:dZ l m=none:=by unfold dZ;rw [if_neg hm]
   exact ⟨by simpa using hm,by unfold EJ;rw [h];rfl,by unfold qg;rw [if_neg hm],by unfold qd;rw [if_neg hm]⟩
  have hO:dZ l m=none:=by unfold dZ;rw [if_neg hm]
  have hmf:dN l m=false:=by simpa using hm
  rw [hO,hmf];obtain ⟨⟨z0,z1,y0,y1⟩,yf⟩:=HZ1.out;have hlt:=HZ1.out.lt;clear hm hO hmf;simp only [Jy,GH,GJ,FK]
  by_cases hE:jl l m=0
  ·rw [hE];clear hE;go_wp2;refine bodyPost_ret (v:=.tuple #[.bool false,.int .i64 0,aR 0 0]) (by simp [results,Tryz.results162,go_sem,hlt,y0,y1]) rfl ⟨by rw [HR.out.1,HR.out.2.1,HR.out.2.2.1,HR.out.2.2.2],by go_grown⟩
  ·have hEb : (jl l m != 0) = true := by simp [hE]
   clear hE;go_wp2;refine bodyPost_ret (v:=.tuple #[.bool false,.int .i64 0,aR 0 0]) (by simp [results,Tryz.results162,go_sem,hlt,y0,y1]) rfl ⟨by rw [HR.out.1,HR.out.2.1,HR.out.2.2.1,HR.out.2.2.2],by go_grown⟩
section
variable {w0 w w':World}
variable {l m:List V} {u v:Int}
theorem qZ {a b:List V}:jl a b=0↔bH a=0∧bH b=0:=by
 unfold jl
 split <;> omega
end


theorem CP : ∀ (k : Nat) (x y : Int), (1073741824 ≤ aV x * 2 ^ k ∨ 1073741824 ≤ aV y * 2 ^ k) → (-1099511627776 ≤ x ∧ x ≤ 1099511627776) → (-1099511627776 ≤ y ∧ y ≤ 1099511627776) →
  ∃ t:Int,0<t∧wO k x y=(t*x,t*y)∧(1073741824≤aV (t*x)∨1073741824≤aV (t*y))∧(-1099511627776≤t*x∧t*x≤1099511627776)∧(-1099511627776≤t*y∧t*y≤1099511627776)
 | 0,x,y,h,bx,by_=>⟨1,by omega,by simp [wO],by simpa using h,by omega,by omega⟩
 | k+1,x,y,h,bx,by_=>by
  rw [wO]
  split
  ·rename_i hlt
   have hx : -1073741824<x∧x<1073741824:=by have:=hlt.1;unfold aV at this;split at this <;> omega
   have hy : -1073741824<y∧y<1073741824:=by have:=hlt.2;unfold aV at this;split at this <;> omega
   obtain ⟨t,t0,t1,t2,t3,t4⟩:=CP k (2*x) (2*y) (by
    rw [nu,nu,Int.mul_assoc,Int.mul_assoc,Int.mul_left_comm 2,Int.mul_left_comm 2]
    rwa [Int.pow_succ,Int.mul_comm ((2:Int) ^ k) 2] at h) (by omega) (by omega)
   have ex:t*(2*x)=2*t*x:=by grind
   have ey:t*(2*y)=2*t*y:=by grind
   rw [ex,ey] at t1 t2
   rw [ex] at t3
   rw [ey] at t4
   exact ⟨2*t,by omega,t1,t2,t3,t4⟩
  ·rename_i hge
   refine ⟨1,by omega,by simp,?_,by omega,by omega⟩
   rw [Int.one_mul,Int.one_mul]
   omega

theorem Ig {a b:Int} (ha : -1099511627776≤a∧a≤1099511627776) (hb : -1099511627776≤b∧b≤1099511627776) (h:a≠0∨b≠0) :
  ∃ t n : Int, 0 < t ∧ 1073741824 ≤ n ∧ n * n ≤ (t * a) * (t * a) + (t * b) * (t * b) ∧ (t * a) * (t * a) + (t * b) * (t * b) < (n + 1) * (n + 1) ∧
   (-n≤2*n*ko a b-131072*(t*a)∧2*n*ko a b-131072*(t*a)≤n)∧(-n≤2*n*ku a b-131072*(t*b)∧2*n*ku a b-131072*(t*b)≤n):=by
 have ca:=gK ha.1 ha.2;have cb:=gK hb.1 hb.2
 obtain ⟨t,t0,t1,t2,t3,t4⟩:=CP 31 a b (by
  have e:(2:Int) ^ 31=2147483648:=by decide
  rw [e]
  rcases h with h | h
  ·have : 1 ≤ aV a := by unfold aV; split <;> omega
   exact .inl (by omega)
  ·have : 1 ≤ aV b := by unfold aV; split <;> omega
   exact .inr (by omega)) ha hb
 obtain ⟨x,hx⟩:∃ x,x=t*a:=⟨_,rfl⟩;obtain ⟨y,hy⟩:∃ y,y=t*b:=⟨_,rfl⟩;have ux:ko a b=nN x (fQ x y):=by unfold ko;rw [ca,cb,if_neg (by omega),t1,hx,hy]
 have uy:ku a b=nN y (fQ x y):=by unfold ku;rw [ca,cb,if_neg (by omega),t1,hx,hy]
 rw [← hx,← hy] at t2;rw [← hx] at t3;rw [← hy] at t4;have b1:=dh (x:=x) (y:=x) (M:=1099511627776) (N:=1099511627776) (by omega) (by omega) (by omega) (by omega);have b2:=dh (x:=y) (y:=y) (M:=1099511627776) (N:=1099511627776) (by omega) (by omega) (by omega) (by omega);have p1:=sq_nonneg x;have p2:=sq_nonneg y;obtain ⟨r0,r1,r2⟩:=lG (n:=x*x+y*y) (by omega) (by omega);obtain ⟨n,hn⟩:∃ n,n=fQ x y:=⟨_,rfl⟩;have hn':iE (x*x+y*y)=n:=hn.symm;rw [hn'] at r0 r1 r2
 have big:1073741824≤n:=by
  rcases Int.lt_or_le n 1073741824 with g | g
  ·have q := Int.mul_le_mul (show n + 1 ≤ 1073741824 by omega) (show n + 1 ≤ 1073741824 by omega) (by omega) (by omega)
   rcases t2 with t2 | t2
   ·have s : 1073741824 * 1073741824 ≤ aV x * aV x := Int.mul_le_mul t2 t2 (by omega) (by omega);rw [wG] at s;omega
   ·have s : 1073741824 * 1073741824 ≤ aV y * aV y := Int.mul_le_mul t2 t2 (by omega) (by omega);rw [wG] at s;omega
  ·exact g
 have thr:∀ z:Int,-n≤2*n*nN z n-131072*z∧2*n*nN z n-131072*z≤n:=fun z=>by
  unfold nN;have e1:=Int.mul_ediv_add_emod (2*z*65536+n) (2*n);have e2:=Int.emod_nonneg (2*z*65536+n) (show 2*n≠0 by omega);have e3:=Int.emod_lt_of_pos (2*z*65536+n) (show 0<2*n by omega);generalize (2*z*65536+n) / (2*n)=q at *
  generalize (2*z*65536+n) % (2*n)=r at *
  omega
 rw [← hn] at ux uy;refine ⟨t,n,t0,big,by rw [← hx,← hy];exact r1,by rw [← hx,← hy];exact r2,?_,?_⟩
 ·rw [ux,← hx];exact thr x
 ·rw [uy,← hy];exact thr y


theorem EZ {l:List V} (h:bH l=0) {i:Nat} (hi:i<l.length):eX l i≠0∨eZ l i≠0:=by
 obtain ⟨h8,h3,_,hr⟩:=bI h
 rcases Decidable.em (eX l i=0∧eZ l i=0) with ⟨a,b⟩ | g
 ·exfalso;have k2:(i+2) % l.length<l.length:=Nat.mod_lt _ (by omega);have:=hr i hi ((i+2) % l.length) k2;unfold iN at this;rw [decide_eq_false_iff_not] at this;apply this
  have a1:(i+2) % l.length≠i % l.length:=fun g=>by
   have:=Nat.sub_mod_eq_zero_of_mod_eq g;rw [show i+2-i=2 by omega,Nat.mod_eq_of_lt (by omega)] at this;omega
  have a2:(i+2) % l.length≠(i+1) % l.length:=fun g=>by
   have:=Nat.sub_mod_eq_zero_of_mod_eq g;rw [show i+2-(i+1)=1 by omega,Nat.mod_eq_of_lt (by omega)] at this;omega
  rw [Nat.mod_eq_of_lt hi] at a1;refine ⟨a1,a2,?_⟩;unfold eX at a;unfold eZ at b;unfold mI iZ;rw [show px l ((i+1) % l.length)-px l i=0 by omega,show py l ((i+1) % l.length)-py l i=0 by omega];simp
 ·omega

theorem Px {l m:List V} (h:dN l m=true):(yU l m (dZ l m)≠0∨zm l m (dZ l m)≠0)∧(-131072000≤yU l m (dZ l m)∧yU l m (dZ l m)≤131072000)∧(-131072000≤zm l m (dZ l m)∧zm l m (dZ l m)≤131072000):=by
 have h0:=h;unfold dN at h0;rw [decide_eq_true_iff] at h0;obtain ⟨hc1,hc2⟩:=qZ.1 h0.1;obtain ⟨-,-,w1,-⟩:=bI hc1;obtain ⟨-,-,w2,-⟩:=bI hc2;obtain ⟨s,e,d,h1,h2,h3⟩:=least_some h;rw [h1];unfold yU zm;dsimp only
 cases s with
 | true =>
  have n:=EZ hc2 (h2 rfl);have b:=oC w2 (h2 rfl);simp only [if_true];omega
 | false =>
  have n:=EZ hc1 (h3 rfl);have b:=oC w1 (h3 rfl);simp only [Bool.false_eq_true,if_false];omega

theorem I5 {d L:Int} (hL:0<L) (hd : -34359738368000000≤d∧d≤34359738368000000):cZ d L=(2*d+L) / (2*L):=by
 have e:kM d L=(2*d+L) / (2*L):=by unfold kM;rw [if_neg (by omega)]
 have q1:(2*d+L) / (2*L)≤34359738368000001:=by
  have:(2*d+L) / (2*L)<34359738368000002:=Int.ediv_lt_of_lt_mul (by omega) (by have:=Int.mul_le_mul_of_nonneg_left (show 1≤L by omega) (show (0:Int)≤2*34359738368000002 by omega);omega);omega
 have q0 : -34359738368000001≤(2*d+L) / (2*L):=by
  have:=(Int.le_ediv_iff_mul_le (show 0<2*L by omega) (a := -34359738368000001) (b:=2*d+L)).2 (by have:=Int.mul_le_mul_of_nonneg_left (show 1≤L by omega) (show (0:Int)≤2*34359738368000001 by omega);omega);exact this
 unfold cZ;rw [if_neg (by omega),e,if_pos (by omega)]

def rD (s:Option Ax):Int:=match s with | none => -1 | some a=>a.2.2
structure Jo (w : World) (g : Nat) (s : Bool) (e d : Int) : Prop where
 c0:w.cell? ⟨g,0,none⟩=some (.bool s)
 c1:w.cell? ⟨g,1,none⟩=some (.int .i64 e)
 c2:w.cell? ⟨g,2,none⟩=some (.int .i64 d)
 free:∀ j,w.frozen? ⟨g,j,none⟩=false
theorem Jo.keep {g:Nat} {s:Bool} {e d:Int} (hb:Below w.heap.size w w') (h:Jo w g s e d):Jo w' g s e d :=
 ⟨keepCell hb h.c0,keepCell hb h.c1,keepCell hb h.c2,fun j=>((dF hb).2 _ _ (lt_of_cell h.c0)).trans (h.free j)⟩
theorem Jo.here (w:World) (s:Bool) (e d:Int) (t:TypeId):Jo (w.alloc (.cells #[.bool s,.int .i64 e,.int .i64 d] t)) w.heap.size s e d:=⟨by go_simp,by go_simp,by go_simp,fun j=>by go_simp⟩
theorem Jo.away {g:Nat} {s:Bool} {e d:Int} (h:Jo w g s e d) (k o:Nat) (v:Value) (hne:k≠g):Jo (w.setCell ⟨k,o,none⟩ v) g s e d :=
 ⟨aY hne h.c0,aY hne h.c1,aY hne h.c2,fun j=>by rw [World.frozen?_setCell];exact h.free j⟩
theorem Jo.set {g:Nat} {s:Bool} {e d:Int} (h:Jo w g s e d) (s':Bool) (e' d':Int):Jo (((w.setCell ⟨g,0,none⟩ (.bool s')).setCell ⟨g,1,none⟩ (.int .i64 e')).setCell ⟨g,2,none⟩ (.int .i64 d')) g s' e' d':=by
 obtain ⟨h0,h1,h2,hf⟩:=h;exact ⟨by go_simp,by go_simp,by go_simp,fun j=>by go_simp⟩
structure RW (w0 : World) (s : Option Ax) (w : World) : Prop where
 r:Jo w w0.heap.size false 0 0
 b:Jo w (w0.heap.size+1) (GH s) (GJ s) (rD s)
 bel:Below w0.heap.size w0 w
 le:w0.heap.size+1<w.heap.size
theorem RW.keep {s:Option Ax} {w w':World} (hb:Below w.heap.size w w') (h:RW w0 s w):RW w0 s w':=⟨h.r.keep hb,h.b.keep hb,aj hb h.bel,Nat.lt_of_lt_of_le h.le hb.size⟩
theorem RW.set {s:Option Ax} {w:World} (h:RW w0 s w) (t:Option Ax):RW w0 t (((w.setCell ⟨w0.heap.size+1,0,none⟩ (.bool (GH t))).setCell ⟨w0.heap.size+1,1,none⟩ (.int .i64 (GJ t))).setCell ⟨w0.heap.size+1,2,none⟩ (.int .i64 (rD t))) :=
 ⟨((h.r.away _ _ _ (by omega)).away _ _ _ (by omega)).away _ _ _ (by omega),h.b.set _ _ _,((h.bel.setCell (p:=⟨w0.heap.size+1,0,none⟩) (Nat.le_succ _) _).setCell (p:=⟨w0.heap.size+1,1,none⟩) (Nat.le_succ _) _).setCell (p:=⟨w0.heap.size+1,2,none⟩) (Nat.le_succ _) _,by simpa [World.setCell] using h.le⟩
end
end Go.Proofs.YtokgmcomgflloaaGreat
