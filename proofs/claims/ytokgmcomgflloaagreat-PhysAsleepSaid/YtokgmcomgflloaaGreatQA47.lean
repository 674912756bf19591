/- Parts of a proof: contracts and laws. -/
import Derived.Test.YtokgmcomgflloaaGreatQA39
import Derived.Test.YtokgmcomgflloaaGreatQA02
set_option maxRecDepth 100000
set_option maxHeartbeats 16000000
namespace Go.Proofs.YtokgmcomgflloaaGreat
section
set_option linter.unusedVariables false
set_option linter.unusedSimpArgs false
open Go.RowKit
theorem Dc (A B:Option Addr) (c c':Nat) (w:World):Calls Tryz.prog 46 #[.slice A 0 c,.slice B 0 c'] w (dG (.tuple #[]) w):=by
 have hmk:∀ w:World,(Instr.makeSlice 163 (.int .i64 0) (.int .i64 0)).run Tryz.prog w = .ok (.slice (some ⟨w.heap.size,0,none⟩) 0 0) (w.alloc (.cells #[] 4)):=fun w=>by have h:=uH 0 (by omega) w;simpa using h
 obtain ⟨w2,hw2⟩:∃ x,x=w.alloc (.cells #[] 4):=⟨_,rfl⟩;have HB2:Hid (Below w.heap.size w w2):=hid (by rw [hw2];exact (Below.refl _ _).alloc (Nat.le_refl _) _);obtain ⟨ga,hga⟩:∃ x,x=w.heap.size:=⟨_,rfl⟩
 go_enter Tryz.func46,Tryz.ntmps46
 go_upto_region 2 with fail
 rw [← hw2,← hga];clear hw2 hga hmk
 go_loopw [13] (fun j wr=>j = .int .i64 0∧wr=w2) (fun _ _=>0)
 case atStart=>exact ⟨rfl,rfl⟩
 case round =>
  obtain ⟨rfl,rfl⟩:=hrel;go_wp2
  go_loopw [44] (fun j wr2=>j = .int .i64 0∧wr2=wr) (fun _ _=>0)
  case atStart=>exact ⟨rfl,rfl⟩
  case round =>
   obtain ⟨rfl,rfl⟩:=hrel;go_wp2;exact bodyPost_ret (v:=.tuple #[]) (by simp [results,Tryz.results46,go_sem]) rfl ⟨rfl,HB2.out⟩
theorem CZ (A:Option Addr) (c:Nat) (gx gy st:Int) (w:World):Calls Tryz.prog 47 #[.slice A 0 c,aR gx gy,.int .i64 st] w (dG (.tuple #[]) w):=by
 obtain ⟨w2,hw2⟩:∃ x,x=w.alloc (.cells #[.int .i64 gx,.int .i64 gy] 24):=⟨_,rfl⟩;have HB2:Hid (Below w.heap.size w w2):=hid (by rw [hw2];exact (Below.refl _ _).alloc (Nat.le_refl _) _)
 go_enter Tryz.func47,Tryz.ntmps47
 go_upto_region 2 with fail
 rw [← hw2];clear hw2
 go_loopw [11] (fun j wr=>j = .int .i64 0∧wr=w2) (fun _ _=>0)
 case atStart=>exact ⟨rfl,rfl⟩
 case round =>
  obtain ⟨rfl,rfl⟩:=hrel;go_wp2;exact bodyPost_ret (v:=.tuple #[]) (by simp [results,Tryz.results47,go_sem]) rfl ⟨rfl,HB2.out⟩
theorem Dk (A B:Option Addr) (c c':Nat) (w:World):Calls Tryz.prog 53 #[.slice A 0 c,.slice B 0 c'] w (dG (.tuple #[]) w):=by
 have HRP:=hid (qU w.heap.size 1 0 true (w.alloc (.cells #[.bool true] 4)) (by go_simp) (by omega));have HB1:Hid (Below w.heap.size w (w.alloc (.cells #[.bool true] 4))):=hid Ba
 go_enter Tryz.func53,Tryz.ntmps53
 go_wp2_with fail
 refine HRP.out.mono ?_;rintro e w2 ⟨ga,rfl,hg1,hg2,hgc,hgf,hb2⟩;have HB2:=hid (aj hb2 HB1.out);clear HRP hg1 hg2 hgc hgf hb2 HB1;go_wp2
 go_loopw [15] (fun j wr=>j = .int .i64 0∧wr=w2) (fun _ _=>0)
 case atStart=>exact ⟨rfl,rfl⟩
 case round =>
  obtain ⟨rfl,rfl⟩:=hrel;go_wp2
  go_loopw [80] (fun j wr2=>j = .int .i64 0∧wr2=wr) (fun _ _=>0)
  case atStart=>exact ⟨rfl,rfl⟩
  case round =>
   obtain ⟨rfl,rfl⟩:=hrel;go_wp2;exact bodyPost_ret (v:=.tuple #[]) (by simp [results,Tryz.results53,go_sem]) rfl ⟨rfl,HB2.out⟩
theorem Bo {w : World} {A Aj Ac : Option Addr} {n c nj cj nc cc : Nat} {L : List BE} {Jl : List Jt} {Cl : List Ct} (hS : iH w A n c L) (hJ : dW gZ w Aj nj cj Jl) (hC : dW bZ w Ac nc cc Cl) (gx gy st : Int) (hE : fJ L Jl Cl gx gy st = 0) (hn0 : n = 0)
  (K K3:List Ct) (f:Nat→Nat) (hf:f=qF (GN L) (pz Jl ++ tC K)) (Q2 Q3:List QB) (T:List Int) (hKr:∀ x ∈ K,0≤x.a∧x.a<(n:Int)∧0≤x.b∧x.b<(n:Int))
  (hCK:∀ w',iH w' A n c L→dW gZ w' Aj nj cj Jl→dW bZ w' Ac nc cc Cl→Calls Tryz.prog 17 #[.agg #[.slice A n c,.slice Aj nj cj,.slice Ac nc cc,.int .i64 gx,.int .i64 gy,.int .i64 st]] w' (dG (.int .i64 (fJ L Jl Cl gx gy st)) w'))
  (hIS:∀ w' A' c' Ak nk ck,iH w' A' n c' L→dW gZ w' Aj nj cj Jl→dW bZ w' Ak nk ck K→Calls Tryz.prog 45 #[.slice A' n c',.slice Aj nj cj,.slice Ak nk ck] w' (fun e w''=>∃ gs,e = .returned (.slice (some ⟨gs,0,none⟩) n n)∧w'.heap.size≤gs∧aJ fq w'' gs 0 ((List.range n).map f)∧(∀ j,w''.frozen? ⟨gs,j,none⟩=false)∧Below w'.heap.size w' w''))
  (hF:∀ w',iH w' A n c L→dW bZ w' Ac nc cc Cl→Calls Tryz.prog 43 #[.slice A n c,.slice Ac nc cc] w' (fun e w''=>∃ A n c,e = .returned (.tuple #[.slice A n c,.int .i64 0])∧dW bZ w'' A n c K∧Below w'.heap.size w' w''))
  (hJR:∀ w' A' n' c' L1,iH w' A' n' c' L1→L1.map aF=((jQ L f).map (jr gx gy st)).map aF→dW gZ w' Aj nj cj Jl→Calls Tryz.prog 48 #[.slice A' n' c',.slice Aj nj cj,.int .i64 st,.int .i64 8] w' (wW 0 Q2 w'))
  (hSR:∀ w' A' n' c' L2 B m d,iH w' A' n' c' L2→L2.map aF=Q2→dW bZ w' B m d K→Calls Tryz.prog 49 #[.slice A' n' c',.slice B m d,.int .i64 st,.int .i64 8] w' (nH 0 (Q3,K3) w'))
  (hPT:∀ w' A' n' c' L3,iH w' A' n' c' L3→L3.map aF=Q3→Calls Tryz.prog 50 #[.slice A' n' c',.int .i64 st] w' (fun e w''=>∃ gs,e = .returned (.slice (some ⟨gs,0,none⟩) n n)∧w'.heap.size≤gs∧(∀ j (h:j<T.length),w''.cell? ⟨gs,j,none⟩=some (.int .i64 T[j]))∧Below w'.heap.size w' w''))
  (hT:T.length=n) (hQ3:Q3.length=n) (hQ:∀ q ∈ Q3,q.2≠[]∧q.2.length≤1000∧0≤q.1.mass∧0≤q.1.calm∧q.1.calm≤1000) :
  Calls Tryz.prog 13 #[.agg #[.slice A n c,.slice Aj nj cj,.slice Ac nc cc,.int .i64 gx,.int .i64 gy,.int .i64 st]] w (oI (zy st Q3 T) f Jl K3 gx gy st w):=by
 obtain ⟨w1,hw1⟩:∃ x,x=(w.alloc (.cells #[.slice A n c,.slice Aj nj cj,.slice Ac nc cc,.int .i64 gx,.int .i64 gy,.int .i64 st] 33)).alloc (.cells #[.slice none 0 0,.slice none 0 0,.slice none 0 0,.int .i64 0,.int .i64 0,.int .i64 0] 33):=⟨_,rfl⟩;obtain ⟨gz,hgz⟩:∃ x,x=w.heap.size:=⟨_,rfl⟩;have hb1:Below w.heap.size w w1:=by rw [hw1];go_grown
 have HZ1:Hid (ZS gz (.slice A n c) (.slice Aj nj cj) (.slice Ac nc cc) gx gy st w1):=hid (by rw [hw1,hgz];exact ⟨by go_simp,by go_simp,by go_simp,by go_simp,by go_simp,by go_simp⟩);have HF1:Hid (ZF w1 (gz+1)):=hid (by rw [hw1,hgz];have h:=ZF.here (w.alloc (.cells #[.slice A n c,.slice Aj nj cj,.slice Ac nc cc,.int .i64 gx,.int .i64 gy,.int .i64 st] 33)) (.slice none 0 0) (.slice none 0 0) (.slice none 0 0) 0 0 0 33;rw [World.size_alloc] at h;exact h);obtain ⟨z0,z1,z2,z3,z4,z5⟩:=HZ1.out;have lz:=lt_of_cell z0;have HCK:=hid (hCK w1 (hS.below hb1) (hJ.below hb1) (hC.below hb1));rw [hE] at HCK;have HS:=hid hS;have HJ:=hid hJ;have HC:=hid hC;have HB1:=hid hb1;have HE:=hid hE;obtain ⟨hce,hje,-,-⟩:=nR hE;obtain ⟨hbe,-,-⟩:=fV hce;obtain ⟨h64,hval⟩:=eY hbe;have HJL:Hid (Jl.length≤100000):=hid (by have:=(iK hje).2.1;omega);have hnn:=hS.sl.len;subst hnn;have HN0:=hid hn0;clear hn0;have HRG:=hid (uK rfl hE).1;have HVL:=hid hval;have HCO:Hid (∀ y ∈ L,∀ bx off,y.A=some ⟨bx,off,none⟩→bx<w.heap.size):=hid (fun y hy=>kI (hS.co y hy) (fun e=>by have:=hval y hy;rw [e] at this;exact absurd (bJ this).1 (by decide)));have HQ:=hid hQ;have HKR:=hid hKr;have HIS:=hid hIS;have HF:=hid hF;have HJR:=hid hJR;have HSR:=hid hSR;have HPT:=hid hPT;have HT:=hid hT;have HQ3:=hid hQ3;have HFE:=hid hf;clear hce hje hbe hval hQ hS hJ hC hb1 hE hKr hCK hIS hF hJR hSR hPT hT hQ3 hf
 go_enter Tryz.func13,Tryz.ntmps13
 go_upto_region 1 with fail
 rw [← hw1,← hgz];have HGZ:=hid (show w.heap.size≤gz by omega);clear hw1 hgz
 go_wp2_with fail
 refine HCK.out.mono ?_;rintro e w2 ⟨rfl,hb⟩;replace HZ1:=hid (HZ1.out.keep hb);replace HF1:=hid (kF hb HF1.out);replace HB1:=hid (aj hb HB1.out);clear HCK hb z0 z1 z2 z3 z4 z5 lz;have HCJ:Hid (∀ w',Below w2.heap.size w2 w'→Calls Tryz.prog 42 #[.slice Aj nj cj] w' (fun e w''=>∃ s,e = .returned s∧aU gZ 37 w'' w'.heap.size s Jl∧Below w'.heap.size w' w'')):=hid (fun w' hb=>qP Aj nj cj Jl w' ((HJ.out.below HB1.out).below hb) HJL.out)
 go_upto_region 4 with fail
 refine (fun (hNr2:Hid (?Tr2:Prop))=>?mainr2) (hid ?prfr2)
 case mainr2 =>
  refine wp_region_noPanic ?_;refine au (S:=(S2 (fun w'=>ZS gz (.slice A L.length c) (.slice Aj nj cj) (.slice Ac nc cc) gx gy st w'∧Bq w2 w'))) (T:=(fun j=>[0,0,0,0,0,0,0,0,0,1].getD j 0)) (by kernel_rfl) (aC ⟨HZ1.out.keep ((Below.refl _ _).drew),⟨(Below.refl _ _).drew⟩⟩) (fun hH=>?_);have hWr2:aH (S2 (fun w'=>ZS gz (.slice A L.length c) (.slice Aj nj cj) (.slice Ac nc cc) gx gy st w'∧Bq w2 w')):=aK _;refine dn [(0,18),(1,19),(3,21),(4,22),(5,23),(6,24)] 4 0 0 (L':=?Lr2_1) hWr2 hH ?yr2_1 ?_
  case yr2_1=>((iterate 6 apply dA;rfl;kernel_rfl;intro w' hSw;replace hSw:=aA hSw;(try dsimp only at hSw);have q0:=hSw.1;have q1:=hSw.2;have qa0_0:=(q0).z0;have qa0_1:=(q0).z1;have qa0_2:=(q0).z2;have qa0_3:=(q0).z3;have qa0_4:=(q0).z4;have qa0_5:=(q0).z5;(try simp only [sB,sC]);go_simp;(try with_reducible rfl));exact dw)
  simp only [sB,sC];refine Ur [2,8] ?_;refine Uc 0 rfl (fun K hK=>?_) ?_
  ·try clear hb
   have hG:=hH;replace hG:=aA hG;(try dsimp only at hG);have fq0:=hG.1;have fq1:=hG.2;go_simp
   (go_at_call 42;refine (HCJ.out _ fq1.b).mono ?_;rintro e wn ⟨sj,rfl,hoj,hb⟩)
   refine hK.out _ _ (aC (by have hG:=hH;replace hG:=aA hG;(try dsimp only at hG);have q0:=hG.1;have q1:=hG.2;exact ⟨ZS.keep hb q0,lQ hb q1⟩)) (fun hH2=>?_);clear hK K hH
   rename _=>hH
   try simp only [Act.put,sA,sB,sC]
   obtain ⟨Aj2,nj2,cj2,rfl,hJ2,hJb⟩:=hoj.sl;have hJc:∀ b off,Aj2=some ⟨b,off,none⟩→b<wn.heap.size:=fun b off e=>(hoj.lt (k:=b) (by rw [e];rfl)).2
   clear hoj hG fq0 fq1;refine Ut 7 25 2 0 0 (v:=?vr2_8) rfl hWr2 hH ?yr2_8 ?_
   case yr2_8=>(intro w' hSw;clear hSw;go_simp;try (with_reducible rfl))
   simp only [sB,sC];refine U1 8 0 rfl (fun K hK=>?_)
   try clear hb
   have hG:=hH;replace hG:=aA hG;(try dsimp only at hG);have q0:=hG.1;have q1:=hG.2;go_simp;refine hK.out _ _ (aC (by have hG:=hH;replace hG:=aA hG;(try dsimp only at hG);have q0:=hG.1;have q1:=hG.2;exact ⟨ZS.keep Ba q0,lQ Ba q1⟩)) (fun hH2=>?_);clear hK K hH
   rename _=>hH
   try simp only [Act.put,sA,sB,sC]
   have hO:ZF (wn.alloc (.cells #[.slice none 0 0,.slice none 0 0,.slice none 0 0,.int .i64 0,.int .i64 0,.int .i64 0] 33)) wn.heap.size:=ZF.here wn _ _ _ 0 0 0 33;replace hJ2:=GL ((Below.refl _ _).alloc (Nat.le_refl _) (.cells #[.slice none 0 0,.slice none 0 0,.slice none 0 0,.int .i64 0,.int .i64 0,.int .i64 0] 33)) hJ2;obtain ⟨gO,hgO⟩:∃ g,g=wn.heap.size:=⟨_,rfl⟩;have hlO:w2.heap.size≤gO:=by rw [hgO];exact q1.b.size
   have hNE:∀ b off,Aj2=some ⟨b,off,none⟩→b≠gO∧w2.heap.size≤b:=fun b off e=>by have h5:=hJc b off e;have h6:w2.heap.size≤b:=hJb b off e;rw [hgO];omega
   clear hJb hJc;rw [← hgO] at hO
   try rw [← hgO]
   clear hgO q0 q1;generalize wn.alloc (.cells #[.slice none 0 0,.slice none 0 0,.slice none 0 0,.int .i64 0,.int .i64 0,.int .i64 0] 33)=wx8 at *
   refine bE (l':=tf 10 511) (by kernel_rfl) ?_
   try clear hb
   revert hH
   revert hNE
   revert hJ2
   revert hO
   revert hlO
   revert gO
   revert cj2
   revert nj2
   revert Aj2
   revert wx8
   exact hNr2.out
  refine Uc 0 rfl (fun K hK=>?_) ?_
  ·try clear hb
   have hG:=hH;replace hG:=aA hG;(try dsimp only at hG);have q0:=hG.1;have q1:=hG.2;go_simp;refine hK.out _ _ (aC (by have hG:=hH;replace hG:=aA hG;(try dsimp only at hG);have q0:=hG.1;have q1:=hG.2;exact ⟨ZS.keep Ba q0,lQ Ba q1⟩)) (fun hH2=>?_);clear hK K hH
   rename _=>hH
   try simp only [Act.put,sA,sB,sC]
   have hO:ZF ((w2.alloc (.cells #[.slice none 0 0,.slice none 0 0,.slice none 0 0,.int .i64 0,.int .i64 0,.int .i64 0] 33)).drew) w2.heap.size:=ZF.drew (ZF.here w2 _ _ _ 0 0 0 33);obtain ⟨gO,hgO⟩:∃ g,g=w2.heap.size:=⟨_,rfl⟩;have hlO:w2.heap.size≤gO:=by rw [hgO];exact q1.b.size
   rw [← hgO] at hO
   try rw [← hgO]
   clear hgO q0 q1;generalize (w2.alloc (.cells #[.slice none 0 0,.slice none 0 0,.slice none 0 0,.int .i64 0,.int .i64 0,.int .i64 0] 33)).drew=wx8 at *
   refine U1 2 0 rfl (fun K hK=>?_)
   try clear hb
   have hG:=hH;replace hG:=aA hG;(try dsimp only at hG);have fq0:=hG.1;have fq1:=hG.2;go_simp
   (go_at_call 42;refine (HCJ.out _ fq1.b).mono ?_;rintro e wn ⟨sj,rfl,hoj,hb⟩)
   refine hK.out _ _ (aC (by have hG:=hH;replace hG:=aA hG;(try dsimp only at hG);have q0:=hG.1;have q1:=hG.2;exact ⟨ZS.keep hb q0,lQ hb q1⟩)) (fun hH2=>?_);clear hK K hH
   rename _=>hH
   try simp only [Act.put,sA,sB,sC]
   obtain ⟨Aj2,nj2,cj2,rfl,hJ2,hJb⟩:=hoj.sl;have hJc:∀ b off,Aj2=some ⟨b,off,none⟩→b<wn.heap.size:=fun b off e=>(hoj.lt (k:=b) (by rw [e];rfl)).2
   have hNE:∀ b off,Aj2=some ⟨b,off,none⟩→b≠gO∧w2.heap.size≤b:=fun b off e=>by have h1:=hJb b off e;have h4:=fq1.b.size;obtain ⟨⟨_,_,_,_,_,_,h2⟩,_⟩:=hO;have h3:=lt_of_cell h2.z0;omega
   replace hO:=kF hb hO;clear hJb hJc;clear hoj hG fq0 fq1;refine Ut 7 25 1 0 0 (v:=?vr2_13) rfl hWr2 hH ?yr2_13 ?_
   case yr2_13=>(intro w' hSw;clear hSw;go_simp;try (with_reducible rfl))
   simp only [sB,sC];refine bE (l':=tf 10 511) (by kernel_rfl) ?_
   try clear hb
   revert hH
   revert hNE
   revert hJ2
   revert hO
   revert hlO
   revert gO
   revert cj2
   revert nj2
   revert Aj2
   revert wn
   exact hNr2.out
  exact bC.nil
 case prfr2 =>
  intro wX Aj2 nj2 cj2 gO hlO hO hJ2 hNE hH;have hWr2:aH (S2 (fun w'=>ZS gz (.slice A L.length c) (.slice Aj nj cj) (.slice Ac nc cc) gx gy st w'∧Bq w2 w')):=aK _;refine U1 9 1 rfl (fun K hK=>?_)
  try clear hb
  have hG:=hH;replace hG:=aA hG;(try dsimp only at hG);have fq0:=hG.1;have fq1:=hG.2;obtain ⟨⟨v0,v1,v2,v3,v4,v5,y0,y1,y2,y3,y4,y5⟩,yf⟩:=id hO;have HZS:=hid fq0;have HBL:=hid fq1;clear hG fq0 fq1;go_simp;refine hK.out _ _ (dY) (fun hH2=>?_);clear hK K hH
  rename _=>hH
  try simp only [Act.put,sA,sB,sC]
  refine ak (by kernel_rfl) ?_ _ _;refine NoPanic.normal ?_;obtain ⟨w4,hw4⟩:∃ y,y=(((((wX.setCell ⟨gO,0,none⟩ (.slice none 0 0)).setCell ⟨gO,1,none⟩ (.slice Aj2 nj2 cj2)).setCell ⟨gO,2,none⟩ (.slice none 0 0)).setCell ⟨gO,3,none⟩ (.int .i64 gx)).setCell ⟨gO,4,none⟩ (.int .i64 gy)).setCell ⟨gO,5,none⟩ (.int .i64 st):=⟨_,rfl⟩;have hgl:=lt_of_cell y0;have HOC:Hid (ZS gO (.slice none 0 0) (.slice Aj2 nj2 cj2) (.slice none 0 0) gx gy st w4):=hid (by rw [hw4];exact ⟨by go_simp,by go_simp,by go_simp,by go_simp,by go_simp,by go_simp⟩);have HOF:Hid (∀ j,w4.frozen? ⟨gO,j,none⟩=false):=hid (by rw [hw4];exact eu (eu (eu (eu (eu (eu yf _ _) _ _) _ _) _ _) _ _) _ _);have HOX:Hid (Out (fun k=>k=gO) wX w4):=hid (by rw [hw4];exact ((((((Out.refl (fun k=>k=gO) wX).setCell (p:=⟨gO,0,none⟩) (.inr rfl) _).setCell (p:=⟨gO,1,none⟩) (.inr rfl) _).setCell (p:=⟨gO,2,none⟩) (.inr rfl) _).setCell (p:=⟨gO,3,none⟩) (.inr rfl) _).setCell (p:=⟨gO,4,none⟩) (.inr rfl) _).setCell (p:=⟨gO,5,none⟩) (.inr rfl) _);have HNEO:=hid hNE;have HLO:=hid hlO;have HJX:Hid (dW gZ w4 Aj2 nj2 cj2 Jl):=hid (hJ2.outD HOX.out (fun b off e _=>(hNE b off e).1));have HZ2:=hid (lt_of_cell HZ1.out.z0);have HZ4:Hid (ZS gz (.slice A L.length c) (.slice Aj nj cj) (.slice Ac nc cc) gx gy st w4):=hid (HZS.out.out HOX.out (fun e=>by have e:gz=gO:=e;have:=HZ2.out;omega));have HB4:Hid (Below w2.heap.size w2 w4):=hid (HOX.out.toBelow HBL.out.b HBL.out.b.size hlO);have HF4:Hid (ZF w4 (gz+1)):=hid (kF HB4.out HF1.out);clear y0 y1 y2 y3 y4 y5 yf hO hJ2 hNE hH HZS HBL HOX hlO hgl
  go_upto_region 5 with fail
  rw [← hw4];clear hw4;obtain ⟨z0,z1,z2,z3,z4,z5⟩:=HZ4.out;have lz:=lt_of_cell z0;have HBS:=hid (aj HB4.out HB1.out)
  go_wp2_with fail
  refine (HF.out w4 (HS.out.below HBS.out) (HC.out.below HBS.out)).mono ?_;rintro e w6 ⟨Ak,nk,ck,rfl,hsk,hb6⟩;have HK6:=hid hsk;replace HZ4:=hid (HZ4.out.keep hb6);replace HOF:=hid (fun j=>(World.frozen?_of_block (hb6.block _ (lt_of_cell HOC.out.z0))).trans (HOF.out j));replace HOC:=hid (HOC.out.keep hb6);replace HF4:=hid (kF hb6 HF4.out);replace HJX:=hid (HJX.out.below hb6);replace HBS:=hid (aj hb6 HBS.out);replace HB4:=hid (aj hb6 HB4.out);clear hsk hb6 HF z0 z1 z2 z3 z4 z5 lz;have HSB6:=hid (HS.out.below HBS.out);have HJ6:=hid (HJ.out.below HBS.out);have hs6:=HBS.out.size;obtain ⟨z0,z1,z2,z3,z4,z5⟩:=HZ4.out;have lz:=lt_of_cell z0
  go_wp2_with fail
  refine (qL A L.length c L w6 HSB6.out.sl (by omega)).mono ?_;rintro e w7 ⟨sb,rfl,hob,hb7⟩;obtain ⟨A7,n7,c7,rfl,hsl7,-⟩:=hob.sl;have hl0:L=[]:=List.length_eq_zero_iff.1 HN0.out;have hn7:=hsl7.len;rw [HN0.out] at hn7;subst hn7;have HSL0:Hid (∀ w':World,dW jo w' A7 0 c7 []):=hid (fun w'=>⟨rfl,hsl7.cap,hsl7.big,fun h=>absurd rfl h⟩);have HSL7:Hid (iH w7 A7 0 c7 L):=hid ⟨hsl7,fun x hx=>by rw [hl0] at hx;cases hx⟩;have HX7:=hid hb7;replace z0:=keepCell hb7 z0;replace z1:=keepCell hb7 z1;replace z2:=keepCell hb7 z2;replace z3:=keepCell hb7 z3;replace z4:=keepCell hb7 z4;replace z5:=keepCell hb7 z5;replace lz:=lt_of_cell z0;clear hob hsl7 hb7;have HPI:=hid (HIS.out w7 A7 c7 _ _ _ (by rw [HN0.out];exact HSL7.out) (HJ6.out.below HX7.out) (HK6.out.below HX7.out));rw [HN0.out] at HPI;have HW0:Hid (jQ L f=[]):=hid (by rw [hl0];rfl)
  go_wp2_with fail
  refine HPI.out.mono ?_;rintro e w8 ⟨gs,rfl,hgs,hcg,hfg,hb8⟩;have HX8:=hid (aj hb8 HX7.out);replace z0:=keepCell hb8 z0;replace z1:=keepCell hb8 z1;replace z3:=keepCell hb8 z3;replace z4:=keepCell hb8 z4;replace z5:=keepCell hb8 z5;replace lz:=lt_of_cell z0;have h78:=hb8.size;clear HPI hgs hcg hfg z2 HSL7
  go_wp2_with fail
  refine (Dc A7 _ c7 _ w8).mono ?_;rintro e w9 ⟨rfl,hb9⟩;have HX9:=hid (aj hb9 HX8.out);replace z0:=keepCell hb9 z0;replace z1:=keepCell hb9 z1;replace z3:=keepCell hb9 z3;replace z4:=keepCell hb9 z4;replace z5:=keepCell hb9 z5;replace lz:=lt_of_cell z0;have h89:=hb9.size;clear hb9 HX8 hb8
  go_wp2_with fail
  refine (CZ A7 c7 gx gy st w9).mono ?_;rintro e w10 ⟨rfl,hb10⟩;have HX10:=hid (aj hb10 HX9.out);replace z0:=keepCell hb10 z0;replace z1:=keepCell hb10 z1;replace z3:=keepCell hb10 z3;replace z4:=keepCell hb10 z4;replace z5:=keepCell hb10 z5;replace lz:=lt_of_cell z0;have h910:=hb10.size;clear hb10 HX9;have HJRc:=hid (HJR.out w10 A7 0 c7 [] ⟨HSL0.out w10,fun x hx=>by cases hx⟩ (by rw [HW0.out];rfl) (HJ6.out.below HX10.out))
  go_wp2_with fail
  refine HJRc.out.mono ?_;rintro e w11 ⟨A2,n2,c2,L2,rfl,hs2,hm2,hb11⟩;have HX11:=hid (aj hb11 HX10.out);replace z0:=keepCell hb11 z0;replace z5:=keepCell hb11 z5;replace lz:=lt_of_cell z0;have h1011:=hb11.size;have HSRc:=hid (HSR.out w11 _ _ _ _ _ _ _ hs2 hm2 (HK6.out.below HX11.out));clear HJRc hs2 hm2 hb11 HX10 z1 z3 z4
  go_wp2_with fail
  refine HSRc.out.mono ?_;rintro e w12 ⟨A3,B3,n3,c3,m3,d3,L3,rfl,hs3,hk3,hm3,hb12,hfA,hfy,hfB⟩;have HX12:=hid (aj hb12 HX11.out);replace z0:=keepCell hb12 z0;replace z5:=keepCell hb12 z5;replace lz:=lt_of_cell z0;have h1112:=hb12.size;have HPTc:=hid (HPT.out w12 _ _ _ _ hs3 hm3);rw [HN0.out] at HPTc;have HK3:=hid hk3;have HFB:=hid hfB;clear HSRc hs3 hk3 hm3 hb12 hfA hfy hfB HX11
  go_wp2_with fail
  refine HPTc.out.mono ?_;rintro e w13 ⟨gT,rfl,hgT,hcT,hb13⟩;have HX13:=hid (aj hb13 HX12.out);replace HK3:=hid (HK3.out.below hb13);have h1213:=hb13.size
  have HSZ:Hid (w6.heap.size≤w12.heap.size∧w12.heap.size≤w13.heap.size∧gO<w6.heap.size∧gz+1<w2.heap.size∧w6.heap.size≤w11.heap.size):=hid (by
   have h1:=lt_of_cell HOC.out.z0
   have h2:gz+1<w2.heap.size:=by
    obtain ⟨⟨_,_,_,_,_,_,hq⟩,_⟩:=HF1.out;exact lt_of_cell hq.z0
   have h3:=HX7.out.size;refine ⟨?_,?_,?_,?_,?_⟩
   all_goals omega)
  have HQ0:Hid (zy st Q3 T=[]):=hid (by have h:=HQ3.out;rw [HN0.out] at h;rw [List.length_eq_zero_iff.1 h];rfl);clear HPTc hgT hcT hb13 HX12 z0 z5 lz h78 h89 h910 h1011 h1112 h1213 HX7;go_wp2
  go_loopw [74] (fun j wr=>j = .int .i64 0∧wr=w13) (fun _ _=>0)
  case atStart=>exact ⟨rfl,rfl⟩
  case round =>
   obtain ⟨rfl,rfl⟩:=hrel;have HOC13:=hid (HOC.out.keep HX13.out);have z0:=HOC13.out.z0;have lz:=lt_of_cell z0
   go_wp2_with fail
   refine (Dk none _ 0 _ wr).mono ?_;rintro e w15 ⟨rfl,hb15⟩;have HB15:=hid hb15;have HZO:=hid (HOC13.out.keep hb15);have HZF:Hid (∀ j,w15.frozen? ⟨gO,j,none⟩=false):=hid (fun j=>(World.frozen?_of_block (hb15.block _ (by have:=HSZ.out;show gO<_;omega))).trans ((World.frozen?_of_block (HX13.out.block _ (by have:=HSZ.out;show gO<_;omega))).trans (HOF.out j)));have HF15:Hid (ZF w15 (gz+1)):=hid (kF hb15 (kF HX13.out HF4.out));clear z0 lz hb15 HOC13;obtain ⟨z0,z1,z2,z3,z4,z5⟩:=HZO.out;have zf:=HZF.out;have lz:=lt_of_cell z0;obtain ⟨⟨r0,r1,r2,r3,r4,r5,y0,y1,y2,y3,y4,y5⟩,yf⟩:=HF15.out;have ly:=lt_of_cell y0;have hgr:gO≠gz+1:=by have:=HSZ.out;have:=HLO.out;omega
   obtain ⟨wF,hwF⟩:∃ y,y=((((((w15.setCell ⟨gO,2,none⟩ (.slice B3 m3 d3)).setCell ⟨gz+1,0,none⟩ (.slice none 0 0)).setCell ⟨gz+1,1,none⟩ (.slice Aj2 nj2 cj2)).setCell ⟨gz+1,2,none⟩ (.slice B3 m3 d3)).setCell ⟨gz+1,3,none⟩ (.int .i64 gx)).setCell ⟨gz+1,4,none⟩ (.int .i64 gy)).setCell ⟨gz+1,5,none⟩ (.int .i64 st):=⟨_,rfl⟩;have HOF2:Hid (Out (fun k=>k=gO∨k=gz+1) w15 wF):=hid (by rw [hwF];exact (((((((Out.refl (fun k=>k=gO∨k=gz+1) w15).setCell (p:=⟨gO,2,none⟩) (.inr (.inl rfl)) _).setCell (p:=⟨gz+1,0,none⟩) (.inr (.inr rfl)) _).setCell (p:=⟨gz+1,1,none⟩) (.inr (.inr rfl)) _).setCell (p:=⟨gz+1,2,none⟩) (.inr (.inr rfl)) _).setCell (p:=⟨gz+1,3,none⟩) (.inr (.inr rfl)) _).setCell (p:=⟨gz+1,4,none⟩) (.inr (.inr rfl)) _).setCell (p:=⟨gz+1,5,none⟩) (.inr (.inr rfl)) _);have HOT:Hid (Out (fun k=>k=gO∨k=gz+1) wr wF):=hid ((Out.below (D:=fun k=>k=gO∨k=gz+1) HB15.out).trans HOF2.out (fun _ _ q=>q))
   have HRET:Hid (oI (zy st Q3 T) f Jl K3 gx gy st w (.returned (.tuple #[.agg #[.slice none 0 0,.slice Aj2 nj2 cj2,.slice B3 m3 d3,.int .i64 gx,.int .i64 gy,.int .i64 st],.int .i64 0])) wF):=hid (by
    have s1:=HSZ.out;have s2:=HLO.out;have s4:=HB1.out.size;have s5:=HZ2.out;have s6:=HGZ.out;refine ⟨_,_,_,_,_,_,_,_,_,[],rfl,⟨dW.nil _ _,fun x hx=>by cases hx⟩,?_,?_,HQ0.out.symm,?_⟩
    ·refine (HJX.out.below HX13.out).outD HOT.out (fun b off e _ q => ?_);have:=HNEO.out b off e
     rcases q with q | q <;> omega
    ·refine HK3.out.outD HOT.out (fun b off e _ q => ?_);have:=HFB.out b off e
     rcases q with q | q <;> omega
    ·have hw : Below w.heap.size w wr := aj HX13.out HBS.out;refine HOT.out.toBelowD hw hw.size (fun k q=>?_)
     rcases q with q | q <;> omega)
   have q0:wF.cell? ⟨gz+1,0,none⟩=some (.slice none 0 0):=by rw [hwF];go_simp
   have q1:wF.cell? ⟨gz+1,1,none⟩=some (.slice Aj2 nj2 cj2):=by rw [hwF];go_simp
   have q2:wF.cell? ⟨gz+1,2,none⟩=some (.slice B3 m3 d3):=by rw [hwF];go_simp
   have q3:wF.cell? ⟨gz+1,3,none⟩=some (.int .i64 gx):=by rw [hwF];go_simp
   have q4:wF.cell? ⟨gz+1,4,none⟩=some (.int .i64 gy):=by rw [hwF];go_simp
   have q5:wF.cell? ⟨gz+1,5,none⟩=some (.int .i64 st):=by rw [hwF];go_simp
   clear HOF2 HOT;go_wp2;rw [← hwF];clear hwF;have HRE:=HRET.out;refine bodyPost_ret (v:=.tuple #[.agg #[.slice none 0 0,.slice Aj2 nj2 cj2,.slice B3 m3 d3,.int .i64 gx,.int .i64 gy,.int .i64 st],.int .i64 0]) (by simp [results,Tryz.results13,go_sem,q0,q1,q2,q3,q4,q5]) rfl HRE
end
end Go.Proofs.YtokgmcomgflloaaGreat
