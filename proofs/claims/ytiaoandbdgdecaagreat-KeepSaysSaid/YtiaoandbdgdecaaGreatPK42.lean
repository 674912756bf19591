/- Parts of a proof: contracts and laws. -/
import Derived.Test.YtiaoandbdgdecaaGreatPK39
import Derived.Test.YtiaoandbdgdecaaGreatPK40
import Derived.Test.YtiaoandbdgdecaaGreatPK41
import Derived.Test.YtiaoandbdgdecaaGreatPK04
set_option maxRecDepth 100000
set_option maxHeartbeats 16000000
namespace Go.Proofs.YtiaoandbdgdecaaGreat
section
set_option linter.unusedVariables false
set_option linter.unusedSimpArgs false
open Go.RowKit
theorem keepSlK {w w':World} {A:Option Addr} {n c:Nat} {l:List V} (hb:Below w.heap.size w w') (h:Sl w A n c l):Sl w' A n c l:=h.below hb
theorem keepOwnP {w w':World} {B:Nat} {s:Value} {o:List (Nat × Nat)} (hb:Below w.heap.size w w') (h:OwnE layPair 44 w B s o):OwnE layPair 44 w' B s o:=h.below hb
theorem info_pairK:(Tryz.prog.info? 44).map (fun i=>(i.zero,i.size,i.bytes))=some (some (.agg #[.int .i64 0,.int .i64 0]),2,16):=by kernel_rfl
theorem tyPairK:TyE layPair 34 44 16:=⟨Tryz.underlying34,by obtain ⟨i0,hi,hz0,hz1,hz2⟩:=info_parts info_pairK;exact ⟨i0,_,hi,hz0,hz1,hz2,rfl⟩⟩
theorem BdAt.grownK {w w':World} {g:Nat} {b:Bd} {A:Option Addr} {n c:Nat} {row:Option Nat} (h:BdAt w g b A n c) (hg:w.grownBy w' row) (hne:some g≠row):BdAt w' g b A n c:=by
 exact ⟨hg.cell h.c0 hne,hg.cell h.c1 hne,hg.cell h.c2 hne,hg.cell h.c3 hne,hg.cell h.c4 hne,hg.cell h.c5 hne,hg.cell h.c6 hne,hg.cell h.c7 hne,hg.cell h.c8 hne,hg.cell h.c9 hne,hg.cell h.c10 hne,hg.cell h.c11 hne,hg.cell h.c12 hne,fun j=>(World.frozen?_of_block (hg.block g h.lt hne)).trans (h.free j)⟩

structure NR (w0 : World) (s : Value) (o : List (Nat × Nat)) (w : World) : Prop where
 own:OwnE layPair 44 w w0.heap.size s o
 bel:Below w0.heap.size w0 w
structure NI (w0 : World) (ga : Nat) (x : BE) (s : Value) (o : List (Nat × Nat)) (w : World) : Prop where
 own:OwnE layPair 44 w w0.heap.size s o
 bel:Below w0.heap.size w0 w
 ba:BdAt w ga x.b x.A x.n x.c
 ns:∀ q,s.ownBlock=some q→q≠ga
theorem NI.keep {w0:World} {ga:Nat} {x:BE} {s:Value} {o:List (Nat × Nat)} {w w':World} (hb:Below w.heap.size w w') (h:NI w0 ga x s o w):NI w0 ga x s o w':=⟨h.own.below hb,keepBelow hb h.bel,keepBd hb h.ba,h.ns⟩
theorem NI.app {w0:World} {ga:Nat} {x:BE} {s s':Value} {o o':List (Nat × Nat)} {w w':World} (h:NI w0 ga x s o w) (ho:OwnE layPair 44 w' w0.heap.size s' o') (hg:w.grownBy w' s.ownBlock) (hat:s'.ownBlock=s.ownBlock∨s'.ownBlock=some w.heap.size):NI w0 ga x s' o' w':=by
 have hga:=h.ba.lt
 refine ⟨ho,h.bel.grown hg h.bel.size (fun q hq=>(h.own.lt hq).1),h.ba.grownK hg (fun e=>h.ns ga e.symm rfl),fun q hq=>?_⟩
 rcases hat with e | e
 ·exact h.ns q (by rw [← e];exact hq)
 ·rw [e] at hq
  cases hq
  omega
theorem mass_bd {x:BE} (h:bodyE x.b x.l=0):0≤x.b.mass∧x.b.mass≤1099511627776:=by
 unfold bodyE at h
 by_cases h0:shapeE x.l=0
 ·rw [if_neg (by simp [h0])] at h
  unfold numE at h
  split at h
  ·split at h
   ·rename_i h2
    simp only [Bool.and_eq_true] at h2
    exact inB_iff.1 h2.1.1.1.1
   ·cases h
  ·cases h
 ·rw [if_pos h0] at h
  exact absurd h h0
theorem plB_len {x:BE} (h:bodyE x.b x.l=0):0<(plB x).length∧(plB x).length≤8:=by
 unfold plB
 obtain ⟨h8,h3,-,-⟩:=checkE_zero (placed_ok h)
 omega

theorem nearB_no {L:List BE} {i k:Nat} (h:still2 L (i,k)=true):nearB L i k=false:=by unfold nearB;rw [h];rfl
theorem nearB_yes {L:List BE} {i k:Nat} (h:still2 L (i,k)=false):nearB L i k=tchB (bxAt (L.map bxB) i) (bxAt (L.map bxB) k):=by unfold nearB;rw [h];rfl
def RetPrK (l:List (Nat × Nat)) (w:World) (e:Ending) (w':World):Prop:=∃ A n c,e = .returned (.slice A n c)∧SlE layPair w' A n c l∧Below w.heap.size w w'
theorem rnear_calls (A:Option Addr) (n c:Nat) (L:List BE) (w:World) (hS:SlB w A n c L) (hE:bodiesE L=0):Calls Tryz.prog 23 #[.slice A n c] w (RetPrK (nearL L) w):=by
 have hn:=hS.sl.len
 subst hn
 have HS:=hid hS
 have hcap:=hS.sl.cap
 have hbig:=hS.sl.big
 obtain ⟨h64,hval⟩:=bodiesE_zero hE
 have HVAL:=hid hval
 have HN0:Hid (NR w (.slice none 0 0) (nearTo L 0) w):=⟨OwnE.nil _ _ _ _,Below.refl _ _⟩
 clear hS hE hval
 go_enter Tryz.func23,Tryz.ntmps23
 go_wp2
 go_loopw [3,10] (fun s j wr=>∃ i:Nat,i≤L.length∧j = .int .i64 i∧NR w s (nearTo L i) wr) (fun _ j _=>L.length-(intOf j).toNat)
 case atStart=>exact ⟨0,Nat.zero_le _,rfl,HN0.out⟩
 case round =>
  clear HN0
  obtain ⟨i,hi,rfl,hnr⟩:=hrel
  obtain ⟨wo,rfl⟩:∃ wo:World,wo=wr:=⟨_,rfl⟩
  obtain ⟨s,hs⟩:∃ s,s=u3:=⟨_,rfl⟩
  rw [← hs] at hnr ⊢
  clear hs
  by_cases hlt:i<L.length
  ·obtain ⟨x, hx⟩ : ∃ x, x = L[i] := ⟨_, rfl⟩
   have HX:=hid hx
   have HXM:Hid (x ∈ L):=by rw [hx];exact List.getElem_mem hlt
   have HSU:=hid (nearTo_succ L i)
   have HTL:=hid (nearTo_len L i)
   have HSO:=hid (HS.out.below hnr.bel)
   obtain ⟨bL,oL,rfl,hCL⟩:=HSO.out.sl.at_ (by intro h;rw [h] at hlt;simp at hlt)
   obtain ⟨m0,m1,m2,m3,m4,m5,m6,m7,m8,m9,m10,m11,m12⟩:=cells_bd hCL hlt hx
   have hbl:=hCL.lt
   have hlt':(i:Int)<(L.length:Int):=by omega
   have hwi:IntKind.i64.wrap ((i:Int)+1)=(i:Int)+1:=IntWalk.i64_in _ (by omega)
   obtain ⟨ga,hga⟩:∃ g,g=wo.heap.size:=⟨_,rfl⟩
   obtain ⟨wp,hwp⟩:∃ w',w'=wo.alloc (.cells #[.int .i64 x.b.px,.int .i64 x.b.py,.int .i64 x.b.vx,.int .i64 x.b.vy,.int .i64 x.b.ang,.int .i64 x.b.spin,.int .i64 x.b.mass,.int .i64 x.b.iner,.int .i64 x.b.bounce,.int .i64 x.b.rub,.slice x.A x.n x.c,.bool x.b.asleep,.int .i64 x.b.calm] 58):=⟨_,rfl⟩
   have hbw:Below wo.heap.size wo wp:=by rw [hwp];go_grown
   have HNI:Hid (NI w ga x s (nearTo L i ++ rowN L i (i+1)) wp):=by
    show NI _ _ _ _ _ _
    rw [rowN_low,List.append_nil]
    exact ⟨hnr.own.below hbw,keepBelow hbw hnr.bel,by rw [hwp,hga];exact BdAt.here wo x.b x.A x.n x.c _,fun q hq e=>by have:=(hnr.own.lt hq).2;omega⟩
   have HPX:Hid (∀ w',Sl w' x.A x.n x.c x.l→Calls Tryz.prog 48 #[bodyV x.b x.A x.n x.c] w' (RetVecs (plB x) w')):=fun w' h=>rplaced_calls x.b x.A x.n x.c x.l w' (HVAL.out x HXM.out) h
   have hpl:=plB_len (HVAL.out x HXM.out)
   have HAX:Hid (∀ (A1:Option Addr) (n1 c1:Nat) (w':World),Sl w' A1 n1 c1 (plB x)→Calls Tryz.prog 47 #[.slice A1 n1 c1] w' (Ret (.agg #[.int .i64 (bxB x).1.1,.int .i64 (bxB x).1.2,.int .i64 (bxB x).2.1,.int .i64 (bxB x).2.2]) w')):=fun A1 n1 c1 w' h=>raround_calls A1 n1 c1 (plB x) w' h hpl.1 hpl.2
   have HBX:Hid (bxAt (L.map bxB) i=bxB x):=by show _=_;rw [hx];exact bxAt_map hlt
   have HMX:Hid (massN L i=x.b.mass):=by show _=_;rw [hx];exact massN_at hlt
   have hmx:=mass_bd (HVAL.out x HXM.out)
   clear hCL hnr hx HSO hpl
   generalize nearTo L i=o0 at *
   go_wp2
   rw [← hwp,← hga]
   clear hwp hga hbw m0 m1 m2 m3 m4 m5 m6 m7 m8 m9 m10 m11 m12 hbl
   go_loopw [3,6] (fun s' kv wr=>∃ k:Nat,i<k∧k≤L.length∧kv = .int .i64 k∧NI w ga x s' (o0 ++ rowN L i k) wr) (fun _ kv _=>L.length-(intOf kv).toNat)
   case atStart=>exact ⟨i+1,by omega,hlt,by go_num,HNI.out⟩
   case round =>
    clear HNI
    obtain ⟨k,hik,hk,rfl,hni⟩:=hrel
    obtain ⟨wz,rfl⟩:∃ wz:World,wz=wr:=⟨_,rfl⟩
    obtain ⟨s',hs'⟩:∃ s',s'=u3:=⟨_,rfl⟩
    rw [← hs'] at hni ⊢
    clear hs'
    by_cases hlt2:k<L.length
    ·obtain ⟨y, hy⟩ : ∃ y, y = L[k] := ⟨_, rfl⟩
     have HYM:Hid (y ∈ L):=by rw [hy];exact List.getElem_mem hlt2
     have HRS:=hid (rowN_succ (L:=L) hik)
     have HRL:=hid (rowN_len L i k)
     obtain ⟨bL2,oL2,he2,hCL⟩:=(HS.out.below hni.bel).sl.at_ (by intro h;rw [h] at hlt2;simp at hlt2)
     cases he2
     obtain ⟨v0,v1,v2,v3,v4,v5,v6,v7,v8,v9,v10,v11,v12⟩:=cells_bd hCL hlt2 hy
     have hbl:=hCL.lt
     have hlt2':(k:Int)<(L.length:Int):=by omega
     have hwk:IntKind.i64.wrap ((k:Int)+1)=(k:Int)+1:=IntWalk.i64_in _ (by omega)
     obtain ⟨gb,hgb⟩:∃ g,g=wz.heap.size:=⟨_,rfl⟩
     obtain ⟨wv,hwv⟩:∃ w',w'=wz.alloc (.cells #[.int .i64 y.b.px,.int .i64 y.b.py,.int .i64 y.b.vx,.int .i64 y.b.vy,.int .i64 y.b.ang,.int .i64 y.b.spin,.int .i64 y.b.mass,.int .i64 y.b.iner,.int .i64 y.b.bounce,.int .i64 y.b.rub,.slice y.A y.n y.c,.bool y.b.asleep,.int .i64 y.b.calm] 58):=⟨_,rfl⟩
     have hbv:Below wz.heap.size wz wv:=by rw [hwv];go_grown
     have HNV:=hid (hni.keep hbv)
     have HNX:=hid HNV.out.ba
     have HNY:Hid (BdAt wv gb y.b y.A y.n y.c):=by rw [hwv,hgb];exact BdAt.here wz y.b y.A y.n y.c _
     have HSX:=hid ((HS.out.below HNV.out.bel).co x HXM.out)
     have HSY:=hid ((HS.out.below HNV.out.bel).co y HYM.out)
     have HGB:Hid (ga<gb):=by have:=hni.ba.lt;show _<_;omega
     have HPY:Hid (∀ w',Sl w' y.A y.n y.c y.l→Calls Tryz.prog 48 #[bodyV y.b y.A y.n y.c] w' (RetVecs (plB y) w')):=fun w' h=>rplaced_calls y.b y.A y.n y.c y.l w' (HVAL.out y HYM.out) h
     have hpl:=plB_len (HVAL.out y HYM.out)
     have HAY:Hid (∀ (A1:Option Addr) (n1 c1:Nat) (w':World),Sl w' A1 n1 c1 (plB y)→Calls Tryz.prog 47 #[.slice A1 n1 c1] w' (Ret (.agg #[.int .i64 (bxB y).1.1,.int .i64 (bxB y).1.2,.int .i64 (bxB y).2.1,.int .i64 (bxB y).2.2]) w')):=fun A1 n1 c1 w' h=>raround_calls A1 n1 c1 (plB y) w' h hpl.1 hpl.2
     have HTO:Hid (∀ w',Calls Tryz.prog 46 #[.agg #[.int .i64 (bxB x).1.1,.int .i64 (bxB x).1.2,.int .i64 (bxB x).2.1,.int .i64 (bxB x).2.2],.agg #[.int .i64 (bxB y).1.1,.int .i64 (bxB y).1.2,.int .i64 (bxB y).2.1,.int .i64 (bxB y).2.2]] w' (Ret (.bool (tchB (bxB x) (bxB y))) w')):=fun w'=>rtouch_calls _ _ _ _ _ _ _ _ w'
     have HBY:Hid (bxAt (L.map bxB) k=bxB y):=by show _=_;rw [hy];exact bxAt_map hlt2
     have HMY:Hid (massN L k=y.b.mass):=by show _=_;rw [hy];exact massN_at hlt2
     have hmy:=mass_bd (HVAL.out y HYM.out)
     have hwm:IntKind.i64.wrap (x.b.mass+y.b.mass)=x.b.mass+y.b.mass:=IntWalk.i64_in _ (by omega)
     have HOW:=hid HNV.out.own
     have HBW:=hid HNV.out.bel
     have HNSA:=hid HNV.out.ns
     have HLO:Hid ((o0 ++ rowN L i k).length≤8192):=by
      show _≤_
      have h1:=HTL.out
      have h2:=HRL.out
      have h3:=Nat.mul_le_mul (show i≤64 by omega) (show L.length≤64 by omega)
      rw [List.length_append]
      omega
     by_cases hm:0<x.b.mass+y.b.mass
     ·have HST:Hid (still2 L (i,k)=false):=by
       show _=_
       unfold still2
       rw [HMX.out,HMY.out,Bool.eq_false_iff]
       simp
       omega
      have HRN:Hid (rowN L i (k+1)=rowN L i k ++ if tchB (bxB x) (bxB y)=true then [(i,k)] else []):=by show _=_;rw [HRS.out,nearB_yes HST.out,HBX.out,HBY.out]
      clear hni hCL hbv hy HNV HST HRS HMY HBY hpl
      generalize tchB (bxB x) (bxB y)=tb at *
      generalize (bxB x).1.1=p1 at *
      generalize (bxB x).1.2=p2 at *
      generalize (bxB x).2.1=p3 at *
      generalize (bxB x).2.2=p4 at *
      generalize (bxB y).1.1=r1 at *
      generalize (bxB y).1.2=r2 at *
      generalize (bxB y).2.1=r3 at *
      generalize (bxB y).2.2=r4 at *
      generalize rowN L i k=o1 at *
      obtain ⟨o,ho⟩:∃ o,o=o0 ++ o1:=⟨_,rfl⟩
      have HOE:Hid (o0 ++ o1=o):=ho.symm
      rw [← ho] at HOW HLO
      clear ho
      go_upto_region 9 with fail
      rw [← hwv,← hgb]
      clear hwv hgb v0 v1 v2 v3 v4 v5 v6 v7 v8 v9 v10 v11 v12 hbl
      refine wp_region_noPanic ?_
      refine wp_region_U (S:=(S2 (fun w'=>BdAt w' ga x.b x.A x.n x.c∧BdAt w' gb y.b y.A y.n y.c∧Sl w' x.A x.n x.c x.l∧Sl w' y.A y.n y.c y.l∧OwnE layPair 44 w' w.heap.size s' o∧Below w.heap.size w w'))) (T:=(fun _=>0)) (by kernel_rfl) (S2i0 ⟨HNX.out.drew,HNY.out.drew,HSX.out.below (Below.refl _ _).drew,HSY.out.below (Below.refl _ _).drew,HOW.out.drew,HBW.out.drew⟩) (fun hH=>?_)
      have hWr1:Weaker (S2 (fun w'=>BdAt w' ga x.b x.A x.n x.c∧BdAt w' gb y.b y.A y.n y.c∧Sl w' x.A x.n x.c x.l∧Sl w' y.A y.n y.c y.l∧OwnE layPair 44 w' w.heap.size s' o∧Below w.heap.size w w')):=weaker2 _
      refine Utn [(0,27),(1,28),(2,29),(3,30),(4,31),(5,32),(6,33),(7,34),(10,37)] 6 0 0 (L':=?Lr1_1) hWr1 hH ?hyr1_1 ?_
      case hyr1_1=>((iterate 9 apply tkC;rfl;kernel_rfl;intro w' hSw;replace hSw:=S2o0 hSw;(try dsimp only at hSw);have q0:=hSw.1;have q1:=hSw.2.1;have q2:=hSw.2.2.1;have q3:=hSw.2.2.2.1;have q4:=hSw.2.2.2.2.1;have q5:=hSw.2.2.2.2.2;obtain ⟨qa0_0,qa0_1,qa0_2,qa0_3,qa0_4,qa0_5,qa0_6,qa0_7,qa0_8,qa0_9,qa0_10,qa0_11,qa0_12,-⟩:=id q0;obtain ⟨qa1_0,qa1_1,qa1_2,qa1_3,qa1_4,qa1_5,qa1_6,qa1_7,qa1_8,qa1_9,qa1_10,qa1_11,qa1_12,-⟩:=id q1;(try simp only [sB,sC]);go_simp;(try with_reducible rfl));exact tkN)
      simp only [sB,sC]
      refine U1 8 0 rfl (fun K hK=>?_)
      try clear hb
      have hG:=hH
      replace hG:=S2o0 hG;(try dsimp only at hG);have fq0:=hG.1;have fq1:=hG.2.1;have fq2:=hG.2.2.1;have fq3:=hG.2.2.2.1;have fq4:=hG.2.2.2.2.1;have fq5:=hG.2.2.2.2.2
      go_simp
      (go_at_call 48;refine (HPX.out _ fq2).mono ?_;rintro e wn ⟨A1,n1,c1,rfl,hDa,-,hb⟩)
      refine hK.out _ _ ?hsr1_10 (fun hH2=>?hrr1_10)
      case hsr1_10=>exact S2i0 (by have hG:=hH;replace hG:=S2o0 hG;(try dsimp only at hG);have q0:=hG.1;have q1:=hG.2.1;have q2:=hG.2.2.1;have q3:=hG.2.2.2.1;have q4:=hG.2.2.2.2.1;have q5:=hG.2.2.2.2.2;exact ⟨keepBd hb q0,keepBd hb q1,keepSlK hb q2,keepSlK hb q3,keepOwnP hb q4,keepBelow hb q5⟩)
      clear hK K hH
      have hH:=hH2
      clear hH2
      try simp only [Act.put,sA,sB,sC]
      clear hG fq0 fq1 fq2 fq3 fq4 fq5
      refine U1 9 0 rfl (fun K hK=>?_)
      try clear hb
      go_simp
      (go_at_call 47;refine (HAX.out _ _ _ _ hDa).mono ?_;rintro e wn ⟨rfl,hb⟩)
      refine hK.out _ _ ?hsr1_11 (fun hH2=>?hrr1_11)
      case hsr1_11=>exact S2i0 (by have hG:=hH;replace hG:=S2o0 hG;(try dsimp only at hG);have q0:=hG.1;have q1:=hG.2.1;have q2:=hG.2.2.1;have q3:=hG.2.2.2.1;have q4:=hG.2.2.2.2.1;have q5:=hG.2.2.2.2.2;exact ⟨keepBd hb q0,keepBd hb q1,keepSlK hb q2,keepSlK hb q3,keepOwnP hb q4,keepBelow hb q5⟩)
      clear hK K hH
      have hH:=hH2
      clear hH2
      try simp only [Act.put,sA,sB,sC]
      clear hDa
      refine U1 11 0 rfl (fun K hK=>?_)
      try clear hb
      have hG:=hH
      replace hG:=S2o0 hG;(try dsimp only at hG);have fq0:=hG.1;have fq1:=hG.2.1;have fq2:=hG.2.2.1;have fq3:=hG.2.2.2.1;have fq4:=hG.2.2.2.2.1;have fq5:=hG.2.2.2.2.2
      go_simp
      (go_at_call 48;refine (HPY.out _ fq3).mono ?_;rintro e wn ⟨A2,n2,c2,rfl,hDb,-,hb⟩)
      refine hK.out _ _ ?hsr1_12 (fun hH2=>?hrr1_12)
      case hsr1_12=>exact S2i0 (by have hG:=hH;replace hG:=S2o0 hG;(try dsimp only at hG);have q0:=hG.1;have q1:=hG.2.1;have q2:=hG.2.2.1;have q3:=hG.2.2.2.1;have q4:=hG.2.2.2.2.1;have q5:=hG.2.2.2.2.2;exact ⟨keepBd hb q0,keepBd hb q1,keepSlK hb q2,keepSlK hb q3,keepOwnP hb q4,keepBelow hb q5⟩)
      clear hK K hH
      have hH:=hH2
      clear hH2
      try simp only [Act.put,sA,sB,sC]
      clear hG fq0 fq1 fq2 fq3 fq4 fq5
      refine U1 12 0 rfl (fun K hK=>?_)
      try clear hb
      go_simp
      (go_at_call 47;refine (HAY.out _ _ _ _ hDb).mono ?_;rintro e wn ⟨rfl,hb⟩)
      refine hK.out _ _ ?hsr1_13 (fun hH2=>?hrr1_13)
      case hsr1_13=>exact S2i0 (by have hG:=hH;replace hG:=S2o0 hG;(try dsimp only at hG);have q0:=hG.1;have q1:=hG.2.1;have q2:=hG.2.2.1;have q3:=hG.2.2.2.1;have q4:=hG.2.2.2.2.1;have q5:=hG.2.2.2.2.2;exact ⟨keepBd hb q0,keepBd hb q1,keepSlK hb q2,keepSlK hb q3,keepOwnP hb q4,keepBelow hb q5⟩)
      clear hK K hH
      have hH:=hH2
      clear hH2
      try simp only [Act.put,sA,sB,sC]
      clear hDb
      refine U1 13 0 rfl (fun K hK=>?_)
      try clear hb
      go_simp
      (go_at_call 46;refine (HTO.out _).mono ?_;rintro e wl9 ⟨rfl,hb⟩)
      refine hK.out _ _ ?hsr1_14 (fun hH2=>?hrr1_14)
      case hsr1_14=>exact S2i0 (by have hG:=hH;replace hG:=S2o0 hG;(try dsimp only at hG);have q0:=hG.1;have q1:=hG.2.1;have q2:=hG.2.2.1;have q3:=hG.2.2.2.1;have q4:=hG.2.2.2.2.1;have q5:=hG.2.2.2.2.2;exact ⟨keepBd hb q0,keepBd hb q1,keepSlK hb q2,keepSlK hb q3,keepOwnP hb q4,keepBelow hb q5⟩)
      clear hK K hH
      have hH:=hH2
      clear hH2
      try simp only [Act.put,sA,sB,sC]
      refine Ut 14 41 0 0 0 (v:=?vr1_15) rfl hWr1 hH ?hyr1_15 ?_
      case hyr1_15=>(intro w' hSw;clear hSw;go_simp;try (with_reducible rfl))
      simp only [sB,sC]
      refine wpAnyU_done (by kernel_rfl) ?_ _ _
      refine NoPanic.normal ?_
      clear hWr1
      replace hH:=S2o0 hH
      (try dsimp only at hH)
      have t0:=hH.1
      have t1:=hH.2.1
      have t2:=hH.2.2.1
      have t3:=hH.2.2.2.1
      have t4:=hH.2.2.2.2.1
      have t5:=hH.2.2.2.2.2
      have HN2:Hid (NI w ga x s' o wl9):=⟨t4,t5,t0,HNSA.out⟩
      clear HNX HNY HSX HSY HOW HBW HPY HAY HTO t0 t1 t2 t3 t4 t5 HNSA
      cases tb with
      | true =>
       have HRN2:Hid (o0 ++ rowN L i (k+1)=o ++ [(i,k)]):=by show _=_;rw [HRN.out,if_pos rfl,← List.append_assoc,HOE.out]
       clear HRN
       go_wp2_with (at_builtin;refine wpList_append_E tyPairK rfl _ _ rfl w.heap.size _ _ rfl (HN2.out.own.alloc _) _ 0 1 1 [(i,k)] rfl rfl (cells_pair (by go_simp) (by go_simp)) (by have:=HLO.out;simp;omega) (by have:=HLO.out;simp;omega) (by have:=HN2.out.bel.size;simp;omega) ?_;intro v' w7 ho1 hg1 hat;have HN7:=hid ((HN2.out.keep Ba).app ho1 hg1 hat);clear ho1 hg1 hat)
       clear HN2
       go_roundw
       case rel=>exact ⟨k+1,by omega,hlt2,by go_num,by rw [HRN2.out];exact HN7.out⟩
       case measure=>simp [intOf];omega
      | false =>
       have HRN2:Hid (o0 ++ rowN L i (k+1)=o):=by show _=_;rw [HRN.out,if_neg (by simp),List.append_nil,HOE.out]
       clear HRN
       go_wp2
       go_roundw
       case rel=>exact ⟨k+1,by omega,hlt2,by go_num,by rw [HRN2.out];exact HN2.out⟩
       case measure=>simp [intOf];omega
     ·have HST:Hid (still2 L (i,k)=true):=by
       show _=_
       unfold still2
       rw [HMX.out,HMY.out]
       simp
       omega
      have HRN:Hid (rowN L i (k+1)=rowN L i k):=by show _=_;rw [HRS.out,nearB_no HST.out];simp
      have hgt:¬ x.b.mass+y.b.mass > 0:=by omega
      clear hni hCL hbv hy HNV HST HRS HMY HBY hpl HPY HAY HTO
      generalize rowN L i k=o1 at *
      obtain ⟨o,ho⟩:∃ o,o=o0 ++ o1:=⟨_,rfl⟩
      have HOE:Hid (o0 ++ o1=o):=ho.symm
      rw [← ho] at HOW HLO
      clear ho
      go_upto_region 9 with fail
      rw [← hwv,← hgb]
      clear hwv hgb v0 v1 v2 v3 v4 v5 v6 v7 v8 v9 v10 v11 v12 hbl
      refine wp_region_noPanic ?_
      refine wp_region_U (S:=(S2 (fun w'=>BdAt w' ga x.b x.A x.n x.c∧BdAt w' gb y.b y.A y.n y.c∧Sl w' x.A x.n x.c x.l∧Sl w' y.A y.n y.c y.l∧OwnE layPair 44 w' w.heap.size s' o∧Below w.heap.size w w'))) (T:=(fun _=>0)) (by kernel_rfl) (S2i0 ⟨HNX.out.drew,HNY.out.drew,HSX.out.below (Below.refl _ _).drew,HSY.out.below (Below.refl _ _).drew,HOW.out.drew,HBW.out.drew⟩) (fun hH=>?_)
      have hWr2:Weaker (S2 (fun w'=>BdAt w' ga x.b x.A x.n x.c∧BdAt w' gb y.b y.A y.n y.c∧Sl w' x.A x.n x.c x.l∧Sl w' y.A y.n y.c y.l∧OwnE layPair 44 w' w.heap.size s' o∧Below w.heap.size w w')):=weaker2 _
      refine Utn [(0,27),(1,28),(2,29),(3,30),(4,31),(5,32),(6,33)] 8 0 0 (L':=?Lr2_1) hWr2 hH ?hyr2_1 ?_
      case hyr2_1=>((iterate 7 apply tkC;rfl;kernel_rfl;intro w' hSw;replace hSw:=S2o0 hSw;(try dsimp only at hSw);have q0:=hSw.1;have q1:=hSw.2.1;have q2:=hSw.2.2.1;have q3:=hSw.2.2.2.1;have q4:=hSw.2.2.2.2.1;have q5:=hSw.2.2.2.2.2;obtain ⟨qa0_0,qa0_1,qa0_2,qa0_3,qa0_4,qa0_5,qa0_6,qa0_7,qa0_8,qa0_9,qa0_10,qa0_11,qa0_12,-⟩:=id q0;obtain ⟨qa1_0,qa1_1,qa1_2,qa1_3,qa1_4,qa1_5,qa1_6,qa1_7,qa1_8,qa1_9,qa1_10,qa1_11,qa1_12,-⟩:=id q1;(try simp only [sB,sC]);go_simp;(try with_reducible rfl));exact tkN)
      simp only [sB,sC]
      refine U_skips (by kernel_rfl) (fun _ _ _ _ h=>h) hWr2 0 0 (by omega) hH [(7,34),(8,35),(9,36),(10,37),(11,38),(12,39),(13,40)] 1 _ _ _ (by kernel_rfl) (by kernel_rfl) ?_
      simp only [tsetUndef,List.set_cons_zero,List.set_cons_succ]
      refine Ut 14 41 0 0 0 (v:=?vr2_8) rfl hWr2 hH ?hyr2_8 ?_
      case hyr2_8=>(intro w' hSw;clear hSw;go_simp;try (with_reducible rfl))
      simp only [sB,sC]
      refine wpAnyU_done (by kernel_rfl) ?_ _ _
      refine NoPanic.normal ?_
      clear hWr2
      replace hH:=S2o0 hH
      (try dsimp only at hH)
      have t0:=hH.1
      have t1:=hH.2.1
      have t2:=hH.2.2.1
      have t3:=hH.2.2.2.1
      have t4:=hH.2.2.2.2.1
      have t5:=hH.2.2.2.2.2
      have HN2:Hid (NI w ga x s' o wv.drew):=⟨t4,t5,t0,HNSA.out⟩
      clear HNX HNY HSX HSY HOW HBW t0 t1 t2 t3 t4 t5 HNSA
      generalize wv.drew=wq at *
      go_wp2
      go_roundw
      case rel=>exact ⟨k+1,by omega,hlt2,by go_num,by rw [HRN.out,HOE.out];exact HN2.out⟩
      case measure=>simp [intOf];omega
    ·have hkn : k = L.length := by omega
     subst hkn
     have HNR:Hid (NR w s' (nearTo L (i+1)) wz):=⟨by rw [HSU.out];exact hni.own,hni.bel⟩
     clear hni
     go_wp2
     go_roundw
     case rel=>exact ⟨i+1,hlt,by go_num,HNR.out⟩
     case measure=>simp [intOf];omega
  ·have hin : i = L.length := by omega
   subst hin
   rw [nearTo_all] at hnr
   obtain ⟨sA,sn,sc,rfl,hsl,-⟩:=hnr.own.sl
   have HR:Hid (RetPrK (nearL L) w (.returned (.slice sA sn sc)) wo):=⟨sA,sn,sc,rfl,hsl,hnr.bel⟩
   clear hnr hsl
   go_wp2
   refine bodyPost_ret (v:=.slice sA sn sc) (by simp [results,Tryz.results23,go_sem]) rfl HR.out
end
end Go.Proofs.YtiaoandbdgdecaaGreat
