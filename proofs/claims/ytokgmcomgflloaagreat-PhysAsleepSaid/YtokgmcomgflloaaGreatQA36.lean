/- Parts of a proof: contracts and laws. -/
import Derived.Test.YtokgmcomgflloaaGreatQA21
import Derived.Test.YtokgmcomgflloaaGreatQA07
import Derived.Test.YtokgmcomgflloaaGreatQA06
import Derived.Test.YtokgmcomgflloaaGreatQA04
import Derived.Test.YtokgmcomgflloaaGreatQA10
import Derived.Test.YtokgmcomgflloaaGreatQA02
import Derived.Test.YtokgmcomgflloaaGreatQA17
set_option maxRecDepth 100000
set_option maxHeartbeats 16000000
namespace Go.Proofs.YtokgmcomgflloaaGreat
section
set_option linter.unusedVariables false
set_option linter.unusedSimpArgs false
open Go.RowKit
variable {w0 w w':World}

structure Rq (w0 : World) (g : Nat) (L : List BE) (w : World) : Prop where
 bl:BL w g L
 gr:w0.grownBy w (some g)
 lt:g<w0.heap.size
 lo:∀ y ∈ L,∀ bx off,y.A=some ⟨bx,off,none⟩→bx<w0.heap.size
 sz:w0.heap.size≤w.heap.size
theorem J6 {g:Nat} {L:List BE} {w w':World} (hb:Below w.heap.size w w') (h:Rq w0 g L w):Rq w0 g L w':=⟨fI hb h.bl,aS h.gr (bN hb),h.lt,h.lo,Nat.le_trans h.sz hb.size⟩
theorem Rq.drew {g:Nat} {L:List BE} {w:World} (h:Rq w0 g L w):Rq w0 g L w.drew:=J6 (Below.refl _ _).drew h
theorem Rq.alloc {g:Nat} {L:List BE} {w:World} (h:Rq w0 g L w) (o:Obj):Rq w0 g L (w.alloc o):=J6 Ba h
theorem Rq.set {g:Nat} {L:List BE} {w:World} (h:Rq w0 g L w) {k o:Nat} {v:Value} (hk:w0.heap.size≤k):Rq w0 g L (w.setCell ⟨k,o,none⟩ v) :=
 have hlt:=h.lt
 ⟨h.bl.off (by omega) (fun y hy bx off e=>by have:=h.lo y hy bx off e;omega),⟨h.gr.os,h.gr.tape,h.gr.output,by simp;exact h.gr.size,fun j hj hne=>by
  have e:=(aN w k o v).block j (Nat.lt_of_lt_of_le hj h.sz) (by simp;omega)
  exact e.trans (h.gr.block j hj hne)⟩,h.lt,h.lo,by simp;exact h.sz⟩
theorem Rq.setA {g:Nat} {L:List BE} {w:World} (h:Rq w0 g L w) {k:Nat} (hk:k<L.length) (x:BE) (hs:Sl w x.A x.n x.c x.l) (hn:∀ bx off,x.A=some ⟨bx,off,none⟩→bx≠g) (hl:∀ bx off,x.A=some ⟨bx,off,none⟩→bx<w0.heap.size):Rq w0 g (L.set k x) (fF w g (k*13) x.b x.A x.n x.c) :=
 ⟨h.bl.set hk x hs hn,aS h.gr (iF _ _ _ _ _ _ _),h.lt,fun y hy=>(List.mem_or_eq_of_mem_set hy).elim (fun q=>h.lo y q) (fun q=>by rw [q];exact hl),Nat.le_trans h.sz (iF w g (k*13) x.b x.A x.n x.c).size⟩

theorem qL (A:Option Addr) (n c:Nat) (l:List BE) (w:World) (hS:dW jo w A n c l) (hl:l.length≤100000):Calls Tryz.prog 44 #[.slice A n c] w fun e w'=>∃ s,e = .returned s∧aU jo 27 w' w.heap.size s l∧Below w.heap.size w w':=by
 have hcmp:∀ w':World,(binOp .eql 29 (.slice A n c) (.slice none 0 0)).run Tryz.prog w' = .ok (.bool A.isNone) w':=fun w'=>Lib.run_eql_slice_nil w' 29 _ A n c 0 0 Tryz.underlying29
 cases A with
 | none =>
  have hl0:l=[]:=by
   rcases l with _ | ⟨a,r⟩
   ·rfl
   ·obtain ⟨b,off,h,_⟩:=hS.at_ (by simp);cases h
  subst hl0;clear hS
  go_enter Tryz.func44,Tryz.ntmps44
  go_wp2;refine bodyPost_ret (v:=.slice none 0 0) (by simp [results,Tryz.results44,go_sem]) rfl ⟨_,rfl,aU.nil _ _ _ _,Below.refl _ _⟩
 | some ad =>
  have hn:=hS.len;have HS:=hid hS;clear hS;subst hn;have HO:Hid (aU jo 27 (w.alloc (.cells #[] 27)) w.heap.size (.slice (some ⟨w.heap.size,0,none⟩) 0 0) []):=⟨by simp [fB],.inr ⟨w.heap.size,0,#[],rfl,Nat.le_refl _,heap_alloc_new w _,Nat.le_refl _,Nat.zero_le _,by simp,by simp [fB]⟩⟩;have hb0:Below w.heap.size w (w.alloc (.cells #[] 27)):=by go_grown
  go_enter Tryz.func44,Tryz.ntmps44
  go_wp2_with (at_builtin;refine kC xX rfl _ _ rfl w.heap.size _ [] rfl HO.out _ _ _ l rfl (HS.out.below hb0) (by first | omega | (simp;omega)) (by first | omega | (simp;omega)) (by simp) ?_;intro v' w1 ho1 hg1 hat;have HO1:=hid ho1;have hb1:=hid (hb0.grown hg1 (by simp) (fun k hk=>(HO.out.lt hk).1));clear ho1 hg1 hat)
  obtain ⟨A',n',c',rfl,-,-⟩:=HO1.out.sl;refine bodyPost_ret (v:=.slice A' n' c') (by simp [results,Tryz.results44,go_sem]) rfl ⟨_,rfl,by simpa using HO1.out,hb1.out⟩

theorem RV.own {w w1:World} {s:Value} {L:List BE} (ho:aU jo 27 w1 w.heap.size s L) (hb:Below w.heap.size w w1) (hc:∀ x ∈ L,Sl w x.A x.n x.c x.l) (hv:∀ x ∈ L,aT x.b x.l=0):RV w s (L.map aF) w1:=by
 refine ⟨L,rfl,hb,?_⟩
 rcases ho.form with ⟨h1,h2⟩ | ⟨g,cap,hs,h1,h2,h3,h4,h5,h6⟩
 ·exact .inl ⟨h1,h2⟩
 ·refine .inr ⟨g, cap, hs, h1, h3, h4, ⟨h6, h5, fun x hx => (hc x hx).below hb, fun x hx bx off e => fun e2 => ?_⟩⟩;have:=kI (hc x hx) (fun e=>by have:=hv x hx;rw [e] at this;exact absurd (bJ this).1 (by decide)) bx off e;omega
structure Cg (w : World) (g : Nat) (x : Ct) : Prop where
 c0:w.cell? ⟨g,0,none⟩=some (.int .i64 x.a)
 c1:w.cell? ⟨g,1,none⟩=some (.int .i64 x.b)
 c2:w.cell? ⟨g,2,none⟩=some (.int .i64 x.id)
 c3:w.cell? ⟨g,3,none⟩=some (.int .i64 x.px)
 c4:w.cell? ⟨g,4,none⟩=some (.int .i64 x.py)
 c5:w.cell? ⟨g,5,none⟩=some (.int .i64 x.nx)
 c6:w.cell? ⟨g,6,none⟩=some (.int .i64 x.ny)
 c7:w.cell? ⟨g,7,none⟩=some (.int .i64 x.dep)
 c8:w.cell? ⟨g,8,none⟩=some (.int .i64 x.push)
 c9:w.cell? ⟨g,9,none⟩=some (.int .i64 x.sli)
theorem jU {g:Nat} {x:Ct} (hb:Below w.heap.size w w') (h:Cg w g x):Cg w' g x:=⟨keepCell hb h.c0,keepCell hb h.c1,keepCell hb h.c2,keepCell hb h.c3,keepCell hb h.c4,keepCell hb h.c5,keepCell hb h.c6,keepCell hb h.c7,keepCell hb h.c8,keepCell hb h.c9⟩
theorem Cg.drew {g:Nat} {x:Ct} (h:Cg w g x):Cg w.drew g x:=jU (Below.refl _ _).drew h
theorem Cg.alloc {g:Nat} {x:Ct} (h:Cg w g x) (o:Obj):Cg (w.alloc o) g x:=jU Ba h
theorem Cg.next {g k:Nat} {x:Ct} (h:Cg w g x) (hg:w.grownBy w' (some k)) (hne:g≠k):Cg w' g x :=
 have e:=hg.block g (lt_of_cell h.c0) (by simpa using hne)
 ⟨(World.cell?_of_block e).trans h.c0,(World.cell?_of_block e).trans h.c1,(World.cell?_of_block e).trans h.c2,(World.cell?_of_block e).trans h.c3,(World.cell?_of_block e).trans h.c4,(World.cell?_of_block e).trans h.c5,(World.cell?_of_block e).trans h.c6,(World.cell?_of_block e).trans h.c7,(World.cell?_of_block e).trans h.c8,(World.cell?_of_block e).trans h.c9⟩

structure Rt (w0 : World) (g : Nat) (L : List BE) (w : World) : Prop where
 bl:BL w g L
 gr:w0.grownBy w (some g)
 lt:g<w0.heap.size
theorem rR {g:Nat} {L:List BE} {w w':World} (hb:Below w.heap.size w w') (h:Rt w0 g L w):Rt w0 g L w':=⟨fI hb h.bl,aS h.gr (bN hb),h.lt⟩
theorem Rt.drew {g:Nat} {L:List BE} {w:World} (h:Rt w0 g L w):Rt w0 g L w.drew:=rR (Below.refl _ _).drew h
theorem Rt.alloc {g:Nat} {L:List BE} {w:World} (h:Rt w0 g L w) (o:Obj):Rt w0 g L (w.alloc o):=rR Ba h
def GY (g:Nat) (L:List BE) (Q:List QB) (w:World) (e:Ending) (w':World):Prop:=∃ L':List BE,e = .returned (.tuple #[])∧BL w' g L'∧L'.map aF=Q∧w.grownBy w' (some g)∧∀ y ∈ L',y ∈ L∨∀ bx off,y.A=some ⟨bx,off,none⟩→w.heap.size≤bx
theorem Rt.setA {g:Nat} {L:List BE} {w:World} (h:Rt w0 g L w) {k:Nat} (hk:k<L.length) (x:BE) (hs:Sl w x.A x.n x.c x.l) (hn:∀ bx off,x.A=some ⟨bx,off,none⟩→bx≠g):Rt w0 g (L.set k x) (fF w g (k*13) x.b x.A x.n x.c) :=
 ⟨h.bl.set hk x hs hn,aS h.gr (iF _ _ _ _ _ _ _),h.lt⟩
theorem BH (cap gs g ka kb:Nat) (L:List BE) (x:Ct) (w:World) (h:BL w g L) (hv:∀ y ∈ L,aT y.b y.l=0) (hsv:w.cell? ⟨gs,0,none⟩=some (.slice (some ⟨g,0,none⟩) L.length cap)) (hgs:g≠gs) (hab:ka<kb) (hka:ka<L.length) (hkb:kb<L.length) (hxa:x.a=ka) (hxb:x.b=kb) (h64:L.length≤64) :
  Calls Tryz.prog 180 #[.pointer (some ⟨gs,0,none⟩),OO x] w (dG (aR (dI (jw (qB (L.map aF) x.b) x.px x.py) (jw (qB (L.map aF) x.a) x.px x.py)) (dI (jM (qB (L.map aF) x.b) x.px x.py) (jM (qB (L.map aF) x.a) x.px x.py))) w):=by
 obtain ⟨xa,HXA0⟩:∃ y,y=L[ka]:=⟨_,rfl⟩;obtain ⟨xb,HXB0⟩:∃ y,y=L[kb]:=⟨_,rfl⟩;have eA:(L.map aF)[ka]? = some (aF xa):=by rw [List.getElem?_map,List.getElem?_eq_getElem hka,HXA0];rfl
 have eB:(L.map aF)[kb]? = some (aF xb):=by rw [List.getElem?_map,List.getElem?_eq_getElem hkb,HXB0];rfl
 have hea:=hv xa (by rw [HXA0];exact List.getElem_mem hka);have heb:=hv xb (by rw [HXB0];exact List.getElem_mem hkb);have HXA:=hid HXA0;have HXB:=hid HXB0;have HMA:Hid (xa ∈ L):=by show _ ∈ _;rw [HXA0];exact List.getElem_mem hka
 have HMB:Hid (xb ∈ L):=by show _ ∈ _;rw [HXB0];exact List.getElem_mem hkb
 have hac:(ka:Int)<(L.length:Int):=by omega
 have hbc:(kb:Int)<(L.length:Int):=by omega
 have HGS:=hid hgs;rw [iY hxa eA,iY hxb eB];show Calls _ _ _ _ (dG (aR (dI (jw xb.b x.px x.py) (jw xa.b x.px x.py)) (dI (jM xb.b x.px x.py) (jM xa.b x.px x.py))) w);obtain ⟨W,hW⟩:∃ W,W=(w.alloc (.cells #[.int .i64 x.a,.int .i64 x.b,.int .i64 x.id,.int .i64 x.px,.int .i64 x.py,.int .i64 x.nx,.int .i64 x.ny,.int .i64 x.dep,.int .i64 x.push,.int .i64 x.sli] 106)).alloc (.cells #[.int .i64 0,.int .i64 0] 24):=⟨_,rfl⟩;have hB:Below w.heap.size w W:=by rw [hW];go_grown
 have HRT:Hid (Rt w g L W):=⟨fI hB h,bN hB,h.cl.lt⟩;have HSV:=hid (keepCell hB hsv);have HCG:Hid (Cg W w.heap.size x):=by show Cg _ _ _;rw [hW];exact ⟨by go_simp,by go_simp,by go_simp,by go_simp,by go_simp,by go_simp,by go_simp,by go_simp,by go_simp,by go_simp⟩
 have HVR:Hid (VZ W (w.heap.size+1)):=by show VZ _ _;rw [hW];exact ⟨⟨.int .i64 0,.int .i64 0,by go_simp,by go_simp⟩,fun j=>by go_simp⟩
 obtain ⟨s1,hs1⟩:∃ z,z=jw xb.b x.px x.py:=⟨_,rfl⟩;obtain ⟨s2,hs2⟩:∃ z,z=jM xb.b x.px x.py:=⟨_,rfl⟩;obtain ⟨t1,ht1⟩:∃ z,z=jw xa.b x.px x.py:=⟨_,rfl⟩;obtain ⟨t2,ht2⟩:∃ z,z=jM xa.b x.px x.py:=⟨_,rfl⟩
 have HVA:Hid (∀ w',Rt w g L w'→Calls Tryz.prog 175 #[dK xa.b xa.A xa.n xa.c,aR x.px x.py] w' (dG (aR t1 t2) w')):=fun w' hr=>by
  have:=Dn xa.b xa.A xa.n xa.c xa.l x.px x.py w' (hr.bl.co xa HMA.out);rwa [show Nk xa.b xa.l x.px x.py=t1 by rw [ht1];unfold Nk jw;rw [if_neg (by simp [hea])],show MG xa.b xa.l x.px x.py=t2 by rw [ht2];unfold MG jM;rw [if_neg (by simp [hea])]] at this
 have HVB:Hid (∀ w',Rt w g L w'→Calls Tryz.prog 175 #[dK xb.b xb.A xb.n xb.c,aR x.px x.py] w' (dG (aR s1 s2) w')):=fun w' hr=>by
  have:=Dn xb.b xb.A xb.n xb.c xb.l x.px x.py w' (hr.bl.co xb HMB.out);rwa [show Nk xb.b xb.l x.px x.py=s1 by rw [hs1];unfold Nk jw;rw [if_neg (by simp [heb])],show MG xb.b xb.l x.px x.py=s2 by rw [hs2];unfold MG jM;rw [if_neg (by simp [heb])]] at this
 obtain ⟨d1,hd1⟩:∃ z,z=dI s1 t1:=⟨_,rfl⟩;obtain ⟨d2,hd2⟩:∃ z,z=dI s2 t2:=⟨_,rfl⟩;have HC6:=hid (je s1 s2 t1 t2);rw [← hd1,← hd2] at HC6;have HD1:Hid (d1=dI (jw xb.b x.px x.py) (jw xa.b x.px x.py)):=by rw [hd1,hs1,ht1];rfl
 have HD2:Hid (d2=dI (jM xb.b x.px x.py) (jM xa.b x.px x.py)):=by rw [hd2,hs2,ht2];rfl
 have HBW:=hid hB;have HXI:=hid (And.intro hxa hxb);clear h hv hsv hgs HXA0 HXB0 eA eB hea heb hs1 hs2 ht1 ht2 hd1 hd2 hB hxa hxb
 go_enter Tryz.func180,Tryz.ntmps180
 go_upto_region 1 with fail
 rw [← hW];obtain ⟨hxa,hxb⟩:=HXI.out;clear hW HXI;refine wp_region_noPanic ?_;refine au (S:=(S2 (fun w'=>Rt w g L w'∧w'.cell? ⟨gs,0,none⟩=some (.slice (some ⟨g,0,none⟩) L.length cap)∧Cg w' w.heap.size x∧VZ w' (w.heap.size+1)∧Below w.heap.size w w'))) (T:=(fun j=>[0,0,0,0,0,0,0,0,0,0,0,0,0,0,0,0,0,0,0,0,0,0,0,1].getD j 0)) (by kernel_rfl) (aC ⟨HRT.out.drew,HSV.out,HCG.out.drew,HVR.out.drew,HBW.out.drew⟩) (fun hH=>?_);have hWr4:aH (S2 (fun w'=>Rt w g L w'∧w'.cell? ⟨gs,0,none⟩=some (.slice (some ⟨g,0,none⟩) L.length cap)∧Cg w' w.heap.size x∧VZ w' (w.heap.size+1)∧Below w.heap.size w w')):=aK _;refine dn [(0,5),(1,6),(2,7),(3,8),(4,9),(5,10),(6,11),(7,12),(8,13),(9,14),(11,16),(12,17),(13,18),(14,19),(15,20),(16,21),(17,22),(18,23),(19,24),(20,25)] 4 0 0 (L':=?Lr4_1) hWr4 hH ?hyr4_1 ?_
 case hyr4_1=>((iterate 20 apply dA;rfl;kernel_rfl;intro w' hSw;replace hSw:=aA hSw;(try dsimp only at hSw);have q0:=hSw.1;have q1:=hSw.2.1;have q2:=hSw.2.2.1;have q3:=hSw.2.2.2.1;have q4:=hSw.2.2.2.2;obtain ⟨b0_0,b0_1,b0_2,b0_3,b0_4,b0_5,b0_6,b0_7,b0_8,b0_9,b0_10,b0_11,b0_12⟩:=bK (q0).bl.cl hka HXA.out;obtain ⟨c0_0,c0_1,c0_2,c0_3,c0_4,c0_5,c0_6,c0_7,c0_8,c0_9,c0_10,c0_11,c0_12⟩:=bK (q0).bl.cl hkb HXB.out;obtain ⟨qa2_0,qa2_1,qa2_2,qa2_3,qa2_4,qa2_5,qa2_6,qa2_7,qa2_8,qa2_9⟩:=id q2;skip;(try simp only [sB,sC]);go_simp;(try with_reducible rfl));exact dw)
 simp only [sB,sC];refine U1 10 0 rfl (fun K hK=>?_)
 try clear hb
 have hG:=hH;replace hG:=aA hG;(try dsimp only at hG);have fq0:=hG.1;have fq1:=hG.2.1;have fq2:=hG.2.2.1;have fq3:=hG.2.2.2.1;have fq4:=hG.2.2.2.2;have HRX:=hid fq0;clear hG fq0 fq1 fq2 fq3 fq4;go_simp
 (go_at_call 175;refine (HVB.out _ HRX.out).mono ?_;rintro e wn ⟨rfl,hb⟩)
 refine hK.out _ _ ?hsr4_21 (fun hH2=>?hrr4_21)
 case hsr4_21=>exact aC (by have hG:=hH;replace hG:=aA hG;(try dsimp only at hG);have q0:=hG.1;have q1:=hG.2.1;have q2:=hG.2.2.1;have q3:=hG.2.2.2.1;have q4:=hG.2.2.2.2;exact ⟨rR hb q0,keepCell hb q1,jU hb q2,aG hb q3,aj hb q4⟩)
 clear hK K hH;have hH:=hH2;clear hH2
 try simp only [Act.put,sA,sB,sC]
 clear HRX;refine U1 21 0 rfl (fun K hK=>?_)
 try clear hb
 have hG:=hH;replace hG:=aA hG;(try dsimp only at hG);have fq0:=hG.1;have fq1:=hG.2.1;have fq2:=hG.2.2.1;have fq3:=hG.2.2.2.1;have fq4:=hG.2.2.2.2;have HRX:=hid fq0;clear hG fq0 fq1 fq2 fq3 fq4;go_simp
 (go_at_call 175;refine (HVA.out _ HRX.out).mono ?_;rintro e wn ⟨rfl,hb⟩)
 refine hK.out _ _ ?hsr4_22 (fun hH2=>?hrr4_22)
 case hsr4_22=>exact aC (by have hG:=hH;replace hG:=aA hG;(try dsimp only at hG);have q0:=hG.1;have q1:=hG.2.1;have q2:=hG.2.2.1;have q3:=hG.2.2.2.1;have q4:=hG.2.2.2.2;exact ⟨rR hb q0,keepCell hb q1,jU hb q2,aG hb q3,aj hb q4⟩)
 clear hK K hH;have hH:=hH2;clear hH2
 try simp only [Act.put,sA,sB,sC]
 clear HRX;refine U1 22 0 rfl (fun K hK=>?_)
 try clear hb
 go_simp
 (go_at_call 11;refine (HC6.out _).mono ?_;rintro e wn ⟨rfl,hb⟩)
 refine hK.out _ _ ?hsr4_23 (fun hH2=>?hrr4_23)
 case hsr4_23=>exact aC (by have hG:=hH;replace hG:=aA hG;(try dsimp only at hG);have q0:=hG.1;have q1:=hG.2.1;have q2:=hG.2.2.1;have q3:=hG.2.2.2.1;have q4:=hG.2.2.2.2;exact ⟨rR hb q0,keepCell hb q1,jU hb q2,aG hb q3,aj hb q4⟩)
 clear hK K hH;have hH:=hH2;clear hH2
 try simp only [Act.put,sA,sB,sC]
 refine U1 23 1 rfl (fun K hK=>?_)
 try clear hb
 have hG:=hH;replace hG:=aA hG;(try dsimp only at hG);have fq0:=hG.1;have fq1:=hG.2.1;have fq2:=hG.2.2.1;have fq3:=hG.2.2.2.1;have fq4:=hG.2.2.2.2;have HB9:=hid fq4;obtain ⟨⟨vv0,vv1,y0,y1⟩,yf⟩:=fq3;have hl9:=lt_of_cell y0;clear hG fq0 fq1 fq2 fq4;go_simp;refine hK.out _ _ ?hsr4_24 (fun hH2=>?hrr4_24)
 case hsr4_24=>exact dY
 clear hK K hH;have hH:=hH2;clear hH2
 try simp only [Act.put,sA,sB,sC]
 refine ak (by kernel_rfl) ?_ _ _;refine NoPanic.normal ?_;go_wp2;refine bodyPost_ret (v:=aR d1 d2) (by simp [results,Tryz.results180,go_sem,y0,y1,hl9]) rfl ⟨by rw [HD1.out,HD2.out],?_⟩;exact (HB9.out.setCell (p:=⟨w.heap.size+1,0,none⟩) (by show w.heap.size≤w.heap.size+1;omega) _).setCell (p:=⟨w.heap.size+1,1,none⟩) (by show w.heap.size≤w.heap.size+1;omega) _
theorem DZ (cap gs g ka kb:Nat) (L:List BE) (x:Ct) (j1 j2:Int) (w:World) (h:BL w g L) (hv:∀ y ∈ L,aT y.b y.l=0) (hsv:w.cell? ⟨gs,0,none⟩=some (.slice (some ⟨g,0,none⟩) L.length cap)) (hgs:g≠gs) (hab:ka<kb) (hka:ka<L.length) (hkb:kb<L.length) (hxa:x.a=ka) (hxb:x.b=kb) (h64:L.length≤64) (hj1 : -1099511627776≤j1∧j1≤1099511627776) (hj2 : -1099511627776≤j2∧j2≤1099511627776) :
  Calls Tryz.prog 116 #[.pointer (some ⟨gs,0,none⟩),OO x,aR j1 j2] w (GY g L (sH (L.map aF) x j1 j2) w):=by
 obtain ⟨xa,HXA0⟩:∃ y,y=L[ka]:=⟨_,rfl⟩;obtain ⟨xb,HXB0⟩:∃ y,y=L[kb]:=⟨_,rfl⟩;have eA:(L.map aF)[ka]? = some (aF xa):=by rw [List.getElem?_map,List.getElem?_eq_getElem hka,HXA0];rfl
 have eB:(L.map aF)[kb]? = some (aF xb):=by rw [List.getElem?_map,List.getElem?_eq_getElem hkb,HXB0];rfl
 have hea:=hv xa (by rw [HXA0];exact List.getElem_mem hka);have heb:=hv xb (by rw [HXB0];exact List.getElem_mem hkb);have HXA:=hid HXA0;have HXB:=hid HXB0;have HMA:Hid (xa ∈ L):=by show _ ∈ _;rw [HXA0];exact List.getElem_mem hka
 have HMB:Hid (xb ∈ L):=by show _ ∈ _;rw [HXB0];exact List.getElem_mem hkb
 have hac:(ka:Int)<(L.length:Int):=by omega
 have hbc:(kb:Int)<(L.length:Int):=by omega
 have HGS:=hid hgs;have ePX:sH (L.map aF) x j1 j2=pK (L.map aF) ka kb x.px x.py x.px x.py j1 j2:=by unfold sH;rw [hxa,hxb,Int.toNat_natCast,Int.toNat_natCast]
 rw [ePX];obtain ⟨W,hW⟩:∃ W,W=(w.alloc (.cells #[.int .i64 x.a,.int .i64 x.b,.int .i64 x.id,.int .i64 x.px,.int .i64 x.py,.int .i64 x.nx,.int .i64 x.ny,.int .i64 x.dep,.int .i64 x.push,.int .i64 x.sli] 106)).alloc (.cells #[.int .i64 j1,.int .i64 j2] 24):=⟨_,rfl⟩;have hB:Below w.heap.size w W:=by rw [hW];go_grown
 have HRT:Hid (Rt w g L W):=⟨fI hB h,bN hB,h.cl.lt⟩;have HSV:=hid (keepCell hB hsv);have HCG:Hid (Cg W w.heap.size x):=by show Cg _ _ _;rw [hW];exact ⟨by go_simp,by go_simp,by go_simp,by go_simp,by go_simp,by go_simp,by go_simp,by go_simp,by go_simp,by go_simp⟩
 have HVJ:Hid (Vg W (w.heap.size+1) j1 j2):=by show Vg _ _ _ _;rw [hW];exact ⟨by go_simp,by go_simp⟩
 have hn1:IntKind.i64.wrap (-j1) = -j1:=IntWalk.i64_in _ (by omega);have hn2:IntKind.i64.wrap (-j2) = -j2:=IntWalk.i64_in _ (by omega);obtain ⟨ya,hya⟩:∃ z,z=lY xa.b (-j1) (-j2) x.px x.py:=⟨_,rfl⟩;obtain ⟨yb,hyb⟩:∃ z,z=lY xb.b j1 j2 x.px x.py:=⟨_,rfl⟩;have hlc:∀ {y:BE},aT y.b y.l=0→y.l.length≤8796093022208:=fun {y} he=>by have h3:=pO (gY (bJ he).1);omega
 have HPA:Hid (∀ w',Rt w g L w'→Calls Tryz.prog 177 #[dK xa.b xa.A xa.n xa.c,aR (-j1) (-j2),aR x.px x.py] w' (nK ya xa.l w')):=fun w' hr=>by
  have:=yL xa.b xa.A xa.n xa.c xa.l (-j1) (-j2) x.px x.py w' (hr.bl.co xa HMA.out) (hlc hea);rwa [Ea hea,← hya] at this
 have HPB:Hid (∀ {L1:List BE} w',xb ∈ L1→Rt w g L1 w'→Calls Tryz.prog 177 #[dK xb.b xb.A xb.n xb.c,aR j1 j2,aR x.px x.py] w' (nK yb xb.l w')):=fun {L1} w' hm hr=>by
  have:=yL xb.b xb.A xb.n xb.c xb.l j1 j2 x.px x.py w' (hr.bl.co xb hm) (hlc heb);rwa [Ea heb,← hyb] at this
 have HFIN:Hid (∀ (za zb:BE),aF za=(ya,xa.l)→aF zb=(yb,xb.l)→((L.set ka za).set kb zb).map aF=pK (L.map aF) ka kb x.px x.py x.px x.py j1 j2):=fun za zb h1 h2 =>
  JC hka hkb (by omega) _ _ _ _ _ _ _ _ (by rw [h1,hya,HXA0]) (by rw [h2,hyb,HXB0])
 have HGL:=hid h.cl.lt;have HXI:=hid (And.intro hxa hxb);clear h hv hsv hgs HXA0 HXB0 eA eB hea heb hya hyb hxa hxb ePX hlc hj1 hj2
 go_enter Tryz.func116,Tryz.ntmps116
 go_upto_region 1 with fail
 rw [← hW];obtain ⟨hxa,hxb⟩:=HXI.out;clear hW hB HXI;refine wp_region_noPanic ?_;refine au (S:=(S2 (fun w'=>Rt w g L w'∧w'.cell? ⟨gs,0,none⟩=some (.slice (some ⟨g,0,none⟩) L.length cap)∧Cg w' w.heap.size x∧Vg w' (w.heap.size+1) j1 j2))) (T:=(fun j=>[0,0,0,0,0,0,0,0,0,0,0,0,0,0,0,0,0,0,0,0,0,0,0,0,0,1].getD j 0)) (by kernel_rfl) (aC ⟨HRT.out.drew,HSV.out,HCG.out.drew,HVJ.out.drew⟩) (fun hH=>?_);have hWr6:aH (S2 (fun w'=>Rt w g L w'∧w'.cell? ⟨gs,0,none⟩=some (.slice (some ⟨g,0,none⟩) L.length cap)∧Cg w' w.heap.size x∧Vg w' (w.heap.size+1) j1 j2)):=aK _;refine dn [(0,6),(1,7),(2,8),(3,9),(4,10),(5,11),(6,12),(7,13),(8,14),(9,15),(10,16),(11,17),(12,18),(13,19),(14,20),(15,21),(16,22),(17,23),(18,24),(19,25),(20,26),(21,27),(22,28)] 3 0 0 (L':=?Lr6_1) hWr6 hH ?hyr6_1 ?_
 case hyr6_1=>((iterate 23 apply dA;rfl;kernel_rfl;intro w' hSw;replace hSw:=aA hSw;(try dsimp only at hSw);have q0:=hSw.1;have q1:=hSw.2.1;have q2:=hSw.2.2.1;have q3:=hSw.2.2.2;obtain ⟨b0_0,b0_1,b0_2,b0_3,b0_4,b0_5,b0_6,b0_7,b0_8,b0_9,b0_10,b0_11,b0_12⟩:=bK (q0).bl.cl hka HXA.out;obtain ⟨c0_0,c0_1,c0_2,c0_3,c0_4,c0_5,c0_6,c0_7,c0_8,c0_9,c0_10,c0_11,c0_12⟩:=bK (q0).bl.cl hkb HXB.out;obtain ⟨qa2_0,qa2_1,qa2_2,qa2_3,qa2_4,qa2_5,qa2_6,qa2_7,qa2_8,qa2_9⟩:=id q2;obtain ⟨qa3_0,qa3_1⟩:=id q3;(try simp only [sB,sC]);go_simp;(try with_reducible rfl));exact dw)
 simp only [sB,sC];refine U1 23 0 rfl (fun K hK=>?_)
 try clear hb
 have hG:=hH;replace hG:=aA hG;(try dsimp only at hG);have fq0:=hG.1;have fq1:=hG.2.1;have fq2:=hG.2.2.1;have fq3:=hG.2.2.2;have HRX:=hid fq0;clear hG fq0 fq1 fq2 fq3;go_simp
 (go_at_call 177;refine (HPA.out _ HRX.out).mono ?_;rintro e wn ⟨AA,nA,cA,rfl,hsA,hfA,hb⟩)
 refine hK.out _ _ ?hsr6_24 (fun hH2=>?hrr6_24)
 case hsr6_24=>exact aC (by have hG:=hH;replace hG:=aA hG;(try dsimp only at hG);have q0:=hG.1;have q1:=hG.2.1;have q2:=hG.2.2.1;have q3:=hG.2.2.2;exact ⟨rR hb q0,keepCell hb q1,jU hb q2,dL hb q3⟩)
 clear hK K hH;have hH:=hH2;clear hH2
 try simp only [Act.put,sA,sB,sC]
 have HFA:Hid (∀ bx off,AA=some ⟨bx,off,none⟩→w.heap.size≤bx):=fun bx off e=>by have h2:=HRX.out.gr.size;have h3:=hfA bx off e;omega
 have HSA:=hid hsA;clear hsA hfA HRX;refine Ut 24 30 1 0 0 (v:=?vr6_25) rfl hWr6 hH ?hyr6_25 ?_
 case hyr6_25=>(intro w' hSw;clear hSw;go_simp;try (with_reducible rfl))
 simp only [sB,sC];refine U1 25 1 rfl (fun K hK=>?_)
 try clear hb
 have hG:=hH;replace hG:=aA hG;(try dsimp only at hG);have fq0:=hG.1;have fq1:=hG.2.1;have fq2:=hG.2.2.1;have fq3:=hG.2.2.2;have HRQ1:=hid fq0;have HSV1:=hid fq1;have HCG1:=hid fq2;have HVJ1:=hid fq3;have hbl:=fq0.bl;obtain ⟨c0,c1,c2,c3,c4,c5,c6,c7,c8,c9,c10,c11,c12⟩:=bK hbl.cl hka HXA.out;have cf:=hbl.free;clear hG fq0 fq1 fq2 fq3 hbl;go_simp;refine hK.out _ _ ?hsr6_26 (fun hH2=>?hrr6_26)
 case hsr6_26=>exact dY
 clear hK K hH;have hH:=hH2;clear hH2
 try simp only [Act.put,sA,sB,sC]
 refine ak (by kernel_rfl) ?_ _ _;refine NoPanic.normal ?_;obtain ⟨w5,hw5⟩:∃ w5,w5=fF wn g (ka*13) ya AA nA cA:=⟨_,rfl⟩;have HRQ3:=hid (HRQ1.out.setA hka ⟨ya,AA,nA,cA,xa.l⟩ HSA.out (fun bx off e=>by have:=HFA.out bx off e;have:=HGL.out;omega));dsimp only at HRQ3;have hgn:=HRQ1.out.lt;have HSV3:=hid (Jk (b:=ya) (A:=AA) (n:=nA) (c:=cA) (o:=ka*13) HGS.out HSV1.out);have HCG3:=hid (HCG1.out.next (iF wn g (ka*13) ya AA nA cA) (by omega));have HVJ3:=hid (HVJ1.out.next (iF wn g (ka*13) ya AA nA cA) (by omega));rw [← hw5] at HRQ3 HSV3 HCG3 HVJ3;unfold fF at hw5
 try clear hH
 clear c0 c1 c2 c3 c4 c5 c6 c7 c8 c9 c10 c11 c12 cf HRQ1 HSV1 HCG1 HVJ1 HSA
 go_upto_region 2 with fail
 rw [← hw5];clear hw5;obtain ⟨L1,hL1⟩:∃ L1,L1=L.set ka ⟨ya,AA,nA,cA,xa.l⟩:=⟨_,rfl⟩;have hlen:L1.length=L.length:=by rw [hL1,List.length_set]
 have hkb1:kb<L1.length:=by rw [hlen];exact hkb
 have hka1:ka<L1.length:=by rw [hlen];exact hka
 have HXB2:Hid (xb=L1[kb]'hkb1):=by show _=_;rw [HXB.out];simp only [hL1];rw [List.getElem_set_ne (by omega)]
 have HXA2:Hid (⟨ya,AA,nA,cA,xa.l⟩=L1[ka]'hka1):=by show _=_;simp only [hL1];rw [List.getElem_set_self]
 have HFIN2:Hid (∀ zb:BE,aF zb=(yb,xb.l)→(L1.set kb zb).map aF=pK (L.map aF) ka kb x.px x.py x.px x.py j1 j2):=fun zb h=>by rw [hL1];exact HFIN.out _ _ rfl h
 have HMEM:Hid (∀ zb y:BE,y ∈ L1.set kb zb→y=zb∨y=⟨ya,AA,nA,cA,xa.l⟩∨y ∈ L):=fun zb y hy=>by rcases List.mem_or_eq_of_mem_set hy with q | q;(rw [hL1] at q;rcases List.mem_or_eq_of_mem_set q with q2 | q2;exact .inr (.inr q2);exact .inr (.inl q2));exact .inl q
 rw [← hL1] at HRQ3;rw [← hlen] at hac hbc h64 HSV3;rw [← hlen];clear hL1 HXA HXB HFIN hlen hka hkb;have hka:=hka1;have hkb:=hkb1;have HXA:=HXA2;have HXB:=HXB2;have HFIN:=HFIN2;clear HXA2 HXB2 HFIN2;refine wp_region_noPanic ?_;refine au (S:=(S2 (fun w'=>Rt w g L1 w'∧w'.cell? ⟨gs,0,none⟩=some (.slice (some ⟨g,0,none⟩) L1.length cap)∧Cg w' w.heap.size x∧Vg w' (w.heap.size+1) j1 j2))) (T:=(fun j=>[0,0,0,0,0,0,0,0,0,0,0,0,0,0,0,0,0,0,0,1].getD j 0)) (by kernel_rfl) (aC ⟨HRQ3.out.drew,HSV3.out,HCG3.out.drew,HVJ3.out.drew⟩) (fun hH=>?_);have hWr5:aH (S2 (fun w'=>Rt w g L1 w'∧w'.cell? ⟨gs,0,none⟩=some (.slice (some ⟨g,0,none⟩) L1.length cap)∧Cg w' w.heap.size x∧Vg w' (w.heap.size+1) j1 j2)):=aK _;refine dn [(0,31),(1,32),(2,33),(3,34),(4,35),(5,36),(6,37),(7,38),(8,39),(9,40),(10,41),(11,42),(12,43),(13,44),(14,45),(15,46),(16,47)] 3 0 0 (L':=?Lr5_1) hWr5 hH ?hyr5_1 ?_
 case hyr5_1=>((iterate 17 apply dA;rfl;kernel_rfl;intro w' hSw;replace hSw:=aA hSw;(try dsimp only at hSw);have q0:=hSw.1;have q1:=hSw.2.1;have q2:=hSw.2.2.1;have q3:=hSw.2.2.2;obtain ⟨b0_0,b0_1,b0_2,b0_3,b0_4,b0_5,b0_6,b0_7,b0_8,b0_9,b0_10,b0_11,b0_12⟩:=bK (q0).bl.cl hka HXA.out;obtain ⟨c0_0,c0_1,c0_2,c0_3,c0_4,c0_5,c0_6,c0_7,c0_8,c0_9,c0_10,c0_11,c0_12⟩:=bK (q0).bl.cl hkb HXB.out;obtain ⟨qa2_0,qa2_1,qa2_2,qa2_3,qa2_4,qa2_5,qa2_6,qa2_7,qa2_8,qa2_9⟩:=id q2;obtain ⟨qa3_0,qa3_1⟩:=id q3;(try simp only [sB,sC]);go_simp;(try with_reducible rfl));exact dw)
 simp only [sB,sC];refine U1 17 0 rfl (fun K hK=>?_)
 try clear hb
 have hG:=hH;replace hG:=aA hG;(try dsimp only at hG);have fq0:=hG.1;have fq1:=hG.2.1;have fq2:=hG.2.2.1;have fq3:=hG.2.2.2;have HRX:=hid fq0;clear hG fq0 fq1 fq2 fq3;go_simp
 (go_at_call 177;refine (HPB.out _ (by rw [HXB.out];exact List.getElem_mem hkb) HRX.out).mono ?_;rintro e wn ⟨AB,nB,cB,rfl,hsB,hfB,hb⟩)
 refine hK.out _ _ ?hsr5_18 (fun hH2=>?hrr5_18)
 case hsr5_18=>exact aC (by have hG:=hH;replace hG:=aA hG;(try dsimp only at hG);have q0:=hG.1;have q1:=hG.2.1;have q2:=hG.2.2.1;have q3:=hG.2.2.2;exact ⟨rR hb q0,keepCell hb q1,jU hb q2,dL hb q3⟩)
 clear hK K hH;have hH:=hH2;clear hH2
 try simp only [Act.put,sA,sB,sC]
 have HFB:Hid (∀ bx off,AB=some ⟨bx,off,none⟩→w.heap.size≤bx):=fun bx off e=>by have h2:=HRX.out.gr.size;have h3:=hfB bx off e;omega
 have HSB:=hid hsB;clear hsB hfB HRX;refine Ut 18 49 1 0 0 (v:=?vr5_19) rfl hWr5 hH ?hyr5_19 ?_
 case hyr5_19=>(intro w' hSw;clear hSw;go_simp;try (with_reducible rfl))
 simp only [sB,sC];refine U1 19 1 rfl (fun K hK=>?_)
 try clear hb
 have hG:=hH;replace hG:=aA hG;(try dsimp only at hG);have fq0:=hG.1;have fq1:=hG.2.1;have fq2:=hG.2.2.1;have fq3:=hG.2.2.2;have HRQ1:=hid fq0;have HSV1:=hid fq1;have HCG1:=hid fq2;have HVJ1:=hid fq3;have hbl:=fq0.bl;obtain ⟨c0,c1,c2,c3,c4,c5,c6,c7,c8,c9,c10,c11,c12⟩:=bK hbl.cl hkb HXB.out;have cf:=hbl.free;clear hG fq0 fq1 fq2 fq3 hbl;go_simp;refine hK.out _ _ ?hsr5_20 (fun hH2=>?hrr5_20)
 case hsr5_20=>exact dY
 clear hK K hH;have hH:=hH2;clear hH2
 try simp only [Act.put,sA,sB,sC]
 refine ak (by kernel_rfl) ?_ _ _;refine NoPanic.normal ?_;go_wp2;refine bodyPost_ret (v:=.tuple #[]) (by simp [results,Tryz.results116,go_sem]) rfl ⟨L1.set kb ⟨yb,AB,nB,cB,xb.l⟩,rfl,?_,HFIN.out _ rfl,?_,fun y hy=>by rcases HMEM.out _ y hy with rfl | rfl | q;exact .inr HFB.out;exact .inr HFA.out;exact .inl q⟩
 ·have hh := HRQ1.out.bl.set hkb ⟨yb, AB, nB, cB, xb.l⟩ HSB.out (fun bx off e => by have := HFB.out bx off e; have := HGL.out; omega);dsimp only at hh;unfold fF at hh;exact hh
 ·have hh := aS HRQ1.out.gr (iF wn g (kb * 13) yb AB nB cB);unfold fF at hh;exact hh
end
end Go.Proofs.YtokgmcomgflloaaGreat
