/- Parts of a proof: contracts and laws. -/
import Derived.Test.YtokgmcomgflloaaGreatQA22
import Derived.Test.YtokgmcomgflloaaGreatQA34
import Derived.Test.YtokgmcomgflloaaGreatQA02
set_option maxRecDepth 100000
set_option maxHeartbeats 16000000
namespace Go.Proofs.YtokgmcomgflloaaGreat
section
set_option linter.unusedVariables false
set_option linter.unusedSimpArgs false
open Go.RowKit
variable {w0 w w':World}
theorem yG {B:Nat} {s:Value} {o:List Ct} (hb:Below w.heap.size w w') (h:aU bZ 106 w B s o):aU bZ 106 w' B s o:=h.below hb
theorem aJ.grownK {α:Type} {Ly:Lay α} {w w':World} {b off:Nat} {l:List α} {row:Option Nat} (h:aJ Ly w b off l) (hg:w.grownBy w' row) (hne:some b≠row):aJ Ly w' b off l :=
 ⟨Nat.lt_of_lt_of_le h.lt hg.size,fun j hj i v hv=>hg.cell (h.at_ j hj i v hv) hne⟩
theorem dW.grownK {α:Type} {Ly:Lay α} {w w':World} {A:Option Addr} {n c:Nat} {l:List α} {row:Option Nat} (h:dW Ly w A n c l) (hg:w.grownBy w' row) (hne:l≠[]→∀ b off,A=some ⟨b,off,none⟩→some b≠row):dW Ly w' A n c l :=
 ⟨h.len,h.cap,h.big,fun hl=>by obtain ⟨b,off,e,hc⟩:=h.at_ hl;exact ⟨b,off,e,hc.grownK hg (hne hl b off e)⟩⟩

structure FI (w1 : World) (gp i k : Nat) (A3 : Option Addr) (n3 c3 : Nat) (Z : List Pt) (s : Value) (o : List Ct) (w : World) : Prop where
 own:aU bZ 106 w w1.heap.size s o
 bel:Below w1.heap.size w1 w
 g0:w.cell? ⟨gp,0,none⟩=some (.int .i64 i)
 g1:w.cell? ⟨gp,1,none⟩=some (.int .i64 k)
 pts:dW lD w A3 n3 c3 Z
 ns:∀ q,s.ownBlock=some q→q≠gp∧(Z≠[]→∀ b off,A3=some ⟨b,off,none⟩→q≠b)
theorem FI.keep {w1:World} {gp i k n3 c3:Nat} {A3:Option Addr} {Z:List Pt} {s:Value} {o:List Ct} {w w':World} (hb:Below w.heap.size w w') (h:FI w1 gp i k A3 n3 c3 Z s o w):FI w1 gp i k A3 n3 c3 Z s o w' :=
 ⟨h.own.below hb,aj hb h.bel,keepCell hb h.g0,keepCell hb h.g1,h.pts.below hb,h.ns⟩
theorem FI.app {w1:World} {gp i k n3 c3:Nat} {A3:Option Addr} {Z:List Pt} {s s':Value} {o o':List Ct} {w w':World} (h:FI w1 gp i k A3 n3 c3 Z s o w) (ho:aU bZ 106 w' w1.heap.size s' o') (hg:w.grownBy w' s.ownBlock) (hat:s'.ownBlock=s.ownBlock∨s'.ownBlock=some w.heap.size):FI w1 gp i k A3 n3 c3 Z s' o' w':=by
 have hgp:=lt_of_cell h.g0;refine ⟨ho,h.bel.grown hg h.bel.size (fun q hq=>(h.own.lt hq).1),hg.cell h.g0 (fun e=>(h.ns gp e.symm).1 rfl),hg.cell h.g1 (fun e=>(h.ns gp e.symm).1 rfl),h.pts.grownK hg (fun hz b off e e2=>(h.ns b e2.symm).2 hz b off e rfl),fun q hq=>?_⟩
 rcases hat with e | e
 ·exact h.ns q (by rw [← e];exact hq)
 ·rw [e] at hq
  cases hq
  exact ⟨by omega,fun hz b off e2=>by obtain ⟨b',off',e3,hc⟩:=h.pts.at_ hz;rw [e3] at e2;cases e2;have:=hc.lt;omega⟩

structure FW (w1 : World) (s : Value) (o : List Ct) (w : World) : Prop where
 own:aU bZ 106 w w1.heap.size s o
 bel:Below w1.heap.size w1 w
def iB (L:List BE) (old:List Ct):List Ct:=if aZ L=0 then iR old (qW L) else []
def GZ (L:List BE) (old:List Ct) (w:World) (e:Ending) (w':World):Prop:=∃ A n c,e = .returned (.tuple #[.slice A n c,.int .i64 (aZ L)])∧dW bZ w' A n c (iB L old)∧Below w.heap.size w w'
theorem zH {x:BE} (h:aT x.b x.l=0):mP x.b x.l=pE x:=by unfold mP;rw [if_neg (by simp [h])];rfl
theorem aJ.ptK {b off:Nat} {l:List Pt} {x:Pt} (h:aJ lD w b off l) {i:Nat} (hi:i<l.length) (hx:x=l[i]) :
  w.cell? ⟨b,off+i*6,none⟩=some (.int .i64 x.1.1.1)∧w.cell? ⟨b,off+i*6+1,none⟩=some (.int .i64 x.1.1.2)∧w.cell? ⟨b,off+i*6+2,none⟩=some (.int .i64 x.1.2.1)∧w.cell? ⟨b,off+i*6+3,none⟩=some (.int .i64 x.1.2.2)∧w.cell? ⟨b,off+i*6+4,none⟩=some (.int .i64 x.2.1)∧w.cell? ⟨b,off+i*6+5,none⟩=some (.int .i64 x.2.2):=by
 subst hx;exact ⟨h.at_ i hi 0 _ rfl,h.at_ i hi 1 _ rfl,h.at_ i hi 2 _ rfl,h.at_ i hi 3 _ rfl,h.at_ i hi 4 _ rfl,h.at_ i hi 5 _ rfl⟩
theorem DI (A B:Option Addr) (n c m c':Nat) (L:List BE) (old:List Ct) (w:World) (hS:iH w A n c L) (hO:dW bZ w B m c' old):Calls Tryz.prog 43 #[.slice A n c,.slice B m c'] w (GZ L old w):=by
 have hn:=hS.sl.len;subst hn;have HS:=hid hS;have HO:=hid hO;have hcap:=hS.sl.cap;have hbig:=hS.sl.big;have HKP:=hid (rY A L.length c L w hS);clear hS hO
 go_enter Tryz.func43,Tryz.ntmps43
 go_wp2_with fail
 refine HKP.out.mono ?_;rintro e w1 ⟨A0,n0,c0,rfl,hs0,hb0⟩;clear HKP
 by_cases hE:aZ L=0
 case neg =>
  have HR:Hid (GZ L old w (.returned (.tuple #[.slice none 0 0,.int .i64 (aZ L)])) w1):=⟨none,0,0,rfl,by unfold iB;rw [if_neg hE];exact dW.nil _ _,hb0⟩;have hne:(aZ L != 0)=true:=by simp [hE]
  clear hs0 hb0;generalize aZ L=z at *
  go_wp2;refine bodyPost_ret (v:=.tuple #[.slice none 0 0,.int .i64 z]) (by simp [results,Tryz.results43,go_sem]) rfl HR.out
 have HEZ:=hid hE;obtain ⟨h64,hval⟩:=eY hE;have HVAL:=hid hval;have HB0:=hid hb0;have e0:yJ L=iW L:=by unfold yJ;rw [if_pos hE]
 rw [e0] at hs0;rw [hE];obtain ⟨P,hP⟩:∃ P,P=iW L:=⟨_,rfl⟩;rw [← hP] at hs0;have HP:=hid hP
 have hlen:P.length≤4096:=by
  have h1:=D8 L;have h2:=Nat.mul_le_mul h64 h64;rw [hP];omega
 have hn0:=hs0.len;subst hn0;have HS0:=hid hs0;have HF0:Hid (FW w1 (.slice none 0 0) (lS L P 0) w1):=⟨aU.nil _ _ _ _,Below.refl _ _⟩;have hcap0:=hs0.cap;have hbig0:=hs0.big;clear hE hval hb0 e0 hP hs0;go_wp2
 go_loopw [8,23] (fun s j wr=>∃ t:Nat,t≤P.length∧j = .int .i64 t∧FW w1 s (lS L P t) wr) (fun _ j _=>P.length-(intOf j).toNat)
 case atStart=>exact ⟨0,Nat.zero_le _,rfl,HF0.out⟩
 case round =>
  clear HF0;obtain ⟨t,ht,rfl,hfw⟩:=hrel;obtain ⟨wo,rfl⟩:∃ wo:World,wo=wr:=⟨_,rfl⟩;obtain ⟨s,hs⟩:∃ s,s=u8:=⟨_,rfl⟩;rw [← hs] at hfw ⊢;clear hs;have HFW:=hid hfw
  by_cases hlt:t<P.length
  ·obtain ⟨p, hp⟩ : ∃ p, p = P[t] := ⟨_, rfl⟩;have hpm:p ∈ iW L:=by rw [← HP.out,hp];exact List.getElem_mem hlt
   have HSU:Hid (lS L P (t+1)=lS L P t ++ vT L p):=by show _=_;rw [hp];exact FM hlt
   obtain ⟨⟨hik,hk,-⟩,-⟩:=Et.1 hpm;obtain ⟨i,k⟩:=p;dsimp only at hik hk;have hi:i<L.length:=by omega
   obtain ⟨x,hx⟩:∃ x,x=L[i]:=⟨_,rfl⟩;obtain ⟨y,hy⟩:∃ y,y=L[k]:=⟨_,rfl⟩;have HX:=hid hx;have HY:=hid hy;have HXM:Hid (x ∈ L):=by rw [hx];exact List.getElem_mem hi
   have HYM:Hid (y ∈ L):=by rw [hy];exact List.getElem_mem hk
   have HFP:Hid (vT L (i,k)=(o9 (pE x) (pE y)).map (Ib (i,k))):=by show _=_;unfold vT;rw [wP hi,wP hk,← hx,← hy]
   have HPX:Hid (∀ w',Sl w' x.A x.n x.c x.l→Calls Tryz.prog 35 #[dK x.b x.A x.n x.c] w' (J9 (pE x) w')):=fun w' h=>by have:=oF x.b x.A x.n x.c x.l w' h;rwa [zH (HVAL.out x HXM.out)] at this
   have HPY:Hid (∀ w',Sl w' y.A y.n y.c y.l→Calls Tryz.prog 35 #[dK y.b y.A y.n y.c] w' (J9 (pE y) w')):=fun w' h=>by have:=oF y.b y.A y.n y.c y.l w' h;rwa [zH (HVAL.out y HYM.out)] at this
   have HOF:Hid (∀ (A1 A2:Option Addr) (n1 c1 n2 c2:Nat) (w':World),Sl w' A1 n1 c1 (pE x)→Sl w' A2 n2 c2 (pE y)→Calls Tryz.prog 107 #[.slice A1 n1 c1,.slice A2 n2 c2] w' (Kw (o9 (pE x) (pE y)) w')):=fun A1 A2 n1 c1 n2 c2 w' h1 h2=>Iw A1 A2 n1 c1 n2 c2 _ _ w' h1 h2
   have HZL:=hid (CX (pE x) (pE y));have hB1:Below w.heap.size w wo:=HB0.out.trans (hfw.bel.mono HB0.out.size);obtain ⟨bL,oL,rfl,hCL⟩:=(HS.out.below hB1).sl.at_ (by intro h;rw [h] at hi;simp at hi);have hbl:=hCL.lt;obtain ⟨bp,op,rfl,hCP⟩:=(HS0.out.below hfw.bel).at_ (by intro h;rw [h] at hlt;simp at hlt);obtain ⟨d0,d1⟩:=hCP.pairK hlt hp;dsimp only at d0 d1;have hbp:=hCP.lt;have hlt':(t:Int)<(P.length:Int):=by omega
   have hi':(i:Int)<(L.length:Int):=by omega
   have hk':(k:Int)<(L.length:Int):=by omega
   have hwt:IntKind.i64.wrap ((t:Int)+1)=(t:Int)+1:=IntWalk.i64_in _ (by omega);obtain ⟨gp,hgp⟩:∃ g,g=wo.heap.size:=⟨_,rfl⟩;obtain ⟨wp,hwp⟩:∃ w',w'=wo.alloc (.cells #[.int .i64 (i:Nat),.int .i64 (k:Nat)] 72):=⟨_,rfl⟩;have hbw:Below wo.heap.size wo wp:=by rw [hwp];go_grown
   have HSW:=hid ((HS.out.below hB1).below hbw);have HCW:Hid (aJ jo wp bL oL L):=hCL.below hbw;have g0:wp.cell? ⟨gp,0,none⟩=some (.int .i64 (i:Nat)):=by rw [hwp,hgp];go_simp
   have g1:wp.cell? ⟨gp,1,none⟩=some (.int .i64 (k:Nat)):=by rw [hwp,hgp];go_simp
   have HOW:=hid (hfw.own.below hbw);have HBW:=hid (aj hbw hfw.bel);have HGP:Hid (∀ q,s.ownBlock=some q→q≠gp):=fun q hq e=>by have:=(hfw.own.lt hq).2;omega
   have HFL:Hid ((lS L P t).length≤8192):=by have:=I4 L P t;show _≤_;omega
   clear hB1 hCL hCP hfw hpm hp hx hy HFW hbw;generalize lS L P t=o at *
   generalize pE x=PX at *
   generalize pE y=PY at *
   generalize o9 PX PY=Z at *
   go_upto_region 8 with fail
   rw [← hwp,← hgp];clear hwp hgp d0 d1 hbl hbp;refine wp_region_noPanic ?_;refine au (S:=(S2 (fun w'=>iH w' (some ⟨bL,oL,none⟩) L.length c L∧aJ jo w' bL oL L∧w'.cell? ⟨gp,0,none⟩=some (.int .i64 (i:Nat))∧w'.cell? ⟨gp,1,none⟩=some (.int .i64 (k:Nat))∧aU bZ 106 w' w1.heap.size s o∧Below w1.heap.size w1 w'))) (T:=(fun _=>0)) (by kernel_rfl) (aC ⟨HSW.out.drew,aJ.below (Below.refl _ _).drew HCW.out,g0,g1,HOW.out.drew,HBW.out.drew⟩) (fun hH=>?_);have hWr1:aH (S2 (fun w'=>iH w' (some ⟨bL,oL,none⟩) L.length c L∧aJ jo w' bL oL L∧w'.cell? ⟨gp,0,none⟩=some (.int .i64 (i:Nat))∧w'.cell? ⟨gp,1,none⟩=some (.int .i64 (k:Nat))∧aU bZ 106 w' w1.heap.size s o∧Below w1.heap.size w1 w')):=aK _;refine dn [(0,27),(1,28),(2,29),(3,30),(4,31),(6,33),(7,34),(8,35),(9,36),(10,37),(14,41)] 4 0 0 (L':=?Lr1_1) hWr1 hH ?hyr1_1 ?_
   case hyr1_1=>((iterate 11 apply dA;rfl;kernel_rfl;intro w' hSw;replace hSw:=aA hSw;(try dsimp only at hSw);have q0:=hSw.1;have q1:=hSw.2.1;have q2:=hSw.2.2.1;have q3:=hSw.2.2.2.1;have q4:=hSw.2.2.2.2.1;have q5:=hSw.2.2.2.2.2;obtain ⟨qa1_0,qa1_1,qa1_2,qa1_3,qa1_4,qa1_5,qa1_6,qa1_7,qa1_8,qa1_9,qa1_10,qa1_11,qa1_12⟩:=dD (q1) hi HX.out;obtain ⟨bb1_0,bb1_1,bb1_2,bb1_3,bb1_4,bb1_5,bb1_6,bb1_7,bb1_8,bb1_9,bb1_10,bb1_11,bb1_12⟩:=dD (q1) hk HY.out;(try simp only [sB,sC]);go_simp;(try with_reducible rfl));exact dw)
   simp only [sB,sC];refine U1 5 0 rfl (fun K hK=>?_)
   try clear hb
   have hG:=hH;replace hG:=aA hG;(try dsimp only at hG);have fq0:=hG.1;have fq1:=hG.2.1;have fq2:=hG.2.2.1;have fq3:=hG.2.2.2.1;have fq4:=hG.2.2.2.2.1;have fq5:=hG.2.2.2.2.2;go_simp
   (go_at_call 35;refine (HPX.out _ (fq0.co x HXM.out)).mono ?_;rintro e wn ⟨A1,n1,c1,rfl,hDa,-,-,hb⟩)
   refine hK.out _ _ ?hsr1_12 (fun hH2=>?hrr1_12)
   case hsr1_12=>exact aC (by have hG:=hH;replace hG:=aA hG;(try dsimp only at hG);have q0:=hG.1;have q1:=hG.2.1;have q2:=hG.2.2.1;have q3:=hG.2.2.2.1;have q4:=hG.2.2.2.2.1;have q5:=hG.2.2.2.2.2;exact ⟨Bl hb q0,aJ.below hb q1,keepCell hb q2,keepCell hb q3,yG hb q4,aj hb q5⟩)
   clear hK K hH;have hH:=hH2;clear hH2
   try simp only [Act.put,sA,sB,sC]
   clear hG fq0 fq1 fq2 fq3 fq4 fq5;refine U1 11 0 rfl (fun K hK=>?_)
   try clear hb
   have hG:=hH;replace hG:=aA hG;(try dsimp only at hG);have fq0:=hG.1;have fq1:=hG.2.1;have fq2:=hG.2.2.1;have fq3:=hG.2.2.2.1;have fq4:=hG.2.2.2.2.1;have fq5:=hG.2.2.2.2.2;go_simp
   (go_at_call 35;refine (HPY.out _ (fq0.co y HYM.out)).mono ?_;rintro e wm ⟨A2,n2,c2,rfl,hDb,-,-,hb⟩;replace hDa:=hDa.below hb)
   refine hK.out _ _ ?hsr1_13 (fun hH2=>?hrr1_13)
   case hsr1_13=>exact aC (by have hG:=hH;replace hG:=aA hG;(try dsimp only at hG);have q0:=hG.1;have q1:=hG.2.1;have q2:=hG.2.2.1;have q3:=hG.2.2.2.1;have q4:=hG.2.2.2.2.1;have q5:=hG.2.2.2.2.2;exact ⟨Bl hb q0,aJ.below hb q1,keepCell hb q2,keepCell hb q3,yG hb q4,aj hb q5⟩)
   clear hK K hH;have hH:=hH2;clear hH2
   try simp only [Act.put,sA,sB,sC]
   clear hG fq0 fq1 fq2 fq3 fq4 fq5;refine U1 12 0 rfl (fun K hK=>?_)
   try clear hb
   have hG:=hH;replace hG:=aA hG;(try dsimp only at hG);have fq0:=hG.1;have fq1:=hG.2.1;have fq2:=hG.2.2.1;have fq3:=hG.2.2.2.1;have fq4:=hG.2.2.2.2.1;have fq5:=hG.2.2.2.2.2;have hns:=hid (fun q (hq:s.ownBlock=some q)=>(fq4.lt hq).2);go_simp
   (go_at_call 107;refine (HOF.out A1 A2 n1 c1 n2 c2 _ hDa hDb).mono ?_;rintro e wl ⟨A3,n3,c3,rfl,hP3,hf3,hb⟩)
   refine hK.out _ _ ?hsr1_14 (fun hH2=>?hrr1_14)
   case hsr1_14=>exact aC (by have hG:=hH;replace hG:=aA hG;(try dsimp only at hG);have q0:=hG.1;have q1:=hG.2.1;have q2:=hG.2.2.1;have q3:=hG.2.2.2.1;have q4:=hG.2.2.2.2.1;have q5:=hG.2.2.2.2.2;exact ⟨Bl hb q0,aJ.below hb q1,keepCell hb q2,keepCell hb q3,yG hb q4,aj hb q5⟩)
   clear hK K hH;have hH:=hH2;clear hH2
   try simp only [Act.put,sA,sB,sC]
   clear hG fq0 fq1 fq2 fq3 fq4 fq5 hDa hDb;refine Ut 13 40 0 0 0 (v:=?vr1_15) rfl hWr1 hH ?hyr1_15 ?_
   case hyr1_15=>(intro w' hSw;clear hSw;go_simp;try (with_reducible rfl))
   simp only [sB,sC];refine ak (by kernel_rfl) ?_ _ _;refine NoPanic.normal ?_;clear hWr1;replace hH:=aA hH
   (try dsimp only at hH)
   have t0:=hH.1;have t1:=hH.2.1;have t2:=hH.2.2.1;have t3:=hH.2.2.2.1;have t4:=hH.2.2.2.2.1;have t5:=hH.2.2.2.2.2;have HFI:Hid (FI w1 gp i k A3 n3 c3 Z s (o ++ (Z.take 0).map (Ib (i,k))) wl):=⟨by simpa using t4,t5,t2,t3,hP3,fun q hq=>⟨HGP.out q hq,fun _ b off e e2=>by have:=hf3 b off e;have:=hns.out q hq;omega⟩⟩;have hn3:=hP3.len;have hc3:=hP3.cap;have hb3:=hP3.big;subst hn3;clear t0 t1 t2 t3 t4 t5 hP3 hf3 hns HGP HPX HPY HOF HSW HCW HOW HBW g0 g1;go_wp2
   go_loopw [8,41] (fun s' j wr=>∃ v:Nat,v≤Z.length∧j = .int .i64 v∧FI w1 gp i k A3 Z.length c3 Z s' (o ++ (Z.take v).map (Ib (i,k))) wr) (fun _ j _=>Z.length-(intOf j).toNat)
   case atStart=>exact ⟨0,Nat.zero_le _,rfl,HFI.out⟩
   case round =>
    clear HFI;obtain ⟨v,hv,rfl,hfi⟩:=hrel;obtain ⟨wz,rfl⟩:∃ wz:World,wz=wr:=⟨_,rfl⟩;obtain ⟨s',hs'⟩:∃ s',s'=u8:=⟨_,rfl⟩;rw [← hs'] at hfi ⊢;clear hs'
    by_cases hlt2:v<Z.length
    ·obtain ⟨z, hz⟩ : ∃ z, z = Z[v] := ⟨_, rfl⟩;have HZT:Hid (o ++ (Z.take (v+1)).map (Ib (i,k))=(o ++ (Z.take v).map (Ib (i,k))) ++ [Ib (i,k) z]):=by show _=_;rw [List.take_succ_eq_append_getElem hlt2,List.map_append,← hz,List.append_assoc];rfl
     have HOL:Hid ((o ++ (Z.take v).map (Ib (i,k))).length≤8194):=by
      have h1:=HFL.out;have h2:=HZL.out;show _≤_;rw [List.length_append,List.length_map,List.length_take];omega
     obtain ⟨bz,oz,rfl,hCZ⟩:=hfi.pts.at_ (by intro h;rw [h] at hlt2;simp at hlt2);obtain ⟨e0,e1,e2,e3,e4,e5⟩:=hCZ.ptK hlt2 hz;obtain ⟨⟨⟨z1,z2⟩,z3,z4⟩,z5,z6⟩:=z;dsimp only at e0 e1 e2 e3 e4 e5;have HPC:Hid (Ib (i,k) (((z1,z2),(z3,z4)),(z5,z6))=⟨(i:Nat),(k:Nat),z6,z1,z2,z3,z4,z5,0,0⟩):=rfl;rw [HPC.out] at HZT;have hbz:=hCZ.lt;have hlt2':(v:Int)<(Z.length:Int):=by omega
     have hwv:IntKind.i64.wrap ((v:Int)+1)=(v:Int)+1:=IntWalk.i64_in _ (by omega);obtain ⟨gq,hgq⟩:∃ g,g=wz.heap.size:=⟨_,rfl⟩;obtain ⟨wq,hwq⟩:∃ w',w'=wz.alloc (.cells #[.int .i64 z1,.int .i64 z2,.int .i64 z3,.int .i64 z4,.int .i64 z5,.int .i64 z6] 160):=⟨_,rfl⟩;have HQ:Hid (FI w1 gp i k (some ⟨bz,oz,none⟩) Z.length c3 Z s' (o ++ (Z.take v).map (Ib (i,k))) wq):=by rw [hwq];exact hfi.keep Ba
     have q0:wq.cell? ⟨gq,0,none⟩=some (.int .i64 z1):=by rw [hwq,hgq];go_simp
     have q1:wq.cell? ⟨gq,1,none⟩=some (.int .i64 z2):=by rw [hwq,hgq];go_simp
     have q2:wq.cell? ⟨gq,2,none⟩=some (.int .i64 z3):=by rw [hwq,hgq];go_simp
     have q3:wq.cell? ⟨gq,3,none⟩=some (.int .i64 z4):=by rw [hwq,hgq];go_simp
     have q4:wq.cell? ⟨gq,4,none⟩=some (.int .i64 z5):=by rw [hwq,hgq];go_simp
     have q5:wq.cell? ⟨gq,5,none⟩=some (.int .i64 z6):=by rw [hwq,hgq];go_simp
     have g0:=HQ.out.g0;have g1:=HQ.out.g1;generalize o ++ (Z.take v).map (Ib (i,k))=o2 at *
     clear hfi hz hCZ HPC
     go_upto_region 11 with fail
     rw [← hwq,← hgq];clear hwq hgq e0 e1 e2 e3 e4 e5 hbz
     go_wp2_with (at_builtin;refine dS zK rfl _ _ rfl w1.heap.size _ _ rfl (HQ.out.own.alloc _) wq.heap.size 0 1 1 [⟨(i:Nat),(k:Nat),z6,z1,z2,z3,z4,z5,0,0⟩] rfl rfl (Bf (by go_simp) (by go_simp) (by go_simp) (by go_simp) (by go_simp) (by go_simp) (by go_simp) (by go_simp) (by go_simp) (by go_simp)) (by have:=HOL.out;simp;omega) (by have:=HOL.out;simp;omega) (by have:=HQ.out.bel.size;simp;omega) ?_;intro v' w7 ho1 hg1 hat;have HF7:=hid ((HQ.out.keep Ba).app ho1 hg1 hat);clear ho1 hg1 hat)
     clear HQ g0 g1 q0 q1 q2 q3 q4 q5;go_roundw
     case rel=>exact ⟨v+1,hlt2,by go_num,by rw [HZT.out];exact HF7.out⟩
     case measure=>simp [intOf];omega
    ·have hvn : v = Z.length := by omega
     subst hvn
     have HFW2:Hid (FW w1 s' (lS L P (t+1)) wz):=by
      have h1:=hfi.own;rw [List.take_length,← HFP.out,← HSU.out] at h1;exact ⟨h1,hfi.bel⟩
     clear hfi;go_wp2;go_roundw
     case rel=>exact ⟨t+1,hlt,by go_num,HFW2.out⟩
     case measure=>simp [intOf];omega
  ·have hte : t = P.length := by omega
   subst hte;have e1:lS L P P.length=qW L:=by rw [HP.out];exact Jd L
   rw [e1] at hfw HFW;obtain ⟨sA,sn,sc,hse,hsl,-⟩:=hfw.own.sl;have hB1:Below w.heap.size w wo:=HB0.out.trans (hfw.bel.mono HB0.out.size)
   have HCA:=hid (Df B sA m c' sn sc old (qW L) wo (HO.out.below hB1) hsl (by
    have h1:=GA L;have h2:=Nat.mul_le_mul h64 h64
    omega))
   have HB1:=hid hB1;subst hse;clear hfw HFW hsl hB1 e1
   go_wp2_with fail
   refine HCA.out.mono ?_;rintro e w2 ⟨A2,n2,c2,rfl,hs2,hb2⟩;have HR:Hid (GZ L old w (.returned (.tuple #[.slice A2 n2 c2,.int .i64 0])) w2):=⟨A2,n2,c2,by rw [HEZ.out],by unfold iB;rw [if_pos HEZ.out];exact hs2,aj hb2 HB1.out⟩;clear HCA hs2 hb2;go_wp2;refine bodyPost_ret (v:=.tuple #[.slice A2 n2 c2,.int .i64 0]) (by simp [results,Tryz.results43,go_sem]) rfl HR.out
end
end Go.Proofs.YtokgmcomgflloaaGreat
