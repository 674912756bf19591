/- Parts of a proof: contracts and laws. -/
import Derived.Test.YtokgmcomgflloaaGreatQA10
import Derived.Test.YtokgmcomgflloaaGreatQA13
import Derived.Test.YtokgmcomgflloaaGreatQA14
import Derived.Test.YtokgmcomgflloaaGreatQA02
set_option maxRecDepth 100000
set_option maxHeartbeats 16000000
namespace Go.Proofs.YtokgmcomgflloaaGreat
section
set_option linter.unusedVariables false
set_option linter.unusedSimpArgs false
open Go.RowKit
variable {w0 w w':World}

def zk (L:List BE) (i:Int):Bd:=match L[i.toNat]? with | some y=>y.b | none=>mX
def yC (L:List BE) (x:Jt):Value:=if bS L [x]≠0 then .tuple #[aR 0 0,aR 0 0,.int .i64 (bS L [x])] else .tuple #[aR (wX (zk L x.a) x.p1 x.p2) (wY (zk L x.a) x.p1 x.p2),aR (wX (zk L x.b) x.q1 x.q2) (wY (zk L x.b) x.q1 x.q2),.int .i64 0]
theorem qE (a b:Int):bT a b=bT b a:=by unfold bT;rw [Int.add_comm]

structure Ej (w0 : World) (bL oL : Nat) (L : List BE) (x : Jt) (w : World) : Prop where
 j:w.cell? ⟨w0.heap.size,0,none⟩=some (.int .i64 x.a)∧w.cell? ⟨w0.heap.size,1,none⟩=some (.int .i64 x.b)∧w.cell? ⟨w0.heap.size,2,none⟩=some (.int .i64 x.p1)∧w.cell? ⟨w0.heap.size,3,none⟩=some (.int .i64 x.p2)∧w.cell? ⟨w0.heap.size,4,none⟩=some (.int .i64 x.q1)∧w.cell? ⟨w0.heap.size,5,none⟩=some (.int .i64 x.q2)∧w.cell? ⟨w0.heap.size,6,none⟩=some (.int .i64 x.len)
 cl:aJ jo w bL oL L
 z1:VZ w (w0.heap.size+1)
 z2:VZ w (w0.heap.size+2)
 bel:Below w0.heap.size w0 w
 lt:bL<w0.heap.size
 sz:w0.heap.size+2<w.heap.size
theorem rP {bL oL:Nat} {L:List BE} {x:Jt} {w w':World} (hb:Below w.heap.size w w') (h:Ej w0 bL oL L x w):Ej w0 bL oL L x w':=by
 obtain ⟨h0,h1,h2,h3,h4,h5,h6⟩:=h.j;exact ⟨⟨keepCell hb h0,keepCell hb h1,keepCell hb h2,keepCell hb h3,keepCell hb h4,keepCell hb h5,keepCell hb h6⟩,h.cl.below hb,aG hb h.z1,aG hb h.z2,aj hb h.bel,h.lt,Nat.lt_of_lt_of_le h.sz hb.size⟩
theorem Ej.alloc {bL oL:Nat} {L:List BE} {x:Jt} {w:World} (h:Ej w0 bL oL L x w) (o:Obj):Ej w0 bL oL L x (w.alloc o):=rP Ba h
theorem Ej.drew {bL oL:Nat} {L:List BE} {x:Jt} {w:World} (h:Ej w0 bL oL L x w):Ej w0 bL oL L x w.drew:=rP (Below.refl _ _).drew h
theorem Ej.set {bL oL:Nat} {L:List BE} {x:Jt} {w:World} {g o:Nat} {v:Value} (h:Ej w0 bL oL L x w) (hg:w0.heap.size+2<g):Ej w0 bL oL L x (w.setCell ⟨g,o,none⟩ v):=by
 obtain ⟨h0,h1,h2,h3,h4,h5,h6⟩:=h.j;have hlt:=h.lt;have n0:g≠w0.heap.size:=by omega
 have n1:g≠w0.heap.size+1:=by omega
 have n2:g≠w0.heap.size+2:=by omega
 have vz:∀ k,g≠k→VZ w k→VZ (w.setCell ⟨g,o,none⟩ v) k:=fun k hk hz=>by
  obtain ⟨⟨a,b,c,d⟩,f⟩:=hz;exact ⟨⟨a,b,aY hk c,aY hk d⟩,fun j=>by rw [World.frozen?_setCell];exact f j⟩
 exact ⟨⟨aY n0 h0,aY n0 h1,aY n0 h2,aY n0 h3,aY n0 h4,aY n0 h5,aY n0 h6⟩,⟨by simp;exact h.cl.lt,fun j hj i u hu=>aY (by omega) (h.cl.at_ j hj i u hu)⟩,vz _ n1 h.z1,vz _ n2 h.z2,h.bel.setCell (p:=⟨g,o,none⟩) (by show w0.heap.size≤g;omega) _,h.lt,by simp;exact h.sz⟩
theorem Ej.setBd {bL oL:Nat} {L:List BE} {x:Jt} {w:World} {g:Nat} (h:Ej w0 bL oL L x w) (hg:w0.heap.size+2<g) (b:Bd) (A:Option Addr) (n c:Nat):Ej w0 bL oL L x (Go.Proofs.YtokgmcomgflloaaGreat.setBd w g b A n c):=by
 unfold Go.Proofs.YtokgmcomgflloaaGreat.setBd
 iterate 13 refine Ej.set ?_ hg
 exact h
theorem aL.offJ {g k o:Nat} {v:Value} {b:Bd} {A:Option Addr} {n c:Nat} (h:aL w g b A n c) (hne:k≠g):aL (w.setCell ⟨k,o,none⟩ v) g b A n c:=by
 obtain ⟨h0,h1,h2,h3,h4,h5,h6,h7,h8,h9,h10,h11,h12,hf⟩:=h;exact ⟨aY hne h0,aY hne h1,aY hne h2,aY hne h3,aY hne h4,aY hne h5,aY hne h6,aY hne h7,aY hne h8,aY hne h9,aY hne h10,aY hne h11,aY hne h12,fun j=>by rw [World.frozen?_setCell];exact hf j⟩
theorem aL.setBd_offJ {g k:Nat} {b:Bd} {A:Option Addr} {n c:Nat} (h:aL w g b A n c) (hne:k≠g) (b':Bd) (A':Option Addr) (n' c':Nat):aL (Go.Proofs.YtokgmcomgflloaaGreat.setBd w k b' A' n' c') g b A n c:=by
 unfold Go.Proofs.YtokgmcomgflloaaGreat.setBd
 iterate 13 refine aL.offJ ?_ hne
 exact h
theorem Ou {bL oL:Nat} {L:List BE} {x:Jt} {w:World} {gT gU:Nat} (h1:w0.heap.size+2<gT) (h2:w0.heap.size+2<gU) (hne:¬ gT=gU) (h:Ej w0 bL oL L x w) (hT:fD w gT) (hU:fD w gU) (b b':Bd) (A A':Option Addr) (n n' c c':Nat) :
  Ej w0 bL oL L x (setBd (setBd w gT b A n c) gU b' A' n' c')∧aL (setBd (setBd w gT b A n c) gU b' A' n' c') gT b A n c∧aL (setBd (setBd w gT b A n c) gU b' A' n' c') gU b' A' n' c' :=
 ⟨(h.setBd h1 b A n c).setBd h2 b' A' n' c',aL.setBd_offJ (jZ hT b A n c) (fun e=>hne e.symm) b' A' n' c',jZ (hU.setBd b A n c) b' A' n' c'⟩
theorem NY {g:Nat} {x:Jt} (h:aJ gZ w g 0 [x]):dW gZ w (some ⟨g,0,none⟩) 1 1 [x]:=⟨rfl,Nat.le_refl _,by omega,fun _=>⟨g,0,rfl,h⟩⟩
theorem En (A:Option Addr) (n c:Nat) (L:List BE) (x:Jt) (w:World) (hS:iH w A n c L):Calls Tryz.prog 54 #[.slice A n c,P7 x] w (dG (yC L x) w):=by
 have hn:=hS.sl.len;have hcap:=hS.sl.cap;have hbig:=hS.sl.big;subst hn;obtain ⟨W,hW⟩:∃ W,W=((w.alloc (.cells #[.int .i64 x.a,.int .i64 x.b,.int .i64 x.p1,.int .i64 x.p2,.int .i64 x.q1,.int .i64 x.q2,.int .i64 x.len] 37)).alloc (.cells #[.int .i64 0,.int .i64 0] 24)).alloc (.cells #[.int .i64 0,.int .i64 0] 24):=⟨_,rfl⟩;obtain ⟨w1,hw1⟩:∃ w1,w1=W.alloc (.cells #[.int .i64 x.a,.int .i64 x.b,.int .i64 x.p1,.int .i64 x.p2,.int .i64 x.q1,.int .i64 x.q2,.int .i64 x.len] 37):=⟨_,rfl⟩;have j0:w1.cell? ⟨w.heap.size,0,none⟩=some (.int .i64 x.a):=by rw [hw1,hW];go_simp
 have j1:w1.cell? ⟨w.heap.size,1,none⟩=some (.int .i64 x.b):=by rw [hw1,hW];go_simp
 have j2:w1.cell? ⟨w.heap.size,2,none⟩=some (.int .i64 x.p1):=by rw [hw1,hW];go_simp
 have j3:w1.cell? ⟨w.heap.size,3,none⟩=some (.int .i64 x.p2):=by rw [hw1,hW];go_simp
 have j4:w1.cell? ⟨w.heap.size,4,none⟩=some (.int .i64 x.q1):=by rw [hw1,hW];go_simp
 have j5:w1.cell? ⟨w.heap.size,5,none⟩=some (.int .i64 x.q2):=by rw [hw1,hW];go_simp
 have j6:w1.cell? ⟨w.heap.size,6,none⟩=some (.int .i64 x.len):=by rw [hw1,hW];go_simp
 have hB1:Below w.heap.size w w1:=by rw [hw1,hW];go_grown
 have hz1:VZ w1 (w.heap.size+1):=by rw [hw1,hW];exact ⟨⟨.int .i64 0,.int .i64 0,by go_simp,by go_simp⟩,fun j=>by go_simp⟩
 have hz2:VZ w1 (w.heap.size+2):=by rw [hw1,hW];exact ⟨⟨.int .i64 0,.int .i64 0,by go_simp,by go_simp⟩,fun j=>by go_simp⟩
 have hsz:w.heap.size+2<w1.heap.size:=by rw [hw1,hW];simp
 have hjo:aJ gZ w1 (w.heap.size+3) 0 [x]:=by rw [hw1,hW];exact rU (by go_simp) (by go_simp) (by go_simp) (by go_simp) (by go_simp) (by go_simp) (by go_simp)
 have HS1:=hid (hS.below hB1);have HS0:=hid hS.sl;have HCK:=hid (nV A (some ⟨w.heap.size+3,0,none⟩) L.length c 1 1 L [x] w1 HS1.out (NY hjo));clear hS hjo
 go_enter Tryz.func54,Tryz.ntmps54
 go_wp2_with fail
 rw [← hW,← hw1];clear hW hw1;refine HCK.out.mono ?_;rintro e w3 ⟨rfl,hb⟩;clear HCK
 by_cases hE:bS L [x]=0
 case neg =>
  have HEN:Hid (yC L x = .tuple #[aR 0 0,aR 0 0,.int .i64 (bS L [x])]):=by show _=_;unfold yC;rw [if_pos hE]
  have hne:(bS L [x] != 0)=true:=by simp [hE]
  generalize bS L [x]=z at *
  obtain ⟨⟨v0,v1,y0,y1⟩,yf⟩:=aG hb hz1;obtain ⟨⟨v2,v3,y2,y3⟩,yf2⟩:=aG hb hz2;have hB:=aj hb hB1;have hl9:=lt_of_cell y0;have hl8:=lt_of_cell y2;clear hb hz1 hz2 hB1 HS1 HS0 j0 j1 j2 j3 j4 j5 j6;go_wp2;refine bodyPost_ret (v:=.tuple #[aR 0 0,aR 0 0,.int .i64 z]) (by simp [results,Tryz.results54,go_sem,y0,y1,y2,y3,hl9,hl8]) rfl ⟨by rw [HEN.out],?_⟩
  go_grown
 obtain ⟨hbe,-,hjs⟩:=iK hE;obtain ⟨⟨ha0,hab,hbl⟩,-,-,-,-⟩:=nC (hjs x (by simp));obtain ⟨-,hval⟩:=eY hbe;obtain ⟨ka,hka'⟩:∃ ka:Nat,x.a=ka:=⟨x.a.toNat,by omega⟩;obtain ⟨kb,hkb'⟩:∃ kb:Nat,x.b=kb:=⟨x.b.toNat,by omega⟩;have hka:ka<L.length:=by omega
 have hkb:kb<L.length:=by omega
 obtain ⟨xa,hxa⟩:∃ y,y=L[ka]:=⟨_,rfl⟩;obtain ⟨xb,hxb⟩:∃ y,y=L[kb]:=⟨_,rfl⟩;have HXA:=hid hxa;have HXB:=hid hxb;have mva:=ji (bJ (hval xa (by rw [hxa];exact List.getElem_mem hka))).2;have mvb:=ji (bJ (hval xb (by rw [hxb];exact List.getElem_mem hkb))).2;have HAA:Hid (0≤xa.b.ang∧xa.b.ang<4294967296):=by have:=mva.2.2.2.1;show _∧_;omega
 have HAB:Hid (0≤xb.b.ang∧xb.b.ang<4294967296):=by have:=mvb.2.2.2.1;show _∧_;omega
 have HWA1:Hid (bT xa.b.px (mE x.p1 x.p2 xa.b.ang)=wX xa.b x.p1 x.p2):=qE _ _;have HWA2:Hid (bT xa.b.py (mg x.p1 x.p2 xa.b.ang)=wY xa.b x.p1 x.p2):=qE _ _;have HWB1:Hid (bT xb.b.px (mE x.q1 x.q2 xb.b.ang)=wX xb.b x.q1 x.q2):=qE _ _;have HWB2:Hid (bT xb.b.py (mg x.q1 x.q2 xb.b.ang)=wY xb.b x.q1 x.q2):=qE _ _
 have HEN:Hid (yC L x = .tuple #[aR (wX xa.b x.p1 x.p2) (wY xa.b x.p1 x.p2),aR (wX xb.b x.q1 x.q2) (wY xb.b x.q1 x.q2),.int .i64 0]):=by
  show _=_;unfold yC;rw [if_neg (by simp [hE])];have e1:zk L x.a=xa.b:=by unfold zk;rw [hka',Int.toNat_natCast,List.getElem?_eq_getElem hka,hxa]
  have e2:zk L x.b=xb.b:=by unfold zk;rw [hkb',Int.toNat_natCast,List.getElem?_eq_getElem hkb,hxb]
  rw [e1,e2]
 obtain ⟨e1,he1⟩:∃ e,e=wX xa.b x.p1 x.p2:=⟨_,rfl⟩;obtain ⟨e2,he2⟩:∃ e,e=wY xa.b x.p1 x.p2:=⟨_,rfl⟩;obtain ⟨e3,he3⟩:∃ e,e=wX xb.b x.q1 x.q2:=⟨_,rfl⟩;obtain ⟨e4,he4⟩:∃ e,e=wY xb.b x.q1 x.q2:=⟨_,rfl⟩;rw [← he1,← he2,← he3,← he4] at HEN;rw [← he1] at HWA1;rw [← he2] at HWA2;rw [← he3] at HWB1;rw [← he4] at HWB2;clear he1 he2 he3 he4;obtain ⟨bL,oL,hAe,hcl⟩:=HS0.out.at_ (by intro h;subst h;simp at hka);subst hAe;have HEJ4:Hid (Ej w bL oL L x w3):=rP hb ⟨⟨j0,j1,j2,j3,j4,j5,j6⟩,hcl.below hB1,hz1,hz2,hB1,hcl.lt,hsz⟩;have hac:(ka:Int)<(L.length:Int):=by omega
 have hbc:(kb:Int)<(L.length:Int):=by omega
 rw [hE];clear hE hbe hjs hval mva mvb hxa hxb hcl HS1 HS0 hz1 hz2 hB1 j0 j1 j2 j3 j4 j5 j6 hsz hb
 go_upto_region 4 with fail
 refine (fun (hNr2:Hid (?Tr2:Prop))=>?mainr2) (hid ?prfr2)
 case mainr2 =>
  refine wp_region_noPanic ?_;refine au (S:=(S3 (fun w'=>Ej w bL oL L x w') (fun w'=>Ej w bL oL L x w'))) (T:=(fun j=>[0,0,0,0,0,0,0,0,0,0,0,0,1,2].getD j 0)) (by kernel_rfl) (iC HEJ4.out.drew) (fun hH=>?_);have hWr2:aH (S3 (fun w'=>Ej w bL oL L x w') (fun w'=>Ej w bL oL L x w')):=fP (fun _ q0=>q0);refine dn [(0,19),(1,20),(2,21),(3,22),(4,23)] 9 0 0 (L':=?Lr2_1) hWr2 hH ?hyr2_1 ?_
  case hyr2_1=>((iterate 5 apply dA;rfl;kernel_rfl;intro w' hSw;replace hSw:=dR hSw;(try dsimp only at hSw);have q0:=hSw;obtain ⟨qa0_0,qa0_1,qa0_2,qa0_3,qa0_4,qa0_5,qa0_6⟩:=(q0).j;obtain ⟨b0_0,b0_1,b0_2,b0_3,b0_4,b0_5,b0_6,b0_7,b0_8,b0_9,b0_10,b0_11,b0_12⟩:=dD (q0).cl hka HXA.out;obtain ⟨c0_0,c0_1,c0_2,c0_3,c0_4,c0_5,c0_6,c0_7,c0_8,c0_9,c0_10,c0_11,c0_12⟩:=dD (q0).cl hkb HXB.out;(try simp only [sB,sC]);go_simp;(try with_reducible rfl));exact dw)
  simp only [sB,sC];refine dn [(5,24),(6,25),(7,26),(8,27),(9,28)] 4 1 0 (L':=?Lr2_6) hWr2 hH ?hyr2_6 ?_
  case hyr2_6=>((iterate 5 apply dA;rfl;kernel_rfl;intro w' hSw;replace hSw:=rV hSw;(try dsimp only at hSw);have q0:=hSw;obtain ⟨qa0_0,qa0_1,qa0_2,qa0_3,qa0_4,qa0_5,qa0_6⟩:=(q0).j;obtain ⟨b0_0,b0_1,b0_2,b0_3,b0_4,b0_5,b0_6,b0_7,b0_8,b0_9,b0_10,b0_11,b0_12⟩:=dD (q0).cl hka HXA.out;obtain ⟨c0_0,c0_1,c0_2,c0_3,c0_4,c0_5,c0_6,c0_7,c0_8,c0_9,c0_10,c0_11,c0_12⟩:=dD (q0).cl hkb HXB.out;(try simp only [sB,sC]);go_simp;(try with_reducible rfl));exact dw)
  simp only [sB,sC];refine Ur [10,11] ?_;refine Uc 0 rfl (fun K hK=>?_) ?_
  ·try clear hb
   have hG:=hH;replace hG:=dR hG;(try dsimp only at hG);have q0:=hG;go_simp;refine hK.out _ _ ?hsr2_11 (fun hH2=>?hrr2_11)
   case hsr2_11=>exact iC (by have hG:=hH;replace hG:=dR hG;(try dsimp only at hG);have q0:=hG;exact q0.alloc _)
   clear hK K hH;have hH:=hH2;clear hH2
   try simp only [Act.put,sA,sB,sC]
   have hT:fD ((w3.alloc (.cells #[.int .i64 0,.int .i64 0,.int .i64 0,.int .i64 0,.int .i64 0,.int .i64 0,.int .i64 0,.int .i64 0,.int .i64 0,.int .i64 0,.slice none 0 0,.bool false,.int .i64 0] 27)).drew) w3.heap.size:=fD.drew (by have:=aL.here w3 mX none 0 0 27;simp only [mX] at this;exact fD.of this);obtain ⟨gT,hgT⟩:∃ g,g=w3.heap.size:=⟨_,rfl⟩;have hlT:w.heap.size+2<gT:=by rw [hgT];exact q0.sz
   rw [← hgT] at hT
   try rw [← hgT]
   clear hgT q0;generalize (w3.alloc (.cells #[.int .i64 0,.int .i64 0,.int .i64 0,.int .i64 0,.int .i64 0,.int .i64 0,.int .i64 0,.int .i64 0,.int .i64 0,.int .i64 0,.slice none 0 0,.bool false,.int .i64 0] 27)).drew=wx10 at *
   refine U1 11 0 rfl (fun K hK=>?_)
   try clear hb
   have hG:=hH;replace hG:=dR hG;(try dsimp only at hG);have q0:=hG;have hZT:=fD.lt hT;go_simp;refine hK.out _ _ ?hsr2_12 (fun hH2=>?hrr2_12)
   case hsr2_12=>exact iC (by have hG:=hH;replace hG:=dR hG;(try dsimp only at hG);have q0:=hG;exact q0.alloc _)
   clear hK K hH;have hH:=hH2;clear hH2
   try simp only [Act.put,sA,sB,sC]
   have hU:fD (wx10.alloc (.cells #[.int .i64 0,.int .i64 0,.int .i64 0,.int .i64 0,.int .i64 0,.int .i64 0,.int .i64 0,.int .i64 0,.int .i64 0,.int .i64 0,.slice none 0 0,.bool false,.int .i64 0] 27)) wx10.heap.size:=by have:=aL.here wx10 mX none 0 0 27;simp only [mX] at this;exact fD.of this
   replace hT:=cO ((Below.refl _ _).alloc (Nat.le_refl _) (.cells #[.int .i64 0,.int .i64 0,.int .i64 0,.int .i64 0,.int .i64 0,.int .i64 0,.int .i64 0,.int .i64 0,.int .i64 0,.int .i64 0,.slice none 0 0,.bool false,.int .i64 0] 27)) hT;obtain ⟨gU,hgU⟩:∃ g,g=wx10.heap.size:=⟨_,rfl⟩;have hlU:w.heap.size+2<gU∧gT<gU:=by rw [hgU];exact ⟨q0.sz,hZT⟩
   rw [← hgU] at hU
   try rw [← hgU]
   clear hgU q0;generalize wx10.alloc (.cells #[.int .i64 0,.int .i64 0,.int .i64 0,.int .i64 0,.int .i64 0,.int .i64 0,.int .i64 0,.int .i64 0,.int .i64 0,.int .i64 0,.slice none 0 0,.bool false,.int .i64 0] 27)=wx11 at *
   refine bE (l':=tf 14 4095) (by kernel_rfl) ?_;have hl2:w.heap.size+2<gT∧w.heap.size+2<gU∧gT≠gU:=by omega
   clear hlT hlU
   try clear hZT
   try clear hZU
   try clear hb
   revert hH
   revert hU;revert hT
   revert hl2
   revert gU;revert gT
   revert wx11
   exact hNr2.out
  refine Uc 0 rfl (fun K hK=>?_) ?_
  ·try clear hb
   have hG:=hH;replace hG:=dR hG;(try dsimp only at hG);have q0:=hG;go_simp;refine hK.out _ _ ?hsr2_15 (fun hH2=>?hrr2_15)
   case hsr2_15=>exact iC (by have hG:=hH;replace hG:=dR hG;(try dsimp only at hG);have q0:=hG;exact q0.alloc _)
   clear hK K hH;have hH:=hH2;clear hH2
   try simp only [Act.put,sA,sB,sC]
   have hU:fD ((w3.alloc (.cells #[.int .i64 0,.int .i64 0,.int .i64 0,.int .i64 0,.int .i64 0,.int .i64 0,.int .i64 0,.int .i64 0,.int .i64 0,.int .i64 0,.slice none 0 0,.bool false,.int .i64 0] 27)).drew) w3.heap.size:=fD.drew (by have:=aL.here w3 mX none 0 0 27;simp only [mX] at this;exact fD.of this);obtain ⟨gU,hgU⟩:∃ g,g=w3.heap.size:=⟨_,rfl⟩;have hlU:w.heap.size+2<gU:=by rw [hgU];exact q0.sz
   rw [← hgU] at hU
   try rw [← hgU]
   clear hgU q0;generalize (w3.alloc (.cells #[.int .i64 0,.int .i64 0,.int .i64 0,.int .i64 0,.int .i64 0,.int .i64 0,.int .i64 0,.int .i64 0,.int .i64 0,.int .i64 0,.slice none 0 0,.bool false,.int .i64 0] 27)).drew=wx11 at *
   refine U1 10 0 rfl (fun K hK=>?_)
   try clear hb
   have hG:=hH;replace hG:=dR hG;(try dsimp only at hG);have q0:=hG;have hZU:=fD.lt hU;go_simp;refine hK.out _ _ ?hsr2_16 (fun hH2=>?hrr2_16)
   case hsr2_16=>exact iC (by have hG:=hH;replace hG:=dR hG;(try dsimp only at hG);have q0:=hG;exact q0.alloc _)
   clear hK K hH;have hH:=hH2;clear hH2
   try simp only [Act.put,sA,sB,sC]
   have hT:fD (wx11.alloc (.cells #[.int .i64 0,.int .i64 0,.int .i64 0,.int .i64 0,.int .i64 0,.int .i64 0,.int .i64 0,.int .i64 0,.int .i64 0,.int .i64 0,.slice none 0 0,.bool false,.int .i64 0] 27)) wx11.heap.size:=by have:=aL.here wx11 mX none 0 0 27;simp only [mX] at this;exact fD.of this
   replace hU:=cO ((Below.refl _ _).alloc (Nat.le_refl _) (.cells #[.int .i64 0,.int .i64 0,.int .i64 0,.int .i64 0,.int .i64 0,.int .i64 0,.int .i64 0,.int .i64 0,.int .i64 0,.int .i64 0,.slice none 0 0,.bool false,.int .i64 0] 27)) hU;obtain ⟨gT,hgT⟩:∃ g,g=wx11.heap.size:=⟨_,rfl⟩;have hlT:w.heap.size+2<gT∧gU<gT:=by rw [hgT];exact ⟨q0.sz,hZU⟩
   rw [← hgT] at hT
   try rw [← hgT]
   clear hgT q0;generalize wx11.alloc (.cells #[.int .i64 0,.int .i64 0,.int .i64 0,.int .i64 0,.int .i64 0,.int .i64 0,.int .i64 0,.int .i64 0,.int .i64 0,.int .i64 0,.slice none 0 0,.bool false,.int .i64 0] 27)=wx10 at *
   refine bE (l':=tf 14 4095) (by kernel_rfl) ?_;have hl2:w.heap.size+2<gT∧w.heap.size+2<gU∧gT≠gU:=by omega
   clear hlT hlU
   try clear hZT
   try clear hZU
   try clear hb
   revert hH
   revert hU;revert hT
   revert hl2
   revert gU;revert gT
   revert wx10
   exact hNr2.out
  exact bC.nil
 case prfr2 =>
  intro wX gT gU hl2 hT hU hH;have hWr2:aH (S3 (fun w'=>Ej w bL oL L x w') (fun w'=>Ej w bL oL L x w')):=fP (fun _ q0=>q0);refine U1 12 1 rfl (fun K hK=>?_)
  try clear hb
  have hG:=hH;replace hG:=dR hG;(try dsimp only at hG);have q0:=hG;have HEJ:=hid q0;have HT:=hid hT;have HU:=hid hU;obtain ⟨z0,z1,z2,z3,z4,z5,z6,z7,z8,z9,z10,z11,z12,y0,y1,y2,y3,y4,y5,y6,y7,y8,y9,y10,y11,y12⟩:=hT.all;have yf:=hT.free;obtain ⟨t0,t1,t2,t3,t4,t5,t6,t7,t8,t9,t10,t11,t12,u0,u1,u2,u3,u4,u5,u6,u7,u8,u9,u10,u11,u12⟩:=hU.all;have uf:=hU.free;have hneTU:¬ gT=gU:=hl2.2.2;have hneUT:¬ gU=gT:=fun h=>hl2.2.2 h.symm
  clear hG q0;go_simp;refine hK.out _ _ ?hsr2_13 (fun hH2=>?hrr2_13)
  case hsr2_13=>exact rF (by have hh:=HEJ.out.setBd hl2.1 xa.b xa.A xa.n xa.c;unfold Go.Proofs.YtokgmcomgflloaaGreat.setBd at hh;exact hh)
  clear hK K hH;have hH:=hH2;clear hH2
  try simp only [Act.put,sA,sB,sC]
  refine U1 13 2 rfl (fun K hK=>?_);go_simp;refine hK.out _ _ ?hsr2_14 (fun hH2=>?hrr2_14)
  case hsr2_14=>exact vR
  clear hK K hH;have hH:=hH2;clear hH2
  try simp only [Act.put,sA,sB,sC]
  refine ak (by kernel_rfl) ?_ _ _;refine NoPanic.normal ?_;obtain ⟨w5,hw5⟩:∃ w5,w5=setBd (setBd wX gT xa.b xa.A xa.n xa.c) gU xb.b xb.A xb.n xb.c:=⟨_,rfl⟩;have HE3:=hid (Ou (by omega) (by omega) hneTU HEJ.out HT.out HU.out xa.b xb.b xa.A xb.A xa.n xb.n xa.c xb.c);rw [← hw5] at HE3;unfold setBd at hw5;have HEJ5:=hid HE3.out.1;have HTA:=hid HE3.out.2.1;have HUB:=hid HE3.out.2.2;clear HE3 HEJ HT HU z0 z1 z2 z3 z4 z5 z6 z7 z8 z9 z10 z11 z12 y0 y1 y2 y3 y4 y5 y6 y7 y8 y9 y10 y11 y12 t0 t1 t2 t3 t4 t5 t6 t7 t8 t9 t10 t11 t12 u0 u1 u2 u3 u4 u5 u6 u7 u8 u9 u10 u11 u12 yf uf
  try clear hH
  go_upto_region 5 with fail
  rw [← hw5];clear hw5;refine wp_region_noPanic ?_;refine au (S:=(S2 (fun w'=>Ej w bL oL L x w'∧aL w' gT xa.b xa.A xa.n xa.c∧aL w' gU xb.b xb.A xb.n xb.c))) (T:=(fun j=>[0,0,0,0,0,0,0,0,0,0,0,0,0,0,0,0,1,1].getD j 0)) (by kernel_rfl) (aC ⟨HEJ5.out.drew,HTA.out.drew,HUB.out.drew⟩) (fun hH=>?_);have hWr1:aH (S2 (fun w'=>Ej w bL oL L x w'∧aL w' gT xa.b xa.A xa.n xa.c∧aL w' gU xb.b xb.A xb.n xb.c)):=aK _;refine dn [(0,29),(1,30),(2,31),(3,32),(4,33),(5,34),(8,37),(9,38),(10,39),(11,40),(12,41),(13,42)] 7 0 0 (L':=?Lr1_1) hWr1 hH ?hyr1_1 ?_
  case hyr1_1=>((iterate 12 apply dA;rfl;kernel_rfl;intro w' hSw;replace hSw:=aA hSw;(try dsimp only at hSw);have q0:=hSw.1;have q1:=hSw.2.1;have q2:=hSw.2.2;obtain ⟨qa0_0,qa0_1,qa0_2,qa0_3,qa0_4,qa0_5,qa0_6⟩:=(q0).j;obtain ⟨b0_0,b0_1,b0_2,b0_3,b0_4,b0_5,b0_6,b0_7,b0_8,b0_9,b0_10,b0_11,b0_12⟩:=dD (q0).cl hka HXA.out;obtain ⟨c0_0,c0_1,c0_2,c0_3,c0_4,c0_5,c0_6,c0_7,c0_8,c0_9,c0_10,c0_11,c0_12⟩:=dD (q0).cl hkb HXB.out;obtain ⟨qa1_0,qa1_1,qa1_2,qa1_3,qa1_4,qa1_5,qa1_6,qa1_7,qa1_8,qa1_9,qa1_10,qa1_11,qa1_12,qa1_f⟩:=id q1;obtain ⟨qa2_0,qa2_1,qa2_2,qa2_3,qa2_4,qa2_5,qa2_6,qa2_7,qa2_8,qa2_9,qa2_10,qa2_11,qa2_12,qa2_f⟩:=id q2;(try simp only [sB,sC]);go_simp;(try with_reducible rfl));exact dw)
  simp only [sB,sC];refine U1 6 0 rfl (fun K hK=>?_)
  try clear hb
  go_simp
  (go_at_call 90;refine (rJ _ _ _ HAA.out.1 HAA.out.2 _).mono ?_;rintro e wn ⟨rfl,hb⟩)
  refine hK.out _ _ ?hsr1_13 (fun hH2=>?hrr1_13)
  case hsr1_13=>exact aC (by have hG:=hH;replace hG:=aA hG;(try dsimp only at hG);have q0:=hG.1;have q1:=hG.2.1;have q2:=hG.2.2;exact ⟨rP hb q0,aM hb q1,aM hb q2⟩)
  clear hK K hH;have hH:=hH2;clear hH2
  try simp only [Act.put,sA,sB,sC]
  refine U1 7 0 rfl (fun K hK=>?_)
  try clear hb
  go_simp
  (go_at_call 89;refine (jR _ _ _ _ _).mono ?_;rw [HWA1.out,HWA2.out];rintro e wn ⟨rfl,hb⟩)
  refine hK.out _ _ ?hsr1_14 (fun hH2=>?hrr1_14)
  case hsr1_14=>exact aC (by have hG:=hH;replace hG:=aA hG;(try dsimp only at hG);have q0:=hG.1;have q1:=hG.2.1;have q2:=hG.2.2;exact ⟨rP hb q0,aM hb q1,aM hb q2⟩)
  clear hK K hH;have hH:=hH2;clear hH2
  try simp only [Act.put,sA,sB,sC]
  refine U1 14 0 rfl (fun K hK=>?_)
  try clear hb
  go_simp
  (go_at_call 90;refine (rJ _ _ _ HAB.out.1 HAB.out.2 _).mono ?_;rintro e wn ⟨rfl,hb⟩)
  refine hK.out _ _ ?hsr1_15 (fun hH2=>?hrr1_15)
  case hsr1_15=>exact aC (by have hG:=hH;replace hG:=aA hG;(try dsimp only at hG);have q0:=hG.1;have q1:=hG.2.1;have q2:=hG.2.2;exact ⟨rP hb q0,aM hb q1,aM hb q2⟩)
  clear hK K hH;have hH:=hH2;clear hH2
  try simp only [Act.put,sA,sB,sC]
  refine U1 15 0 rfl (fun K hK=>?_)
  try clear hb
  go_simp
  (go_at_call 89;refine (jR _ _ _ _ _).mono ?_;rw [HWB1.out,HWB2.out];rintro e wn ⟨rfl,hb⟩)
  refine hK.out _ _ ?hsr1_16 (fun hH2=>?hrr1_16)
  case hsr1_16=>exact aC (by have hG:=hH;replace hG:=aA hG;(try dsimp only at hG);have q0:=hG.1;have q1:=hG.2.1;have q2:=hG.2.2;exact ⟨rP hb q0,aM hb q1,aM hb q2⟩)
  clear hK K hH;have hH:=hH2;clear hH2
  try simp only [Act.put,sA,sB,sC]
  refine U1 16 1 rfl (fun K hK=>?_)
  try clear hb
  have hG:=hH;replace hG:=aA hG;(try dsimp only at hG);have q0:=hG.1;have q1:=hG.2.1;have q2:=hG.2.2;have HB9:=hid q0.bel;obtain ⟨⟨v0,v1,y0,y1⟩,yf⟩:=q0.z1;obtain ⟨⟨v2,v3,y2,y3⟩,yf2⟩:=q0.z2;have hl9:=lt_of_cell y0;have hl8:=lt_of_cell y2;clear hG q0 q1 q2;go_simp;refine hK.out _ _ ?hsr1_17 (fun hH2=>?hrr1_17)
  case hsr1_17=>exact dY
  clear hK K hH;have hH:=hH2;clear hH2
  try simp only [Act.put,sA,sB,sC]
  refine U1 17 1 rfl (fun K hK=>?_);go_simp;refine hK.out _ _ ?hsr1_18 (fun hH2=>?hrr1_18)
  case hsr1_18=>exact dY
  clear hK K hH;have hH:=hH2;clear hH2
  try simp only [Act.put,sA,sB,sC]
  refine Ut 18 6 0 1 1 (v:=?vr1_19) rfl hWr1 hH ?hyr1_19 ?_
  case hyr1_19=>(intro w' hSw;clear hSw;go_simp;try (with_reducible rfl))
  simp only [sB,sC];refine ak (by kernel_rfl) ?_ _ _;refine NoPanic.normal ?_;go_wp2;refine bodyPost_ret (v:=.tuple #[aR e1 e2,aR e3 e4,.int .i64 0]) (by simp [results,Tryz.results54,go_sem,y0,y1,y2,y3,hl9,hl8]) rfl ⟨by rw [HEN.out],?_⟩;have hb9:=HB9.out
  go_grown

def rE (x y:Int):Int:=aO (fQ (aO x) (aO y))
end
end Go.Proofs.YtokgmcomgflloaaGreat
