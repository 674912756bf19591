/- Parts of a proof: contracts and laws. -/
import Derived.Test.YtokgmcomgflloaaGreatQX21
import Derived.Test.YtokgmcomgflloaaGreatQX27
import Derived.Test.YtokgmcomgflloaaGreatQX04
import Derived.Test.YtokgmcomgflloaaGreatQX43
import Derived.Test.YtokgmcomgflloaaGreatQX47
import Derived.Test.YtokgmcomgflloaaGreatQXLB
import Derived.Test.YtokgmcomgflloaaGreatQXLK
import Derived.Test.YtokgmcomgflloaaGreatQX08
import Derived.Test.YtokgmcomgflloaaGreatQX03
import Derived.BigQuiet
set_option maxRecDepth 100000
set_option maxHeartbeats 16000000
namespace Go.Proofs.YtokgmcomgflloaaGreat
section
set_option linter.unusedVariables false
set_option linter.unusedSimpArgs false
open Go.RowKit
variable {w0 w w':World}
theorem vw (A B:Option Addr) (m c m' c':Nat) (old F:List Ct) (w:World) (hO:dD dH w A m c old) (hF:dD dH w B m' c' F) (hl:F.length≤100000) (hF0:F=[]):Calls Tryz.prog 108 #[.slice A m c,.slice B m' c'] w (Am (uS old F) w):=by
 have HF0:Hid (F.length=0):=hid (by rw [hF0];rfl);clear hF0;have HCL:=hid (mE B m' c' F w hF hl);have HO:=hid hO;have hol:=hO.len;subst hol;have hbig:=hO.big;have hcap:=hO.cap;clear hO hF
 go_enter Tryz.func108,Tryz.ntmps108
 go_wp2_with fail
 refine HCL.out.mono ?_;rintro e w1 ⟨s,rfl,hs,hb1⟩;clear HCL;obtain ⟨gO,hgO⟩:∃ g,g=w1.heap.size:=⟨_,rfl⟩
 rcases hs.form with ⟨rfl,h0⟩ | ⟨gq,cap,rfl,hB,hg,hn,hm,hf,hcl⟩
 ·have HR : Hid (Am (uS old F) w (.returned (.slice none 0 0)) (w1.alloc (.cells #[.slice none 0 0] 31))) := by rw [h0]; exact ⟨_, _, _, rfl, dD.nil _ _, hb1.alloc hb1.size _⟩
  clear hs h0 hgO;go_wp2
  go_loopw [12] (fun i wr=>i = .int .i64 0∧wr=(w1.alloc (.cells #[.slice none 0 0] 31))) (fun _ _=>0)
  case atStart=>exact ⟨rfl,rfl⟩
  case round =>
   obtain ⟨rfl,rfl⟩:=hrel;go_wp2;refine bodyPost_ret (v:=.slice none 0 0) (by simp [results,Tryz.results108,go_sem]) rfl HR.out
 obtain ⟨n,hn'⟩:∃ n,n=F.length:=⟨_,rfl⟩;obtain ⟨W,hW⟩:∃ W,W=w1.alloc (.cells #[.slice (some ⟨gq,0,none⟩) n cap] 31):=⟨_,rfl⟩;have hBW:Below w1.heap.size w1 W:=by rw [hW];go_grown
 have HCY0:Hid (Cy w gO gq n cap F W):=⟨by rw [hW,hgO];go_simp,aH.below hBW hcl,fun j=>((bX hBW).2 _ _ hg).trans (hf j),ah hBW hb1,⟨hB,by rw [hgO];exact hg⟩,hn'.symm⟩;have hnc:n≤cap:=by rw [hn'];exact hn
 have hn0:n≤100000:=by rw [hn'];exact hl
 have hc0:=HCY0.out.co;rw [← hn'];clear hs hB hg hn hf hcl hBW hl;have HN:=hid hn';clear hn';go_wp2;rw [← hgO,← hW];clear hW hgO hc0
 go_loopw [12] (fun i wr=>∃ k:Nat,k≤n∧i = .int .i64 k∧Cy w gO gq n cap (uS old (F.take k) ++ F.drop k) wr) (fun i _=>n-(intOf i).toNat)
 case atStart=>exact ⟨0,Nat.zero_le _,rfl,by simpa [uS] using HCY0.out⟩
 case round =>
  clear HCY0;obtain ⟨k,hk,rfl,hcy⟩:=hrel;obtain ⟨wo,rfl⟩:∃ wo:World,wo=wr:=⟨_,rfl⟩;have HCY:=hid hcy;clear hcy
  by_cases hlt:k<n
  ·exact absurd hlt (by have:=HF0.out;have:=HN.out;omega)
  ·have hkn : k = n := by omega
   subst hkn
   have HR:Hid (Am (uS old F) w (.returned (.slice (some ⟨gq,0,none⟩) k cap)) wo):=by
    have e:uS old (F.take k) ++ F.drop k=uS old F:=by rw [HN.out,List.take_length,List.drop_length,List.append_nil]
    have h:=HCY.out;rw [e] at h;exact ⟨_,_,_,rfl,h.sl hnc hm,h.bel⟩
   have hc1:=HCY.out.co;clear HCY;go_wp2;refine bodyPost_ret (v:=.slice (some ⟨gq,0,none⟩) k cap) (by simp [results,Tryz.results108,go_sem]) rfl HR.out
structure Jm (w1 : World) (s : Value) (w : World) : Prop where
 own:aN dH 106 w w1.heap.size s []
 bel:Below w1.heap.size w1 w
theorem vM (A B:Option Addr) (n c m c':Nat) (L:List BE) (old:List Ct) (w:World) (hS:iE w A n c L) (hO:dD dH w B m c' old) (hE:aG L=0) (hN:xG L=[]) :
  Calls Tryz.prog 43 #[.slice A n c,.slice B m c'] w (fun e w'=>∃ A n c,e = .returned (.tuple #[.slice A n c,.int .i64 0])∧dD dH w' A n c []∧Below w.heap.size w w'):=by
 have hn:=hS.sl.len;subst hn;have HS:=hid hS;have HO:=hid hO;have hcap:=hS.sl.cap;have hbig:=hS.sl.big;have HKP:=hid (vF A L.length c L w hS);have HNL:=hid hN;clear hS hO hN
 go_enter Tryz.func43,Tryz.ntmps43
 go_wp2_with fail
 refine HKP.out.mono ?_;rintro e w1 ⟨A0,n0,c0,rfl,hs0,hb0⟩;clear HKP;have HEZ:=hid hE;have HB0:=hid hb0;have e0:wV L=xG L:=by unfold wV;rw [if_pos hE]
 rw [e0] at hs0;rw [hE];obtain ⟨P,hP⟩:∃ P,P=xG L:=⟨_,rfl⟩;rw [← hP] at hs0;have HP:Hid (P.length=0):=hid (by rw [hP,HNL.out];rfl);have hlen:P.length≤4096:=by have:=HP.out;omega
 have hn0:=hs0.len;subst hn0;have HS0:=hid hs0;have HF0:Hid (Jm w1 (.slice none 0 0) w1):=⟨aN.nil _ _ _ _,Below.refl _ _⟩;have hcap0:=hs0.cap;have hbig0:=hs0.big;clear hE hb0 e0 hP hs0;go_wp2
 go_loopw [8,23] (fun s j wr=>∃ t:Nat,t≤P.length∧j = .int .i64 t∧Jm w1 s wr) (fun _ j _=>P.length-(intOf j).toNat)
 case atStart=>exact ⟨0,Nat.zero_le _,rfl,HF0.out⟩
 case round =>
  clear HF0;obtain ⟨t,ht,rfl,hfw⟩:=hrel;obtain ⟨wo,rfl⟩:∃ wo:World,wo=wr:=⟨_,rfl⟩;obtain ⟨s,hs⟩:∃ s,s=u8:=⟨_,rfl⟩;rw [← hs] at hfw ⊢;clear hs
  by_cases hlt:t<P.length
  ·exact absurd hlt (by have:=HP.out;omega)
  ·have hte : t = P.length := by omega
   subst hte;obtain ⟨sA,sn,sc,hse,hsl,-⟩:=hfw.own.sl;have hB1:Below w.heap.size w wo:=HB0.out.trans (hfw.bel.mono HB0.out.size);have HCA:=hid (vw B sA m c' sn sc old [] wo (HO.out.below hB1) hsl (by simp) rfl);have HB1:=hid hB1;subst hse;clear hfw hsl hB1
   go_wp2_with fail
   refine HCA.out.mono ?_;rintro e w2 ⟨A2,n2,c2,rfl,hs2,hb2⟩;rw [show uS old []=[] by unfold uS;simp] at hs2;have HR:Hid (dD dH w2 A2 n2 c2 []∧Below w.heap.size w w2):=⟨hs2,ah hb2 HB1.out⟩;clear HCA hs2 hb2;go_wp2;refine bodyPost_ret (v:=.tuple #[.slice A2 n2 c2,.int .i64 0]) (by simp [results,Tryz.results43,go_sem]) rfl ⟨A2,n2,c2,rfl,HR.out.1,HR.out.2⟩
theorem iY {x:BE} (h:aJ x.b x.l=0):aG [x]=0:=wZ (by simp) (fun y hy=>by rw [List.mem_singleton.1 hy];exact h)
theorem CK {x:BE} {gx gy st:Int} (h:aJ x.b x.l=0) (hg:¬ dY gx gy st):bH [x] [] [] gx gy st=0:=by
 have hb:=iY h;have hc:aD [x] []=0:=by unfold aD;rw [if_neg (by simp [hb]),if_neg (by simp)];rfl
 have hj:aQ [x] []=0:=by unfold aQ;rw [if_neg (by simp [hb]),if_neg (by simp)];rfl
 unfold bH;rw [if_neg (by simp [hc]),if_neg (by simp [hj]),if_neg (by decide),if_neg hg]
theorem uE (b:Bx):ig [b]=[]:=List.eq_nil_iff_forall_not_mem.2 fun p hp=>by
 have:=lT.1 hp;simp at this;omega
theorem qp {L:List BE} {y:Bd} {l:List V} (h:L.map bK=[(y,l)]):∃ z:BE,L=[z]∧z.b=y∧z.l=l:=by
 match L,h with
 | [z],h =>
  simp only [List.map_cons,List.map_nil,List.cons.injEq,and_true] at h;exact ⟨z,rfl,congrArg Prod.fst h,congrArg Prod.snd h⟩
 | [],h=>cases h
 | a :: b :: r,h=>cases h
theorem EB {x:BE} {f:Nat→Nat} (h:x.b.asleep=false):jT [x] f=[x]:=by
 unfold jT FK;simp [h]
theorem uY {w : World} {A Aj Ac : Option Addr} {c nj cj nc cc : Nat} (x : BE) (gx gy st : Int) (y : Bd) (hS : iE w A 1 c [x]) (hJ : dD gV w Aj nj cj []) (hC : dD dH w Ac nc cc [])
  (hE:aJ x.b x.l=0) (hg:¬ dY gx gy st) (ha:x.b.asleep=false) (hy:(jw gx gy st x).b=y) (hyE:aJ y x.l=0) (hyc:0≤y.calm∧y.calm≤1000) (hym:0≤y.mass) :
  Calls Tryz.prog 13 #[.agg #[.slice A 1 c,.slice Aj nj cj,.slice Ac nc cc,.int .i64 gx,.int .i64 gy,.int .i64 st]] w (qA [(moveB y x.l (bn st 65536),x.l)] id [] [] gx gy st w):=by
 have hst:1≤st∧st≤65536:=by unfold dY at hg;omega
 have hx3:x.l≠[]:=fun e=>by rw [e] at hE;exact absurd (bU hE).1 (by decide)
 have hx8:x.l.length≤8:=(dX (iL (bU hE).1)).1
 have hfv:((jT [x] id).map (jw gx gy st)).map bK=[(y,x.l)]:=by
  rw [EB ha];show [bK (jw gx gy st x)]=_;unfold bK;rw [hy,(zU gx gy st x).2]
 have hm := xW hS hJ hC gx gy st (CK hE hg) (by omega) [] [] id rfl [(y, x.l)] [(y, x.l)] [65536] (fun z hz => by cases hz)
  (fun w' h1 h2 h3=>sU h1 h2 h3 gx gy st rfl rfl)
  (fun w' A' c' Ak nk ck h1 h2 h3=>pV h1 h2 h3 (fun z hz=>by cases hz) (fun z hz=>by cases hz) (by omega) rfl rfl)
  (fun w' h1 h2=>vM A Ac 1 c nc cc [x] [] w' h1 h2 (iY hE) (by unfold xG;rw [show ([x]:List BE).map bxB=[bxB x] from rfl,uE];rfl))
  (fun w' A' n' c' L1 hs hm hj=>by
   rw [hfv] at hm;have h:=yc A' Aj n' c' nj cj L1 [] st 8 w' hs hj rfl;obtain ⟨z,rfl,hz1,hz2⟩:=qp hm
   have he:sN [z] [] st 8=0:=by
    have hj:aQ [z] []=0:=by unfold aQ;rw [iY (by rw [hz1,hz2];exact hyE)];rfl
    unfold sN;rw [if_neg (by simp [hj]),if_neg (by omega)]
   have hq:Ae [z] [] st 8=[(y,x.l)]:=by unfold Ae;rw [if_pos he,hm];rfl
   rwa [he,hq] at h)
  (fun w' A' n' c' L2 B m d hs hm hk=>by
   have h:=xw A' B n' c' m d L2 [] st 8 w' hs hk rfl;obtain ⟨z,rfl,hz1,hz2⟩:=qp hm
   have he:mg [z] [] st 8=0:=by
    have hc:aD [z] []=0:=by unfold aD;rw [iY (by rw [hz1,hz2];exact hyE)];rfl
    unfold mg;rw [if_neg (by simp [hc]),if_neg (by omega)]
   have hq:oZ [z] [] st 8=([(y,x.l)],[]):=by unfold oZ;rw [if_pos he,hm];exact qW _ _ _
   rwa [he,hq] at h)
  (fun w' A' n' c' L3 hs hm=>by
   obtain ⟨z,rfl,hz1,hz2⟩:=qp hm;have hn:n'=1:=hs.sl.len;subst hn
   have h := uW A' 1 c' [z] st w' hs (by omega) (fun q hq bx off e => by rw [List.mem_singleton.1 hq] at e; exact lX (hs.co z (List.mem_singleton.2 rfl)) (by rw [hz2]; exact hx3) bx off e) (fun q hq => by rw [List.mem_singleton.1 hq, hz2]; omega)
    (fun p hp=>by rw [show (([z]:List BE).map bK).map (swB st)=[swB st (bK z)] from rfl,uE] at hp;cases hp)
   refine h.mono ?_;rintro e w2 ⟨gs,rfl,h1,-,h2,-,h3⟩;refine ⟨gs,rfl,h1,fun j hj=>?_,h3⟩;have hj0:j=0:=by simpa using hj
   subst hj0
   exact h2 0 (by omega))
  rfl rfl (fun q hq=>by rw [List.mem_singleton.1 hq];exact ⟨hx3,by show x.l.length≤1000;omega,hym,hyc⟩)
 exact hm
def IK:Bd:=⟨0,327680,0,-10240,0,0,65536,65536,0,0,false,0⟩
def stM:Bd:=⟨0,327520,0,-10240,0,0,65536,65536,0,0,false,0⟩
theorem I6 (A:Option Addr) (n c:Nat) (l:List V):(jw 0 (-655360) 1024 ⟨kL 0 5 65536,A,n,c,l⟩).b=IK:=by kernel_rfl
theorem Iz:aJ (kL 0 5 65536) (Iw 0 0 1)=0∧aJ IK (Iw 0 0 1)=0:=⟨by kernel_rfl,by kernel_rfl⟩
theorem I4:moveB IK (Iw 0 0 1) (bn 1024 65536)=stM:=by kernel_rfl
theorem Je (A:Option Addr) (n c:Nat) (l:List V):(gG [⟨stM,A,n,c,l⟩] id).map (fun z=>(z.b.py,z.b.vy))=[(327520,-10240)]:=by kernel_rfl
theorem I5:¬ dY 0 (-655360) 1024:=by decide

theorem EK {A:Option Addr} {n c:Nat} {L':List BE} {l:List V} (hS:iE w A n c (gG L' id)) (hm:L'.map bK=[(stM,l)]):n=1∧∃ b off,A=some ⟨b,off,none⟩∧w.cell? ⟨b,off+1,none⟩=some (.int .i64 327520)∧w.cell? ⟨b,off+3,none⟩=some (.int .i64 (-10240)):=by
 obtain ⟨⟨zb,zA,zn,zc,zl⟩,rfl,h1,h2⟩:=qp hm;dsimp only at h1 h2;subst h1;have hr:=Je zA zn zc zl;have hl:(gG [(⟨stM,zA,zn,zc,zl⟩:BE)] id).length=1:=by have:=congrArg List.length hr;simpa using this
 obtain ⟨b,off,e,hc⟩:=hS.sl.at_ (by intro h;rw [h] at hl;cases hl);have h0:0<(gG [(⟨stM,zA,zn,zc,zl⟩:BE)] id).length:=by omega
 obtain ⟨-,c1,-,c3,-⟩:=dB hc h0 rfl
 have hz:((gG [(⟨stM,zA,zn,zc,zl⟩:BE)] id)[0].b.py,(gG [(⟨stM,zA,zn,zc,zl⟩:BE)] id)[0].b.vy)=((327520:Int),(-10240:Int)):=by
  have h9:((gG [(⟨stM,zA,zn,zc,zl⟩:BE)] id).map (fun z=>(z.b.py,z.b.vy)))[0]? = some (327520,-10240):=by rw [hr];rfl
  rw [List.getElem?_map,List.getElem?_eq_getElem h0] at h9;exact Option.some.inj h9
 have z1:(gG [(⟨stM,zA,zn,zc,zl⟩:BE)] id)[0].b.py=327520:=congrArg Prod.fst hz;have z2:(gG [(⟨stM,zA,zn,zc,zl⟩:BE)] id)[0].b.vy = -10240:=congrArg Prod.snd hz;rw [z1] at c1;rw [z2] at c3;refine ⟨by have:=hS.sl.len;omega,b,off,e,?_,?_⟩
 ·simpa using c1
 ·simpa using c3
theorem qg (w:World):Calls Tryz.prog 22 #[] w (dw (.bool true) w):=by
 have HB1:=hid (nX 0 5 (by omega) (by omega));rw [show IL (-1) (-1) 2=Iw 0 0 1 from by decide] at HB1;obtain ⟨q,hq⟩:∃ q,q=Iw 0 0 1:=⟨_,rfl⟩
 have HST:Hid (∀ (w':World) (g:Nat) (A:Option Addr) (n c:Nat),bC w' g (kL 0 5 65536) A n c→Sl w' A n c q→Calls Tryz.prog 13 #[.agg #[.slice (some ⟨g,0,none⟩) 1 1,.slice none 0 0,.slice none 0 0,.int .i64 0,.int .i64 (-655360),.int .i64 1024]] w' (qA [(stM,q)] id [] [] 0 (-655360) 1024 w')):=hid (fun w' g A n c hb hs=>by
  have h:=uY ⟨kL 0 5 65536,A,n,c,q⟩ 0 (-655360) 1024 IK (iE.one (x:=⟨kL 0 5 65536,A,n,c,q⟩) hb hs) (dD.nil gV w') (dD.nil dH w') (by rw [hq];exact Iz.1) I5 rfl (I6 A n c q) (by rw [hq];exact Iz.2) (by decide) (by decide);rw [hq] at h ⊢
  rwa [I4] at h)
 rw [← hq] at HB1;clear hq
 go_enter Tryz.func22,Tryz.ntmps22
 go_wp2_with fail
 refine (HB1.out _).mono ?_;rintro e w1 ⟨A1,n1,c1,rfl,hs1,hf1,hb1⟩;have HST2:=hid (HST.out (w1.alloc (.cells #[.int .i64 (kL 0 5 65536).px,.int .i64 (kL 0 5 65536).py,.int .i64 (kL 0 5 65536).vx,.int .i64 (kL 0 5 65536).vy,.int .i64 (kL 0 5 65536).ang,.int .i64 (kL 0 5 65536).spin,.int .i64 (kL 0 5 65536).mass,.int .i64 (kL 0 5 65536).iner,.int .i64 (kL 0 5 65536).bounce,.int .i64 (kL 0 5 65536).rub,.slice A1 n1 c1,.bool (kL 0 5 65536).asleep,.int .i64 (kL 0 5 65536).calm] 27)) w1.heap.size A1 n1 c1 (bC.here w1 (kL 0 5 65536) A1 n1 c1 _) (hs1.below Ba));have HB:=hid (ah ((Below.refl _ _).alloc (Nat.le_refl _) (.cells #[.int .i64 (kL 0 5 65536).px,.int .i64 (kL 0 5 65536).py,.int .i64 (kL 0 5 65536).vx,.int .i64 (kL 0 5 65536).vy,.int .i64 (kL 0 5 65536).ang,.int .i64 (kL 0 5 65536).spin,.int .i64 (kL 0 5 65536).mass,.int .i64 (kL 0 5 65536).iner,.int .i64 (kL 0 5 65536).bounce,.int .i64 (kL 0 5 65536).rub,.slice A1 n1 c1,.bool (kL 0 5 65536).asleep,.int .i64 (kL 0 5 65536).calm] 27)) hb1);clear hs1 hf1 hb1 HB1 HST
 go_wp2_with fail
 refine HST2.out.mono ?_;rintro e w2 ⟨A2,n2,c2,Aj,nj,cj,Ac,nc,cc,L',rfl,hs2,hj2,hc2,hm2,hb2⟩;obtain ⟨rfl,b,off,rfl,k1,k3⟩:=EK hs2 hm2;have HBR:=hid (ah hb2 HB.out);have lb:=lt_of_cell k3;clear hs2 hj2 hc2 hm2 hb2 HB HST2;go_wp2
 go_returns
 exact aY (by simp) (by have h9:=HBR.out;have h8:=h9.size;go_grown)
theorem vJ (A B:Option Addr) (n c m c':Nat) (l r:List Int) (w:World) (hS:Ee w A n c l) (hR:Ee w B m c' r) :
  Calls Tryz.prog 25 #[.slice A n c,.slice B m c'] w (dw (.bool (decide (l=r))) w):=by
 have hn:=hS.len;have hm:=hR.len;subst hn hm;have h1:=hS.cap;have h2:=hS.big;have h3:=hR.cap;have h4:=hR.big
 by_cases hl:l.length=r.length
 ·have HS := hid hS;have HR:=hid hR;clear hS hR
  go_enter Tryz.func25,Tryz.ntmps25
  go_wp2
  go_loopw [13] (fun i wr=>∃ k:Nat,k≤l.length∧i = .int .i64 k∧(∀ j,j<k→l[j]? = r[j]?)∧Below w.heap.size w wr) (fun i _=>l.length-(intOf i).toNat)
  case atStart=>exact ⟨0,Nat.zero_le _,rfl,fun j hj=>absurd hj (by omega),Below.refl _ _⟩
  case round =>
   obtain ⟨k,hk,rfl,heq,hB⟩:=hrel;have HQ:=hid heq;clear heq
   by_cases hlt:k<l.length
   ·obtain ⟨b, off, rfl, hlb, hC⟩ := (HS.out.below hB).at_ (by intro h; subst h; simp at hlt);obtain ⟨b2,off2,rfl,hlb2,hD⟩:=(HR.out.below hB).at_ (by intro h;rw [h] at hl;simp at hl;rw [hl] at hlt;simp at hlt);have hlt4:k<r.length:=by omega
    have hx:=hC k hlt;have hx2:=hD k hlt4;have hlt2:(k:Int)<(r.length:Int):=by omega
    have hlt3:(k:Int)<(l.length:Int):=by omega
    have e1:l.getD k 0=l[k]:=by simp [hlt]
    have e2:r.getD k 0=r[k]:=by simp [hlt4]
    rw [e1] at hx;rw [e2] at hx2;clear e1 e2;have HL:=hid (show l[k]? = some l[k] from List.getElem?_eq_getElem hlt);have HR2:=hid (show r[k]? = some r[k] from List.getElem?_eq_getElem hlt4);clear hC hD;generalize l[k]=u at *
    generalize r[k]=v at *
    by_cases v1:u=v
    ·subst v1;have HE:=hid (show l[k]? = r[k]? by rw [HL.out,HR2.out])
     go_wp2_with fail
     go_quiet (fail)
     have hB2:=below_drewN' hB nq;go_wp2
     exact ⟨⟨k+1,hlt,by go_num,fun j hj=>by
      by_cases e:j=k
      ·subst e;exact HE.out
      ·exact HQ.out j (by omega),hB2⟩,by simp [intOf];omega⟩
    ·have hne : Hid (l ≠ r) := fun h => v1 (by have h2 := HR2.out; rw [← h, HL.out] at h2; exact Option.some.inj h2)
     have v3:(u == v)=false:=by simp [v1]
     go_wp2_with fail
     go_quiet (fail)
     have hB2:=below_drewN' hB nq;go_wp2
     go_returns
     exact aY (by simp [hne.out]) hB2
   ·have he:Hid (l=r):=List.ext_getElem? fun j=>by
     rcases Nat.lt_or_ge j l.length with g | g
     ·exact HQ.out j (by omega)
     ·rw [List.getElem?_eq_none g,List.getElem?_eq_none (by omega)]
    go_wp2
    go_returns
    exact aY (by simp [he.out]) hB
 ·have hne : Hid (l ≠ r) := fun h => hl (by rw [h])
  have hlb:((l.length:Int) == (r.length:Int))=false:=by simp;omega
  clear hS hR
  go_enter Tryz.func25,Tryz.ntmps25
  go_wp2
  go_returns
  exact aY (by simp [hne.out]) (Below.refl _ _)
end
end Go.Proofs.YtokgmcomgflloaaGreat
