/- Parts of a proof: contracts and laws. -/
import Derived.Test.YtokgmcomgflloaaGreatQA44
import Derived.Test.YtokgmcomgflloaaGreatQA45
import Derived.Test.YtokgmcomgflloaaGreatQA46
import Derived.Test.YtokgmcomgflloaaGreatQA47
import Derived.Test.YtokgmcomgflloaaGreatQA16
import Derived.Test.YtokgmcomgflloaaGreatQA22
import Derived.Test.YtokgmcomgflloaaGreatQA34
import Derived.Test.YtokgmcomgflloaaGreatQA02
import Derived.Test.YtokgmcomgflloaaGreatQA39
import Derived.Test.YtokgmcomgflloaaGreatQA23
import Derived.Test.YtokgmcomgflloaaGreatQA20
import Derived.Test.YtokgmcomgflloaaGreatQALB
import Derived.Test.YtokgmcomgflloaaGreatQA12
import Derived.Test.YtokgmcomgflloaaGreatQA06
set_option maxRecDepth 100000
set_option maxHeartbeats 16000000
namespace Go.Proofs.YtokgmcomgflloaaGreat
section
set_option linter.unusedVariables false
set_option linter.unusedSimpArgs false
open Go.RowKit
variable {w0 w w':World}
theorem uj {L M:List BE} (h:L.map aF=M.map aF) (k:Nat):L.length=M.length∧(L[k]?).map aF=(M[k]?).map aF :=
 ⟨by simpa using congrArg List.length h,by rw [← List.getElem?_map,h,List.getElem?_map]⟩
theorem qN {L M:List BE} (h:L.map aF=M.map aF):aZ L=aZ M:=by
 have e:∀ k,dM L k=dM M k:=fun k=>by
  induction k with
  | zero=>rfl
  | succ k ih =>
   have hk:=(uj h k).2;show (if dM L k≠0 then dM L k else match L[k]? with | some x=>aT x.b x.l | none=>0)=(if dM M k≠0 then dM M k else match M[k]? with | some x=>aT x.b x.l | none=>0);rw [ih]
   rcases hL:L[k]? with _ | x <;> rcases hM:M[k]? with _ | y <;> rw [hL,hM] at hk <;> simp [aF] at hk
   show (if _ then _ else aT x.b x.l)=(if _ then _ else aT y.b y.l);rw [hk.1,hk.2]
 unfold aZ;rw [(uj h 0).1,e]
theorem zw {L M:List BE} (h:L.map aF=M.map aF) (J:List Jt):bS L J=bS M J:=by
 have hm:kD L=kD M:=by
  funext i
  have hk:=(uj h i.toNat).2;unfold kD
  rcases hL:L[i.toNat]? with _ | x <;> rcases hM:M[i.toNat]? with _ | y <;> rw [hL,hM] at hk <;> simp [aF] at hk
  show x.b.mass=y.b.mass;rw [hk.1]
 have hj:Cc L=Cc M:=by
  funext x
  unfold Cc;rw [hm,(uj h 0).1]
 unfold bS uq;rw [qN h,hj]
theorem vQ {L M:List BE} (h:L.map aF=M.map aF) (C:List Ct):bg L C=bg M C:=by
 unfold bg;rw [qN h,(uj h 0).1]

def LZ (Q:List QB) (w:World) (e:Ending) (w':World):Prop :=
 ∃ A n c Aj nj cj Ac nc cc gx gy st L',e = .returned (.tuple #[.agg #[.slice A n c,.slice Aj nj cj,.slice Ac nc cc,.int .i64 gx,.int .i64 gy,.int .i64 st],.int .i64 0])∧iH w' A n c L'∧L'.map aF=Q∧Below w.heap.size w w'
theorem sS {A Aj:Option Addr} {n c nj cj:Nat} {L:List BE} {Jl:List Jt} (hS:iH w A n c L) (hJ:dW gZ w Aj nj cj Jl) (gx gy st:Int) (hE:fJ L Jl [] gx gy st=0) (hsl:∀ x ∈ L,Bj (aF x)) (hK:bg L (iB L [])=0) :
  Calls Tryz.prog 13 #[.agg #[.slice A n c,.slice Aj nj cj,.slice none 0 0,.int .i64 gx,.int .i64 gy,.int .i64 st]] w (LZ (L.map aF) w):=by
 obtain ⟨hce,hje,-,hgr⟩:=nR hE;obtain ⟨hbe,-,-⟩:=fV hce;obtain ⟨h64,hval⟩:=eY hbe;have hst:1≤st∧st≤65536:=by unfold jJ at hgr;omega
 have hn:=hS.sl.len;obtain ⟨-,hk96,hkok⟩:=fV hK;have hjr:∀ x ∈ Jl,0≤x.a∧x.a<(n:Int)∧0≤x.b∧x.b<(n:Int):=fun x hx=>by have:=(nC ((iK hje).2.2 x hx)).1;rw [hn];omega
 have hcr:∀ x ∈ iB L [],0≤x.a∧x.a<(n:Int)∧0≤x.b∧x.b<(n:Int):=fun x hx=>by have:=(hkok x hx).1;rw [hn];omega
 have hstb:∀ x ∈ L,stB x.b:=fun x hx=>(hsl x hx).2
 have hQs:∀ q ∈ L.map aF,Bj q:=fun q hq=>by obtain ⟨x,hx,rfl⟩:=List.mem_map.1 hq;exact hsl x hx
 have hstQ:Gh (L.map aF):=fun q hq=>(hQs q hq).2
 have hmv:∀ {M:List BE},M.map aF=L.map aF→∀ x ∈ M,Bj (aF x):=fun {M} hm x hx=>hQs _ (by rw [← hm];exact List.mem_map_of_mem hx)
 have hCK:∀ w',iH w' A n c L→dW gZ w' Aj nj cj Jl→dW bZ w' none 0 0 []→Calls Tryz.prog 17 #[.agg #[.slice A n c,.slice Aj nj cj,.slice none 0 0,.int .i64 gx,.int .i64 gy,.int .i64 st]] w' (dG (.int .i64 (fJ L Jl [] gx gy st)) w') :=
  fun w' h1 h2 h3=>kW h1 h2 h3 gx gy st
 have hIS:∀ w' A' c' Ak nk ck,iH w' A' n c' L→dW gZ w' Aj nj cj Jl→dW bZ w' Ak nk ck (iB L [])→Calls Tryz.prog 45 #[.slice A' n c',.slice Aj nj cj,.slice Ak nk ck] w' (fun e w''=>∃ gs,e = .returned (.slice (some ⟨gs,0,none⟩) n n)∧w'.heap.size≤gs∧aJ fq w'' gs 0 ((List.range n).map (qF (GN L) (pz Jl ++ tC (iB L []))))∧(∀ j,w''.frozen? ⟨gs,j,none⟩=false)∧Below w'.heap.size w' w'') :=
  fun w' A' c' Ak nk ck h1 h2 h3=>pI h1 h2 h3 hjr hcr (by omega)
 have hF:∀ w',iH w' A n c L→dW bZ w' none 0 0 []→Calls Tryz.prog 43 #[.slice A n c,.slice none 0 0] w' (fun e w''=>∃ A n c,e = .returned (.tuple #[.slice A n c,.int .i64 0])∧dW bZ w'' A n c (iB L [])∧Below w'.heap.size w' w'') :=
  fun w' h1 h2=>by have h:=DI A none n c 0 0 L [] w' h1 h2;unfold GZ at h;rwa [hbe] at h
 have hJR:∀ w' A' n' c' L1,iH w' A' n' c' L1→L1.map aF=((jQ L (qF (GN L) (pz Jl ++ tC (iB L [])))).map (jr gx gy st)).map aF→dW gZ w' Aj nj cj Jl→Calls Tryz.prog 48 #[.slice A' n' c',.slice Aj nj cj,.int .i64 st,.int .i64 8] w' (wW 0 (L.map aF) w'):=fun w' A' n' c' L1 hs hm hj=>by
  rw [KG hstb,Kz hstb] at hm;have h:=vD A' Aj n' c' nj cj L1 Jl st 8 w' hs hj (fun x _ y hy=>(hmv hm y hy).2);have he:vW L1 Jl st 8=0:=by unfold vW;rw [if_neg (by rw [zw hm];simp [hje]),if_neg (by omega)]
  have hq:BS L1 Jl st 8=L.map aF:=by unfold BS;rw [if_pos he,hm,rM hstQ]
  rwa [he,hq] at h
 have hSR:∀ w' A' n' c' L2 B m d,iH w' A' n' c' L2→L2.map aF=L.map aF→dW bZ w' B m d (iB L [])→Calls Tryz.prog 49 #[.slice A' n' c',.slice B m d,.int .i64 st,.int .i64 8] w' (nH 0 (L.map aF,iB L []) w'):=fun w' A' n' c' L2 B m d hs hm hk=>by
  have h:=vE A' B n' c' m d L2 (iB L []) st 8 w' hs hk (fun x _ y hy=>(hmv hm y hy).2);have he:oZ L2 (iB L []) st 8=0:=by unfold oZ;rw [if_neg (by rw [vQ hm];simp [hK]),if_neg (by omega)]
  have hq:qc L2 (iB L []) st 8=(L.map aF,iB L []):=by unfold qc;rw [if_pos he,hm,Jv hstQ]
  rwa [he,hq] at h
 have hPT:∀ w' A' n' c' L3,iH w' A' n' c' L3→L3.map aF=L.map aF→Calls Tryz.prog 50 #[.slice A' n' c',.int .i64 st] w' (fun e w''=>∃ gs,e = .returned (.slice (some ⟨gs,0,none⟩) n n)∧w'.heap.size≤gs∧(∀ j (h:j<(List.replicate n (65536:Int)).length),w''.cell? ⟨gs,j,none⟩=some (.int .i64 (List.replicate n (65536:Int))[j]))∧Below w'.heap.size w' w''):=fun w' A' n' c' L3 hs hm=>by
  have hn':n'=n:=by rw [hs.sl.len,(uj hm 0).1,hn]
  subst hn';have hv3:∀ y ∈ L3,aT y.b y.l=0:=fun y hy=>(hmv hm y hy).1
  have h := tu A' n' c' L3 st w' hs (by omega) (fun y hy bx off e => kI (hs.co y hy) (fun e => by have := hv3 y hy; rw [e] at this; exact absurd (bJ this).1 (by decide)) bx off e) (fun y hy => by have := (bI (gY (bJ (hv3 y hy)).1)).1; omega)
   (fun p hp=>by rw [hm];exact ⟨G9 hQs st _,G9 hQs st _⟩)
  refine h.mono ?_;rintro e w2 ⟨gs,rfl,h1,-,h2,-,h3⟩;refine ⟨gs,rfl,h1,fun j hj=>?_,h3⟩;rw [List.getElem_replicate];exact h2 j (by simpa using hj)
 have hQ:∀ q ∈ L.map aF,q.2≠[]∧q.2.length≤1000∧0≤q.1.mass∧0≤q.1.calm∧q.1.calm≤1000:=fun q hq=>by
  have hv:=(hQs q hq).1;obtain ⟨hs,hnm⟩:=bJ hv;have hz:=ji hnm;have hr:=(zQ hnm).2;refine ⟨fun e=>by rw [e] at hs;exact absurd hs (by decide),by have:=(bI (gY hs)).1;omega,?_,?_,?_⟩ <;> omega
 have hfin:Calls Tryz.prog 13 #[.agg #[.slice A n c,.slice Aj nj cj,.slice none 0 0,.int .i64 gx,.int .i64 gy,.int .i64 st]] w (oI (zy st (L.map aF) (List.replicate n 65536)) (qF (GN L) (pz Jl ++ tC (iB L []))) Jl (iB L []) gx gy st w):=by
  rcases Nat.eq_zero_or_pos n with h0 | h0
  ·exact Bo hS hJ (dW.nil bZ w) gx gy st hE h0 (iB L []) (iB L []) _ rfl (L.map aF) (L.map aF) (List.replicate n 65536) hcr hCK hIS hF hJR hSR hPT (by simp) (by simp [hn]) hQ
  ·exact uZ hS hJ (dW.nil bZ w) gx gy st hE h0 (iB L []) (iB L []) _ rfl (L.map aF) (L.map aF) (List.replicate n 65536) hcr hCK hIS hF hJR hSR hPT (by simp) (by simp [hn]) hQ
 rw [N8 hQs st (by simp [hn])] at hfin;refine hfin.mono ?_;rintro e w2 ⟨A2,n2,c2,Aj2,nj2,cj2,Ac2,nc2,cc2,L',rfl,h1,-,-,h2,h3⟩;rw [Lc (hmv h2)] at h1;exact ⟨A2,n2,c2,Aj2,nj2,cj2,Ac2,nc2,cc2,gx,gy,st,L',rfl,h1,h2,h3⟩
theorem AJ (A B:Option Addr) (m c m' c':Nat) (old F:List Ct) (w:World) (hO:dW bZ w A m c old) (hF:dW bZ w B m' c' F) (hl:F.length≤100000) (hF0:F=[]):Calls Tryz.prog 108 #[.slice A m c,.slice B m' c'] w (tV (iR old F) w):=by
 have HF0:Hid (F.length=0):=hid (by rw [hF0];rfl);clear hF0;have HCL:=hid (mQ B m' c' F w hF hl);have HO:=hid hO;have hol:=hO.len;subst hol;have hbig:=hO.big;have hcap:=hO.cap;clear hO hF
 go_enter Tryz.func108,Tryz.ntmps108
 go_wp2_with fail
 refine HCL.out.mono ?_;rintro e w1 ⟨s,rfl,hs,hb1⟩;clear HCL;obtain ⟨gO,hgO⟩:∃ g,g=w1.heap.size:=⟨_,rfl⟩
 rcases hs.form with ⟨rfl,h0⟩ | ⟨gq,cap,rfl,hB,hg,hn,hm,hf,hcl⟩
 ·have HR : Hid (tV (iR old F) w (.returned (.slice none 0 0)) (w1.alloc (.cells #[.slice none 0 0] 31))) := by rw [h0]; exact ⟨_, _, _, rfl, dW.nil _ _, hb1.alloc hb1.size _⟩
  clear hs h0 hgO;go_wp2
  go_loopw [12] (fun i wr=>i = .int .i64 0∧wr=(w1.alloc (.cells #[.slice none 0 0] 31))) (fun _ _=>0)
  case atStart=>exact ⟨rfl,rfl⟩
  case round =>
   obtain ⟨rfl,rfl⟩:=hrel;go_wp2;refine bodyPost_ret (v:=.slice none 0 0) (by simp [results,Tryz.results108,go_sem]) rfl HR.out
 obtain ⟨n,hn'⟩:∃ n,n=F.length:=⟨_,rfl⟩;obtain ⟨W,hW⟩:∃ W,W=w1.alloc (.cells #[.slice (some ⟨gq,0,none⟩) n cap] 31):=⟨_,rfl⟩;have hBW:Below w1.heap.size w1 W:=by rw [hW];go_grown
 have HCY0:Hid (Cy w gO gq n cap F W):=⟨by rw [hW,hgO];go_simp,aJ.below hBW hcl,fun j=>((dF hBW).2 _ _ hg).trans (hf j),aj hBW hb1,⟨hB,by rw [hgO];exact hg⟩,hn'.symm⟩;have hnc:n≤cap:=by rw [hn'];exact hn
 have hn0:n≤100000:=by rw [hn'];exact hl
 have hc0:=HCY0.out.co;rw [← hn'];clear hs hB hg hn hf hcl hBW hl;have HN:=hid hn';clear hn';go_wp2;rw [← hgO,← hW];clear hW hgO hc0
 go_loopw [12] (fun i wr=>∃ k:Nat,k≤n∧i = .int .i64 k∧Cy w gO gq n cap (iR old (F.take k) ++ F.drop k) wr) (fun i _=>n-(intOf i).toNat)
 case atStart=>exact ⟨0,Nat.zero_le _,rfl,by simpa [iR] using HCY0.out⟩
 case round =>
  clear HCY0;obtain ⟨k,hk,rfl,hcy⟩:=hrel;obtain ⟨wo,rfl⟩:∃ wo:World,wo=wr:=⟨_,rfl⟩;have HCY:=hid hcy;clear hcy
  by_cases hlt:k<n
  ·exact absurd hlt (by have:=HF0.out;have:=HN.out;omega)
  ·have hkn : k = n := by omega
   subst hkn
   have HR:Hid (tV (iR old F) w (.returned (.slice (some ⟨gq,0,none⟩) k cap)) wo):=by
    have e:iR old (F.take k) ++ F.drop k=iR old F:=by rw [HN.out,List.take_length,List.drop_length,List.append_nil]
    have h:=HCY.out;rw [e] at h;exact ⟨_,_,_,rfl,h.sl hnc hm,h.bel⟩
   have hc1:=HCY.out.co;clear HCY;go_wp2;refine bodyPost_ret (v:=.slice (some ⟨gq,0,none⟩) k cap) (by simp [results,Tryz.results108,go_sem]) rfl HR.out
structure Qb (w1 : World) (s : Value) (w : World) : Prop where
 own:aU bZ 106 w w1.heap.size s []
 bel:Below w1.heap.size w1 w
theorem AY (A B:Option Addr) (n c m c':Nat) (L:List BE) (old:List Ct) (w:World) (hS:iH w A n c L) (hO:dW bZ w B m c' old) (hE:aZ L=0) (hN:iW L=[]) :
  Calls Tryz.prog 43 #[.slice A n c,.slice B m c'] w (fun e w'=>∃ A n c,e = .returned (.tuple #[.slice A n c,.int .i64 0])∧dW bZ w' A n c []∧Below w.heap.size w w'):=by
 have hn:=hS.sl.len;subst hn;have HS:=hid hS;have HO:=hid hO;have hcap:=hS.sl.cap;have hbig:=hS.sl.big;have HKP:=hid (rY A L.length c L w hS);have HNL:=hid hN;clear hS hO hN
 go_enter Tryz.func43,Tryz.ntmps43
 go_wp2_with fail
 refine HKP.out.mono ?_;rintro e w1 ⟨A0,n0,c0,rfl,hs0,hb0⟩;clear HKP;have HEZ:=hid hE;have HB0:=hid hb0;have e0:yJ L=iW L:=by unfold yJ;rw [if_pos hE]
 rw [e0] at hs0;rw [hE];obtain ⟨P,hP⟩:∃ P,P=iW L:=⟨_,rfl⟩;rw [← hP] at hs0;have HP:Hid (P.length=0):=hid (by rw [hP,HNL.out];rfl);have hlen:P.length≤4096:=by have:=HP.out;omega
 have hn0:=hs0.len;subst hn0;have HS0:=hid hs0;have HF0:Hid (Qb w1 (.slice none 0 0) w1):=⟨aU.nil _ _ _ _,Below.refl _ _⟩;have hcap0:=hs0.cap;have hbig0:=hs0.big;clear hE hb0 e0 hP hs0;go_wp2
 go_loopw [8,23] (fun s j wr=>∃ t:Nat,t≤P.length∧j = .int .i64 t∧Qb w1 s wr) (fun _ j _=>P.length-(intOf j).toNat)
 case atStart=>exact ⟨0,Nat.zero_le _,rfl,HF0.out⟩
 case round =>
  clear HF0;obtain ⟨t,ht,rfl,hfw⟩:=hrel;obtain ⟨wo,rfl⟩:∃ wo:World,wo=wr:=⟨_,rfl⟩;obtain ⟨s,hs⟩:∃ s,s=u8:=⟨_,rfl⟩;rw [← hs] at hfw ⊢;clear hs
  by_cases hlt:t<P.length
  ·exact absurd hlt (by have:=HP.out;omega)
  ·have hte : t = P.length := by omega
   subst hte;obtain ⟨sA,sn,sc,hse,hsl,-⟩:=hfw.own.sl;have hB1:Below w.heap.size w wo:=HB0.out.trans (hfw.bel.mono HB0.out.size);have HCA:=hid (AJ B sA m c' sn sc old [] wo (HO.out.below hB1) hsl (by simp) rfl);have HB1:=hid hB1;subst hse;clear hfw hsl hB1
   go_wp2_with fail
   refine HCA.out.mono ?_;rintro e w2 ⟨A2,n2,c2,rfl,hs2,hb2⟩;rw [show iR old []=[] by unfold iR;simp] at hs2;have HR:Hid (dW bZ w2 A2 n2 c2 []∧Below w.heap.size w w2):=⟨hs2,aj hb2 HB1.out⟩;clear HCA hs2 hb2;go_wp2;refine bodyPost_ret (v:=.tuple #[.slice A2 n2 c2,.int .i64 0]) (by simp [results,Tryz.results43,go_sem]) rfl ⟨A2,n2,c2,rfl,HR.out.1,HR.out.2⟩
theorem kP {x:BE} (h:aT x.b x.l=0):aZ [x]=0:=pV (by simp) (fun y hy=>by rw [List.mem_singleton.1 hy];exact h)
theorem Ia {x:BE} {gx gy st:Int} (h:aT x.b x.l=0) (hg:¬ jJ gx gy st):fJ [x] [] [] gx gy st=0:=by
 have hb:=kP h;have hc:bg [x] []=0:=by unfold bg;rw [if_neg (by simp [hb]),if_neg (by simp)];rfl
 have hj:bS [x] []=0:=by unfold bS;rw [if_neg (by simp [hb]),if_neg (by simp)];rfl
 unfold fJ;rw [if_neg (by simp [hc]),if_neg (by simp [hj]),if_neg (by decide),if_neg hg]
theorem zV (b:Bx):jd [b]=[]:=List.eq_nil_iff_forall_not_mem.2 fun p hp=>by
 have:=nJ.1 hp;simp at this;omega
theorem wQ {L:List BE} {y:Bd} {l:List V} (h:L.map aF=[(y,l)]):∃ z:BE,L=[z]∧z.b=y∧z.l=l:=by
 match L,h with
 | [z],h =>
  simp only [List.map_cons,List.map_nil,List.cons.injEq,and_true] at h;exact ⟨z,rfl,congrArg Prod.fst h,congrArg Prod.snd h⟩
 | [],h=>cases h
 | a :: b :: r,h=>cases h
theorem Lu {x:BE} {f:Nat→Nat} (h:x.b.asleep=false):jQ [x] f=[x]:=by
 unfold jQ Md;simp [h]
theorem AP {w : World} {A Aj Ac : Option Addr} {c nj cj nc cc : Nat} (x : BE) (gx gy st : Int) (y : Bd) (hS : iH w A 1 c [x]) (hJ : dW gZ w Aj nj cj []) (hC : dW bZ w Ac nc cc [])
  (hE:aT x.b x.l=0) (hg:¬ jJ gx gy st) (ha:x.b.asleep=false) (hy:(jr gx gy st x).b=y) (hyE:aT y x.l=0) (hyc:0≤y.calm∧y.calm≤1000) (hym:0≤y.mass) :
  Calls Tryz.prog 13 #[.agg #[.slice A 1 c,.slice Aj nj cj,.slice Ac nc cc,.int .i64 gx,.int .i64 gy,.int .i64 st]] w (oI [(moveB y x.l (aX st 65536),x.l)] id [] [] gx gy st w):=by
 have hst:1≤st∧st≤65536:=by unfold jJ at hg;omega
 have hx3:x.l≠[]:=fun e=>by rw [e] at hE;exact absurd (bJ hE).1 (by decide)
 have hx8:x.l.length≤8:=(bI (gY (bJ hE).1)).1
 have hfv:((jQ [x] id).map (jr gx gy st)).map aF=[(y,x.l)]:=by
  rw [Lu ha];show [aF (jr gx gy st x)]=_;unfold aF;rw [hy,(Gf gx gy st x).2]
 have hm := uZ hS hJ hC gx gy st (Ia hE hg) (by omega) [] [] id rfl [(y, x.l)] [(y, x.l)] [65536] (fun z hz => by cases hz)
  (fun w' h1 h2 h3=>kW h1 h2 h3 gx gy st)
  (fun w' A' c' Ak nk ck h1 h2 h3=>pI h1 h2 h3 (fun z hz=>by cases hz) (fun z hz=>by cases hz) (by omega))
  (fun w' h1 h2=>AY A Ac 1 c nc cc [x] [] w' h1 h2 (kP hE) (by unfold iW;rw [show ([x]:List BE).map bxB=[bxB x] from rfl,zV];rfl))
  (fun w' A' n' c' L1 hs hm hj=>by
   rw [hfv] at hm;have h:=vD A' Aj n' c' nj cj L1 [] st 8 w' hs hj (fun x hx=>by cases hx);obtain ⟨z,rfl,hz1,hz2⟩:=wQ hm
   have he:vW [z] [] st 8=0:=by
    have hj:bS [z] []=0:=by unfold bS;rw [kP (by rw [hz1,hz2];exact hyE)];rfl
    unfold vW;rw [if_neg (by simp [hj]),if_neg (by omega)]
   have hq:BS [z] [] st 8=[(y,x.l)]:=by unfold BS;rw [if_pos he,hm];rfl
   rwa [he,hq] at h)
  (fun w' A' n' c' L2 B m d hs hm hk=>by
   have h:=vE A' B n' c' m d L2 [] st 8 w' hs hk (fun x hx=>by cases hx);obtain ⟨z,rfl,hz1,hz2⟩:=wQ hm
   have he:oZ [z] [] st 8=0:=by
    have hc:bg [z] []=0:=by unfold bg;rw [kP (by rw [hz1,hz2];exact hyE)];rfl
    unfold oZ;rw [if_neg (by simp [hc]),if_neg (by omega)]
   have hq:qc [z] [] st 8=([(y,x.l)],[]):=by unfold qc;rw [if_pos he,hm];exact xE _ _ _
   rwa [he,hq] at h)
  (fun w' A' n' c' L3 hs hm=>by
   obtain ⟨z,rfl,hz1,hz2⟩:=wQ hm;have hn:n'=1:=hs.sl.len;subst hn
   have h := tu A' 1 c' [z] st w' hs (by omega) (fun q hq bx off e => by rw [List.mem_singleton.1 hq] at e; exact kI (hs.co z (List.mem_singleton.2 rfl)) (by rw [hz2]; exact hx3) bx off e) (fun q hq => by rw [List.mem_singleton.1 hq, hz2]; omega)
    (fun p hp=>by rw [show (([z]:List BE).map aF).map (swB st)=[swB st (aF z)] from rfl,zV] at hp;cases hp)
   refine h.mono ?_;rintro e w2 ⟨gs,rfl,h1,-,h2,-,h3⟩;refine ⟨gs,rfl,h1,fun j hj=>?_,h3⟩;have hj0:j=0:=by simpa using hj
   subst hj0
   exact h2 0 (by omega))
  rfl rfl (fun q hq=>by rw [List.mem_singleton.1 hq];exact ⟨hx3,by show x.l.length≤1000;omega,hym,hyc⟩)
 exact hm
def oN (x y m:Int):Bd:=⟨x*65536,y*65536,0,0,0,0,m,m,0,0,false,0⟩
def Oo (b:Bd) (l:List V) (w:World) (e:Ending) (w':World):Prop:=∃ A n c,e = .returned (dK b A n c)∧Sl w' A n c l∧(∀ bx off,A=some ⟨bx,off,none⟩→w.heap.size≤bx)∧Below w.heap.size w w'
theorem xI (x y s:Int) (hx : -1048576≤x∧x≤1048576) (hy : -1048576≤y∧y≤1048576) (hs : -1048576≤s∧s≤1048576) (w:World):Calls Tryz.prog 128 #[.int .i64 x,.int .i64 y,.int .i64 s] w (Gv (Oa x y s) w):=by
 go_enter Tryz.func128,Tryz.ntmps128
 go_wp2
 go_returns
 exact ⟨_,_,_,rfl,Sl.of4 _ _ _ _ _ _ _ _ (by go_simp) (by go_simp) (by go_simp) (by go_simp) (by go_simp) (by go_simp) (by go_simp) (by go_simp) (by omega) (by omega),fun b off e=>by cases e;simp,by go_grown⟩
theorem Sl.setBdN {A:Option Addr} {n c g:Nat} {l:List V} (h:Sl w A n c l) (b:Bd) (A':Option Addr) (n' c':Nat) (hne:l≠[]→∀ bx off,A=some ⟨bx,off,none⟩→bx≠g):Sl (Go.Proofs.YtokgmcomgflloaaGreat.setBd w g b A' n' c') A n c l:=by
 by_cases hl:l=[]
 ·exact ⟨h.len,h.cap,h.big,fun hne=>absurd hl hne⟩
 ·unfold Go.Proofs.YtokgmcomgflloaaGreat.setBd
  iterate 13 refine Sl.setAt ?_ (hne hl)
  exact h
theorem Sl.setAt2 {A:Option Addr} {n c g o:Nat} {l:List V} {v:Value} (h:Sl w A n c l) (hne:l≠[]→∀ b off,A=some ⟨b,off,none⟩→b≠g):Sl (w.setCell ⟨g,o,none⟩ v) A n c l:=by
 by_cases hl:l=[]
 ·exact ⟨h.len,h.cap,h.big,fun k=>absurd hl k⟩
 ·exact h.setAt (hne hl)
theorem tZ (x y h:Int) (hx : -1048576≤x∧x≤1048576) (hy : -1048576≤y∧y≤1048576) (hh : -1048576≤h∧h≤1048576) (w:World):Calls Tryz.prog 57 #[.int .i64 x,.int .i64 y,.int .i64 h,.bool true] w (Oo (oN x y 65536) (Oa 0 0 h) w):=by
 have HSQ:=hid (xI 0 0 h (by omega) (by omega) hh);generalize Oa 0 0 h=q at *
 obtain ⟨W,hW⟩:∃ W,W=w.alloc (.cells #[.int .i64 0,.int .i64 0,.int .i64 0,.int .i64 0,.int .i64 0,.int .i64 0,.int .i64 0,.int .i64 0,.int .i64 0,.int .i64 0,.slice none 0 0,.bool false,.int .i64 0] 27):=⟨_,rfl⟩;have HZ:=hid (show fD W w.heap.size by rw [hW];exact fD.of (aL.here w (oN 0 0 0) none 0 0 _));have hB0:Below w.heap.size w W:=by rw [hW];go_grown
 go_enter Tryz.func57,Tryz.ntmps57
 go_wp2_with fail
 rw [← hW];clear hW;refine (HSQ.out _).mono ?_;rintro e w1 ⟨A,n,c,rfl,hs,hf,hb⟩;have HF:=hid hf;have hB:=aj hb hB0;have hlt:w.heap.size<W.heap.size:=HZ.out.lt;have HLT:=hid hlt;replace HZ:=hid (cO hb HZ.out);obtain ⟨w2,hw2⟩:∃ w2,w2=w1.alloc (.cells #[.int .i64 (x*65536),.int .i64 (y*65536),.int .i64 0,.int .i64 0,.int .i64 0,.int .i64 0,.int .i64 0,.int .i64 0,.int .i64 0,.int .i64 0,.slice A n c,.bool false,.int .i64 0] 27):=⟨_,rfl⟩;obtain ⟨g,hg⟩:∃ g,g=w1.heap.size:=⟨_,rfl⟩;have HK:=hid (show aL w2 g (oN x y 0) A n c by rw [hw2,hg];exact aL.here w1 (oN x y 0) A n c _);have HS:=hid (show Sl w2 A n c q by rw [hw2];exact hs.below Ba);have HZ2:=hid (show fD w2 w.heap.size by rw [hw2];exact HZ.out.alloc _);have hB2:Below w.heap.size w w2:=by rw [hw2];exact hB.alloc hB.size _
 have HGF:Hid (q≠[]→∀ bx off,A=some ⟨bx,off,none⟩→bx≠g):=fun hne bx off e=>by
  obtain ⟨b',off',e',hc⟩:=hs.at_ hne;have:=hc.lt;rw [e] at e';cases e';rw [hg];omega
 have HNF:Hid (∀ bx off,A=some ⟨bx,off,none⟩→w.heap.size≤bx):=fun bx off e=>by have:=hf bx off e;omega
 have hgw:w.heap.size<g:=by have:=hb.size;rw [hg];omega
 obtain ⟨z0,z1,z2,z3,z4,z5,z6,z7,z8,z9,z10,z11,z12,y0,y1,y2,y3,y4,y5,y6,y7,y8,y9,y10,y11,y12⟩:=HZ2.out.all;have yf:=HZ2.out.free;obtain ⟨k0,k1,k2,k3,k4,k5,k6,k7,k8,k9,k10,k11,k12,kf⟩:=HK.out;have hl1:w.heap.size<w2.heap.size:=HZ2.out.lt;have hl2:g<w2.heap.size:=HK.out.lt;clear hs hf hb hB hB0 hlt HZ HSQ HK;simp only [oN] at k0 k1 k2 k3 k4 k5 k6 k7 k8 k9 k11 k12
 go_upto_if 18 with fail
 rw [← hw2,← hg];clear hw2 hg;go_wp2;refine bodyPost_ret (v:=dK (oN x y 65536) A n c) (by simp [results,Tryz.results57,go_sem,y0,y1,y2,y3,y4,y5,y6,y7,y8,y9,y10,y11,y12,hl1,dK,oN]) rfl ⟨A,n,c,rfl,?_,HNF.out,?_⟩
 ·exact Sl.setBdN (Sl.setAt2 (Sl.setAt2 HS.out HGF.out) HGF.out) (oN x y 65536) A n c (fun hne bx off e=>by have:=HF.out bx off e;have:=HLT.out;omega)
 ·go_grown
def PL:Bd:=⟨0,327680,0,-10240,0,0,65536,65536,0,0,false,0⟩
def stM:Bd:=⟨0,327520,0,-10240,0,0,65536,65536,0,0,false,0⟩
theorem PV (A:Option Addr) (n c:Nat) (l:List V):(jr 0 (-655360) 1024 ⟨oN 0 5 65536,A,n,c,l⟩).b=PL:=by kernel_rfl
theorem OU:aT (oN 0 5 65536) (Oa 0 0 1)=0∧aT PL (Oa 0 0 1)=0:=⟨by kernel_rfl,by kernel_rfl⟩
theorem PS:moveB PL (Oa 0 0 1) (aX 1024 65536)=stM:=by kernel_rfl
theorem PZ (A:Option Addr) (n c:Nat) (l:List V):(iP [⟨stM,A,n,c,l⟩] id).map (fun z=>(z.b.py,z.b.vy))=[(327520,-10240)]:=by kernel_rfl
theorem PU:¬ jJ 0 (-655360) 1024:=by decide

theorem JJ {A:Option Addr} {n c:Nat} {L':List BE} {l:List V} (hS:iH w A n c (iP L' id)) (hm:L'.map aF=[(stM,l)]):n=1∧∃ b off,A=some ⟨b,off,none⟩∧w.cell? ⟨b,off+1,none⟩=some (.int .i64 327520)∧w.cell? ⟨b,off+3,none⟩=some (.int .i64 (-10240)):=by
 obtain ⟨⟨zb,zA,zn,zc,zl⟩,rfl,h1,h2⟩:=wQ hm;dsimp only at h1 h2;subst h1;have hr:=PZ zA zn zc zl;have hl:(iP [(⟨stM,zA,zn,zc,zl⟩:BE)] id).length=1:=by have:=congrArg List.length hr;simpa using this
 obtain ⟨b,off,e,hc⟩:=hS.sl.at_ (by intro h;rw [h] at hl;cases hl);have h0:0<(iP [(⟨stM,zA,zn,zc,zl⟩:BE)] id).length:=by omega
 obtain ⟨-,c1,-,c3,-⟩:=dD hc h0 rfl
 have hz:((iP [(⟨stM,zA,zn,zc,zl⟩:BE)] id)[0].b.py,(iP [(⟨stM,zA,zn,zc,zl⟩:BE)] id)[0].b.vy)=((327520:Int),(-10240:Int)):=by
  have h9:((iP [(⟨stM,zA,zn,zc,zl⟩:BE)] id).map (fun z=>(z.b.py,z.b.vy)))[0]? = some (327520,-10240):=by rw [hr];rfl
  rw [List.getElem?_map,List.getElem?_eq_getElem h0] at h9;exact Option.some.inj h9
 have z1:(iP [(⟨stM,zA,zn,zc,zl⟩:BE)] id)[0].b.py=327520:=congrArg Prod.fst hz;have z2:(iP [(⟨stM,zA,zn,zc,zl⟩:BE)] id)[0].b.vy = -10240:=congrArg Prod.snd hz;rw [z1] at c1;rw [z2] at c3;refine ⟨by have:=hS.sl.len;omega,b,off,e,?_,?_⟩
 ·simpa using c1
 ·simpa using c3
theorem uV (w:World):Calls Tryz.prog 16 #[] w (dG (.bool true) w):=by
 have HB1:=hid (tZ 0 5 1 (by omega) (by omega) (by omega));obtain ⟨q,hq⟩:∃ q,q=Oa 0 0 1:=⟨_,rfl⟩
 have HST:Hid (∀ (w':World) (g:Nat) (A:Option Addr) (n c:Nat),aL w' g (oN 0 5 65536) A n c→Sl w' A n c q→Calls Tryz.prog 13 #[.agg #[.slice (some ⟨g,0,none⟩) 1 1,.slice none 0 0,.slice none 0 0,.int .i64 0,.int .i64 (-655360),.int .i64 1024]] w' (oI [(stM,q)] id [] [] 0 (-655360) 1024 w')):=hid (fun w' g A n c hb hs=>by
  have h:=AP ⟨oN 0 5 65536,A,n,c,q⟩ 0 (-655360) 1024 PL (iH.one (x:=⟨oN 0 5 65536,A,n,c,q⟩) hb hs) (dW.nil gZ w') (dW.nil bZ w') (by rw [hq];exact OU.1) PU rfl (PV A n c q) (by rw [hq];exact OU.2) (by decide) (by decide);rw [hq] at h ⊢
  rwa [PS] at h)
 rw [← hq] at HB1;clear hq
 go_enter Tryz.func16,Tryz.ntmps16
 go_wp2_with fail
 refine (HB1.out _).mono ?_;rintro e w1 ⟨A1,n1,c1,rfl,hs1,hf1,hb1⟩;have HST2:=hid (HST.out (w1.alloc (.cells #[.int .i64 (oN 0 5 65536).px,.int .i64 (oN 0 5 65536).py,.int .i64 (oN 0 5 65536).vx,.int .i64 (oN 0 5 65536).vy,.int .i64 (oN 0 5 65536).ang,.int .i64 (oN 0 5 65536).spin,.int .i64 (oN 0 5 65536).mass,.int .i64 (oN 0 5 65536).iner,.int .i64 (oN 0 5 65536).bounce,.int .i64 (oN 0 5 65536).rub,.slice A1 n1 c1,.bool (oN 0 5 65536).asleep,.int .i64 (oN 0 5 65536).calm] 27)) w1.heap.size A1 n1 c1 (aL.here w1 (oN 0 5 65536) A1 n1 c1 _) (hs1.below Ba));have HB:=hid (aj ((Below.refl _ _).alloc (Nat.le_refl _) (.cells #[.int .i64 (oN 0 5 65536).px,.int .i64 (oN 0 5 65536).py,.int .i64 (oN 0 5 65536).vx,.int .i64 (oN 0 5 65536).vy,.int .i64 (oN 0 5 65536).ang,.int .i64 (oN 0 5 65536).spin,.int .i64 (oN 0 5 65536).mass,.int .i64 (oN 0 5 65536).iner,.int .i64 (oN 0 5 65536).bounce,.int .i64 (oN 0 5 65536).rub,.slice A1 n1 c1,.bool (oN 0 5 65536).asleep,.int .i64 (oN 0 5 65536).calm] 27)) hb1);clear hs1 hf1 hb1 HB1 HST
 go_wp2_with fail
 refine HST2.out.mono ?_;rintro e w2 ⟨A2,n2,c2,Aj,nj,cj,Ac,nc,cc,L',rfl,hs2,hj2,hc2,hm2,hb2⟩;obtain ⟨rfl,b,off,rfl,k1,k3⟩:=JJ hs2 hm2;have HBR:=hid (aj hb2 HB.out);have lb:=lt_of_cell k3;clear hs2 hj2 hc2 hm2 hb2 HB HST2;go_wp2
 go_returns
 exact bR (by simp) (by have h9:=HBR.out;have h8:=h9.size;go_grown)
end
end Go.Proofs.YtokgmcomgflloaaGreat
