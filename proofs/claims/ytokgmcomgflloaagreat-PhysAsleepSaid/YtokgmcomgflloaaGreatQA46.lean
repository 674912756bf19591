/- Parts of a proof: contracts and laws. -/
import Derived.Test.YtokgmcomgflloaaGreatQA38
import Derived.Test.YtokgmcomgflloaaGreatQA45
import Derived.Test.YtokgmcomgflloaaGreatQA17
import Derived.Test.YtokgmcomgflloaaGreatQA02
set_option maxRecDepth 100000
set_option maxHeartbeats 16000000
namespace Go.Proofs.YtokgmcomgflloaaGreat
section
set_option linter.unusedVariables false
set_option linter.unusedSimpArgs false
open Go.RowKit
theorem vE (A B:Option Addr) (n c n' c':Nat) (L:List BE) (C:List Ct) (st r:Int) (w:World) (hS:iH w A n c L) (hC:dW bZ w B n' c' C) (hst:∀ x ∈ C,∀ y ∈ L,stB y.b) :
  Calls Tryz.prog 49 #[.slice A n c,.slice B n' c',.int .i64 st,.int .i64 r] w (nH (oZ L C st r) (qc L C st r) w):=by
 have HST0:=hid hst;clear hst;have hn:=hS.sl.len;have hcap:=hS.sl.cap;have hbig:=hS.sl.big;have hn':=hC.len;have hcap':=hC.cap;have hbig':=hC.big;subst hn hn';have HS:=hid hS;have HC:=hid hC;have HCK:=hid (rZ A B L.length c C.length c' L C w hS hC);clear hS hC
 go_enter Tryz.func49,Tryz.ntmps49
 go_wp2_with fail
 refine HCK.out.mono ?_;rintro e w1 ⟨rfl,hB1⟩;clear HCK
 have HNIL:Hid (∀ (z:Int) (wx:World),z≠0→oZ L C st r=z→Below w.heap.size w wx→nH (oZ L C st r) (qc L C st r) w (.returned (.tuple #[.slice none 0 0,.slice none 0 0,.int .i64 z])) wx):=fun z wx hz he hb =>
  ⟨none,none,0,0,0,0,[],by rw [he],⟨dW.nil _ _,fun x hx=>by cases hx⟩,by unfold qc;rw [if_neg (by rw [he];exact hz)];exact dW.nil _ _,by unfold qc;rw [if_neg (by rw [he];exact hz)];rfl,hb,(fun b off e=>by cases e),(fun y hy=>by cases hy),(fun b off e=>by cases e)⟩
 by_cases hE:bg L C=0
 case neg =>
  have HR:=hid (HNIL.out (bg L C) w1 hE (by unfold oZ;rw [if_pos hE]) hB1);have hne:(bg L C != 0)=true:=by simp [hE]
  generalize bg L C=z at *
  go_wp2;exact bodyPost_ret (v:=.tuple #[.slice none 0 0,.slice none 0 0,.int .i64 z]) (by simp [results,Tryz.results49,go_sem]) rfl HR.out
 obtain ⟨hbe,hc96,hcs⟩:=fV hE;obtain ⟨h64,hval⟩:=eY hbe;have HV:=hid hval;have HCS:=hid hcs
 by_cases hbad:st<1∨65536<st∨r<0∨32<r
 ·have HR := hid (HNIL.out 1 w1 (by decide) (by unfold oZ; rw [if_neg (by simp [hE]), if_pos hbad]) hB1);rw [hE];clear hE hbe hval hcs HNIL
  by_cases c1:st<1
  ·go_wp2;exact bodyPost_ret (v:=.tuple #[.slice none 0 0,.slice none 0 0,.int .i64 1]) (by simp [results,Tryz.results49,go_sem]) rfl HR.out
  by_cases c2:65536<st
  ·go_wp2;exact bodyPost_ret (v:=.tuple #[.slice none 0 0,.slice none 0 0,.int .i64 1]) (by simp [results,Tryz.results49,go_sem]) rfl HR.out
  by_cases c3:r<0
  ·go_wp2;exact bodyPost_ret (v:=.tuple #[.slice none 0 0,.slice none 0 0,.int .i64 1]) (by simp [results,Tryz.results49,go_sem]) rfl HR.out
  have c4:32<r:=by omega
  go_wp2;exact bodyPost_ret (v:=.tuple #[.slice none 0 0,.slice none 0 0,.int .i64 1]) (by simp [results,Tryz.results49,go_sem]) rfl HR.out
 have c1:¬ st<1:=fun h=>hbad (.inl h)
 have c2:¬ 65536<st:=fun h=>hbad (.inr (.inl h))
 have c3:¬ r<0:=fun h=>hbad (.inr (.inr (.inl h)))
 have c4:¬ 32<r:=fun h=>hbad (.inr (.inr (.inr h)))
 have HRE:Hid (oZ L C st r=0):=by show _=_;unfold oZ;rw [if_neg (by simp [hE]),if_neg hbad]
 have HRQ:Hid (qc L C st r=nU (L.map aF) C st r.toNat):=by show _=_;unfold qc;rw [if_pos HRE.out]
 rw [hE];clear hE hbe hval hcs HNIL hbad
 go_wp2_with fail
 refine (mQ B C.length c' C _ (HC.out.below hB1) (by omega)).mono ?_;rintro e w2 ⟨sc,rfl,hoc,hb2⟩;obtain ⟨Ac,nc,cc,rfl,hsl9,-⟩:=hoc.sl;have hnc:=hsl9.len;subst hnc;have hccap:=hsl9.cap;have hcbig:=hsl9.big;clear hsl9;have HC1:=hid c1;have HC2:=hid c2;clear c1 c2;obtain ⟨rn,rfl⟩:∃ rn:Nat,r=rn:=⟨r.toNat,by omega⟩;rw [Int.toNat_natCast] at HRQ;have hrn:rn≤32:=by omega
 clear c3 c4;have hB2:=aj hb2 hB1;obtain ⟨gs,hgs⟩:∃ gs,gs=w2.heap.size:=⟨_,rfl⟩;obtain ⟨w3,hw3⟩:∃ w3,w3=w2.alloc (.cells #[.slice none 0 0,.slice Ac C.length cc,.slice none 0 0] 171):=⟨_,rfl⟩;have hb3:Below w2.heap.size w2 w3:=by rw [hw3];go_grown
 have hscl:∀ k,(Value.slice Ac C.length cc).ownBlock=some k→k<gs:=fun k hk=>by rw [hgs];exact (hoc.lt hk).2
 have HS3:Hid (S1 w gs (.slice Ac C.length cc) (.slice none 0 0) C [] w3):=by
  show S1 _ _ _ _ _ _ _;refine ⟨?_,?_,?_,?_,(hoc.mono hB1.size).below hb3,aU.nil _ _ _ _,fun x hx=>(by cases hx),aj hb3 hB2,by rw [hgs];exact hB2.size,by rw [hgs,hw3];simp,hscl⟩ <;> rw [hw3,hgs]
  ·go_simp
  ·go_simp
  ·go_simp
  ·exact fun j=>by go_simp
 clear hoc hb2 hb3 hB2 hB1 hscl
 go_upto_region 7 with fail
 rw [← hw3,← hgs];clear hw3 hgs;go_wp2
 go_loopw [46] (fun i wr=>∃ (k:Nat) (sb:Value) (L':List BE),k≤L.length∧i = .int .i64 k∧S1 w gs (.slice Ac C.length cc) sb C L' wr∧L'.map aF=(L.map aF).take k) (fun i _=>L.length-(intOf i).toNat)
 case atStart=>exact ⟨0,_,[],Nat.zero_le _,rfl,HS3.out,rfl⟩
 case round =>
  clear HS3;obtain ⟨k,sb,L',hk,rfl,hs1,hmp⟩:=hrel;obtain ⟨wo,rfl⟩:∃ wo:World,wo=wr:=⟨_,rfl⟩;have HSB:=hid hs1;have HMP:=hid hmp;clear hs1 hmp
  by_cases hlt:k<L.length
  ·obtain ⟨ba, off, hA, hCl⟩ := (HS.out.below HSB.out.bel).sl.at_ (by intro h; subst h; simp at hlt);subst hA;obtain ⟨x,hx⟩:∃ x,x=L[k]:=⟨_,rfl⟩;have hxm:x ∈ L:=by rw [hx];exact List.getElem_mem hlt
   have hxs:Sl wo x.A x.n x.c x.l:=(HS.out.below HSB.out.bel).co x hxm;have hxv:=(bJ (HV.out x hxm)).1;have hx3:=pO (gY hxv);have HXN:Hid (x.l≠[]):=fun e=>by rw [e] at hxv;exact absurd hxv (by decide)
   obtain ⟨d0,d1,d2,d3,d4,d5,d6,d7,d8,d9,d10,d11,d12⟩:=dD hCl hlt hx;have hbo:=hCl.lt;have hlt':(k:Int)<(L.length:Int):=by omega
   have hkw:IntKind.i64.wrap ((k:Int)+1)=(k:Int)+1:=IntWalk.i64_in _ (by omega);obtain ⟨wj,hwj⟩:∃ wj,wj=wo.alloc (.cells #[.int .i64 x.b.px,.int .i64 x.b.py,.int .i64 x.b.vx,.int .i64 x.b.vy,.int .i64 x.b.ang,.int .i64 x.b.spin,.int .i64 x.b.mass,.int .i64 x.b.iner,.int .i64 x.b.bounce,.int .i64 x.b.rub,.slice x.A x.n x.c,.bool x.b.asleep,.int .i64 x.b.calm] 27):=⟨_,rfl⟩;obtain ⟨gb,hgb⟩:∃ gb,gb=wo.heap.size:=⟨_,rfl⟩;have hbj:Below wo.heap.size wo wj:=by rw [hwj];go_grown
   have HK:=hid (show aL wj gb x.b x.A x.n x.c by rw [hwj,hgb];exact aL.here wo x.b x.A x.n x.c _);have HCL:=hid (qw x.A x.n x.c x.l wj (hxs.below hbj) (by omega));have HSJ:=hid (BM hbj HSB.out);have hgbw:wo.heap.size≤gb:=by rw [hgb];exact Nat.le_refl _
   have hgbj:gb<wj.heap.size:=HK.out.lt
   have HTK:Hid (L'.map aF ++ [aF x]=(L.map aF).take (k+1)):=by
    show _=_;rw [HMP.out,List.take_add_one,List.getElem?_map,List.getElem?_eq_getElem hlt,← hx];rfl
   have HLL:Hid (L'.length≤64):=by
    have:=congrArg List.length HMP.out;simp at this;show _≤_;omega
   clear hCl hx hxs hxv hx3 hbj
   go_upto_region 10 with fail
   rw [← hwj,← hgb];clear hwj hgb d0 d1 d2 d3 d4 d5 d6 d7 d8 d9 d10 d11 d12 hbo;obtain ⟨k0,k1,k2,k3,k4,k5,k6,k7,k8,k9,k10,k11,k12,kf⟩:=HK.out
   go_wp2_with fail
   refine HCL.out.mono ?_;rintro e w3 ⟨A1,n1,c1,rfl,hs1,hf1,hb1⟩;clear k0 k1 k2 k3 k4 k5 k6 k7 k8 k9 k10 k11 k12 kf HCL;have HK3:=hid (aM hb1 HK.out);obtain ⟨w4,hw4⟩:∃ w4,w4=w3.setCell ⟨gb,10,none⟩ (.slice A1 n1 c1):=⟨_,rfl⟩;have HFN:Hid (∀ bx off,A1=some ⟨bx,off,none⟩→wo.heap.size≤bx):=fun bx off e=>by have:=hf1 bx off e;omega
   have HK4:=hid (show aL w4 gb x.b A1 n1 c1 by rw [hw4];exact HK3.out.set_slice);have HSL:=hid (show Sl w4 A1 n1 c1 x.l by rw [hw4];exact hs1.setAt (fun bx off e=>by have:=hf1 bx off e;omega));have HS4:=hid (show S1 w gs (.slice Ac C.length cc) sb C L' w4 by rw [hw4];exact S1.set HSB.out (BM hb1 HSJ.out) hgbw);obtain ⟨k0,k1,k2,k3,k4,k5,k6,k7,k8,k9,k10,k11,k12,kf⟩:=HK3.out;clear hs1 hf1 hb1 HSJ HK hgbw hgbj
   go_upto_region 11 with fail
   rw [← hw4];clear hw4 k0 k1 k2 k3 k4 k5 k6 k7 k8 k9 k10 k11 k12 kf HK3;refine wp_region_noPanic ?_;refine au (S:=(S2 (fun w'=>S1 w gs (.slice Ac C.length cc) sb C L' w'∧aL w' gb x.b A1 n1 c1))) (T:=(fun j=>[0,0,0,0,0,0,0,1,0,0,1].getD j 0)) (by kernel_rfl) (aC ⟨HS4.out.drew,HK4.out.drew⟩) (fun hH=>?_);have hWr9:aH (S2 (fun w'=>S1 w gs (.slice Ac C.length cc) sb C L' w'∧aL w' gb x.b A1 n1 c1)):=aK _;refine dn [(1,55),(2,56),(3,57),(4,58),(5,59)] 6 0 0 (L':=?Lr9_1) hWr9 hH ?hyr9_1 ?_
   case hyr9_1=>((iterate 5 apply dA;rfl;kernel_rfl;intro w' hSw;replace hSw:=aA hSw;(try dsimp only at hSw);have q0:=hSw.1;have q1:=hSw.2;have qa0_0:=(q0).c0;have qa0_1:=(q0).c1;have qa0_2:=(q0).c2;obtain ⟨c1_0,c1_1,c1_2,c1_3,c1_4,c1_5,c1_6,c1_7,c1_8,c1_9,c1_10,c1_11,c1_12,c1_f⟩:=id q1;(try simp only [sB,sC]);go_simp;(try with_reducible rfl));exact dw)
   simp only [sB,sC];refine Ut 0 54 5 1 0 (v:=?vr9_6) rfl hWr9 hH ?hyr9_6 ?_
   case hyr9_6=>(intro w' hSw;clear hSw;go_simp;try (with_reducible rfl))
   simp only [sB,sC];refine U1 6 0 rfl (fun K hK=>?_)
   try clear hb
   have hG:=hH;replace hG:=aA hG;(try dsimp only at hG);have fq0:=hG.1;have fq1:=hG.2;go_simp;refine hK.out _ _ ?hsr9_7 (fun hH2=>?hrr9_7)
   case hsr9_7=>exact aC (by have hG:=hH;replace hG:=aA hG;(try dsimp only at hG);have q0:=hG.1;have q1:=hG.2;exact ⟨BM Ba q0,aM Ba q1⟩)
   clear hK K hH;have hH:=hH2;clear hH2
   try simp only [Act.put,sA,sB,sC]
   clear fq0 fq1 hG;refine U1 7 1 rfl (fun K hK=>?_)
   try clear hb
   (refine iy xX (by rfl) _ _ (by rfl) (gs+1) _ _ (by rfl) (HS4.out.own.alloc _).drew _ 0 1 1 [⟨x.b,A1,n1,c1,x.l⟩] (by rfl) (by rfl) (aJ.below (Below.refl _ _).drew (kU (aL.here w4 x.b A1 n1 c1 _))) (by have:=HLL.out;simp;omega) (by have:=HLL.out;simp;omega) (by have:=HS4.out.lt.2.1;simp;omega) ?_;intro sb' w7 ho1 hg1 hat)
   refine hK.out _ _ ?hsr9_8 (fun hH2=>?hrr9_8)
   case hsr9_8=>exact dY
   clear hK K hH;have hH:=hH2;clear hH2
   try simp only [Act.put,List.getElem_toArray,List.getElem_cons_succ,List.getElem_cons_zero,List.setIfInBounds_toArray,List.set_cons_zero,List.set_cons_succ]
   obtain ⟨A2,n2,c2,rfl,-,-⟩:=ho1.sl;have HQ7:=hid (S1.push HSB.out HS4.out (y:=⟨x.b,A1,n1,c1,x.l⟩) HSL.out HXN.out HFN.out (by go_grown) ho1 hg1 hat);clear ho1 hg1 hat;refine dn [(8,62),(9,63)] 1 1 1 (L':=?Lr9_9) hWr9 hH ?hyr9_9 ?_
   case hyr9_9=>((iterate 2 apply dA;rfl;kernel_rfl;intro w' hSw;clear hSw;(try simp only [sB,sC]);go_simp;(try with_reducible rfl));exact dw)
   simp only [sB,sC];refine U1 10 1 rfl (fun K hK=>?_);obtain ⟨y0,yf⟩:=HQ7.out.2;go_simp;refine hK.out _ _ ?hsr9_11 (fun hH2=>?hrr9_11)
   case hsr9_11=>exact dY
   clear hK K hH;have hH:=hH2;clear hH2
   try simp only [Act.put,sA,sB,sC]
   refine ak (by kernel_rfl) ?_ _ _;refine NoPanic.normal ?_;go_wp2;go_roundw
   case rel=>exact ⟨k+1,_,_,by omega,by go_num,HQ7.out.1,by rw [List.map_append];exact HTK.out⟩
   case measure=>simp [intOf] <;> omega
  ·have hkn : k = L.length := by omega
   subst hkn;have HLM:Hid (L'.map aF=L.map aF):=by show _=_;rw [HMP.out,List.take_of_length_le (by simp)]
   clear HMP hlt hk;have HCF:Hid (∀ x ∈ C,fT L'.length x):=fun x hx=>by have h9:=congrArg List.length HLM.out;rw [List.length_map,List.length_map] at h9;rw [h9];exact HCS.out x hx
   have HVL':Hid (∀ y ∈ L',aT y.b y.l=0):=fun y hy=>by
    have h9:aF y ∈ L.map aF:=by rw [← HLM.out];exact List.mem_map_of_mem hy
    obtain ⟨z,hz,hzy⟩:=List.mem_map.1 h9;have h1:z.b=y.b:=congrArg Prod.fst hzy;have h2:z.l=y.l:=congrArg Prod.snd hzy;rw [← h1,← h2];exact HV.out z hz
   have hl64:L'.length≤64:=by have h9:=congrArg List.length HLM.out;rw [List.length_map,List.length_map] at h9;omega
   by_cases hC0:C=[]
   ·subst hC0;have HSN:Hid (nU (L.map aF) [] st rn=(L.map aF,[])):=xE _ _ _;obtain ⟨k0,k1,k2⟩:wo.cell? ⟨gs,0,none⟩=some sb∧wo.cell? ⟨gs,1,none⟩=some (.slice Ac 0 cc)∧wo.cell? ⟨gs,2,none⟩=some (.slice none 0 0):=⟨HSB.out.c0,HSB.out.c1,HSB.out.c2⟩;have HSB2:Hid (S1 w gs (.slice Ac 0 cc) sb [] L' wo):=HSB.out;clear HSB;have HSB:=HSB2;clear HSB2 HCF HVL' HCS;go_wp2
    go_loopw [70] (fun i wr=>i = .int .i64 0∧wr=wo) (fun i _=>0)
    case atStart=>exact ⟨rfl,rfl⟩
    case round =>
     obtain ⟨rfl,rfl⟩:=hrel;go_wp2
     go_loopw [93] (fun i wr2=>i = .int .i64 0∧wr2=wr) (fun i _=>0)
     case atStart=>exact ⟨rfl,rfl⟩
     case round =>
      obtain ⟨rfl,rfl⟩:=hrel;go_wp2
      go_loopw [120] (fun i wr3=>∃ t:Nat,t≤rn∧i = .int .i64 t∧wr3=wr) (fun i _=>rn-(intOf i).toNat)
      case atStart=>exact ⟨0,Nat.zero_le _,rfl,rfl⟩
      case round =>
       obtain ⟨t,ht,rfl,rfl⟩:=hrel
       by_cases hlt:t<rn
       ·have hlt' : (t : Int) < (rn : Int) := by omega
        have htw:IntKind.i64.wrap ((t:Int)+1)=(t:Int)+1:=IntWalk.i64_in _ (by omega);go_wp2
        go_loopw [127] (fun i wr4=>i = .int .i64 0∧wr4=wr) (fun i _=>0)
        case atStart=>exact ⟨rfl,rfl⟩
        case round =>
         obtain ⟨rfl,rfl⟩:=hrel;go_wp2;go_roundw
         case rel=>exact ⟨t+1,by omega,by go_num,by simp⟩
         case measure=>simp [intOf] <;> omega
       ·have htn : t = rn := by omega
        subst htn;clear k0 k1 k2
        go_upto_region 31 with fail
        refine wp_region_noPanic ?_;refine au (S:=(S2 (fun w'=>S1 w gs (.slice Ac 0 cc) sb [] L' w'))) (T:=(fun _=>0)) (by kernel_rfl) (aC HSB.out.drew) (fun hH=>?_);have hWr13:aH (S2 (fun w'=>S1 w gs (.slice Ac 0 cc) sb [] L' w')):=aK _;refine dn [(0,135),(1,136),(2,137),(3,138),(4,139),(5,140),(6,141),(7,142),(8,8),(9,9),(10,10)] 0 0 0 (L':=?Lr13_1) hWr13 hH ?hyr13_1 ?_
        case hyr13_1=>((iterate 11 apply dA;rfl;kernel_rfl;intro w' hSw;replace hSw:=aA hSw;(try dsimp only at hSw);have q0:=hSw;have d0_0:=(q0).c0;have d0_1:=(q0).c1;have d0_2:=(q0).c2;(try simp only [sB,sC]);go_simp;(try with_reducible rfl));exact dw)
        simp only [sB,sC];refine ak (by kernel_rfl) ?_ _ _;refine NoPanic.normal ?_;clear hWr13;replace hH:=aA hH
        (try dsimp only at hH)
        have t0:=hH;have HSE:=hid t0;clear t0 hH;obtain ⟨A3,n3,c3,rfl,hsl3,hbs3⟩:=HSE.out.own.sl;have HFR3:Hid ((∀ b off,A3=some ⟨b,off,none⟩→w.heap.size≤b)∧(∀ y ∈ L',∀ bx off,y.A=some ⟨bx,off,none⟩→w.heap.size≤bx)∧(∀ b off,Ac=some ⟨b,off,none⟩→w.heap.size≤b)):=hid ⟨fun b off e=>by have h1:=hbs3 b off e;have h2:=HSE.out.lt.1;omega,fun y hy bx off e=>by have h1:=((HSE.out.co y hy).2.2 bx off e).1;have h2:=HSE.out.lt.1;omega,fun b off e=>(HSE.out.oc.lt (k:=b) (by rw [e];rfl)).1⟩;clear hbs3;have HB3:=hid HSE.out.bel;have HC3:=hid HSE.out.co;have HSL3:=hid hsl3;clear hsl3 HSE HSB;go_wp2;exact bodyPost_ret (v:=.tuple #[.slice A3 n3 c3,.slice Ac 0 cc,.int .i64 0]) (by simp [results,Tryz.results49,go_sem]) rfl ⟨A3,Ac,n3,c3,0,cc,L',by rw [HRE.out],⟨HSL3.out,fun x hx=>(HC3.out x hx).1⟩,by rw [HRQ.out,HSN.out];exact ⟨rfl,Nat.zero_le _,by omega,fun h=>absurd rfl h⟩,by rw [HRQ.out,HSN.out];exact HLM.out,HB3.out,HFR3.out⟩
   have hCp:0<C.length:=by rcases C with _ | ⟨x,l⟩;exact absurd rfl hC0;simp
   have hLp:L'≠[]:=fun e=>by
    have h9:=(HCF.out C[0] (List.getElem_mem hCp)).1;rw [e] at h9;simp at h9;omega
   obtain ⟨g,cap,hsbe,hg1,hg2,hcap1,hcap2,hfr,hcl⟩:∃ g cap,sb = .slice (some ⟨g,0,none⟩) L'.length cap∧gs+1≤g∧g<wo.heap.size∧L'.length≤cap∧cap≤maxLen∧(∀ j,wo.frozen? ⟨g,j,none⟩=false)∧aJ jo wo g 0 L':=by
    rcases HSB.out.own.form with ⟨h1,h2⟩ | ⟨g',cap',hv,h1,h2,h3,h4,h5,h6⟩
    ·exact absurd h2 hLp
    ·exact ⟨g',cap',hv,h1,h2,h3,h4,h5,h6⟩
   obtain ⟨gc,hAce,hgc1,hgc2,hcfr,hccl⟩:∃ gc,Ac=some ⟨gc,0,none⟩∧w.heap.size≤gc∧gc<gs∧(∀ j,wo.frozen? ⟨gc,j,none⟩=false)∧aJ bZ wo gc 0 C:=by
    rcases HSB.out.oc.form with ⟨h1,h2⟩ | ⟨g',cap',hv,h1,h2,h3,h4,h5,h6⟩
    ·exact absurd h2 hC0
    ·cases hv;exact ⟨g',rfl,h1,HSB.out.lt.2.2 g' rfl,h5,h6⟩
   subst hsbe hAce
   have HS2:Hid (DV w wo.heap.size gs g gc cap cc L' C (.slice none 0 0) [] wo) :=
    ⟨HSB.out.c0,HSB.out.c1,HSB.out.c2,HSB.out.cf,⟨hcl,hfr,fun x hx=>(HSB.out.co x hx).1,fun x hx bx off e e2=>by have h9:=((HSB.out.co x hx).2.2 bx off e).2;rw [e2] at h9;exact h9 rfl⟩,hccl,hcfr,aU.nil _ _ _ _,fun x hx bx off e=>((HSB.out.co x hx).2.2 bx off e).1,fun x hx=>kI (HSB.out.co x hx).1 (HSB.out.co x hx).2.1,HSB.out.bel,hgc1,hgc2,by omega,hg2,Nat.le_refl _⟩
   obtain ⟨Bz,hBz⟩:∃ Bz,Bz=wo.heap.size:=⟨_,rfl⟩;rw [← hBz] at HS2;have HBZ:=hid hBz;have hgg:g≠gs:=by omega
   have HGF:Hid (w.heap.size≤g∧w.heap.size≤gc):=hid ⟨by have h1:=HSB.out.lt.1;omega,by omega⟩;have HFR:Hid (OQ w.heap.size L'):=hid (fun y hy bx off e=>by have h1:=((HSB.out.co y hy).2.2 bx off e).1;have h2:=HSB.out.lt.1;omega);clear HSB hcl hfr hcfr hccl hg1 hg2 hgc1 hgc2 hBz hLp;obtain ⟨k0,k1,k2⟩:wo.cell? ⟨gs,0,none⟩=some (.slice (some ⟨g,0,none⟩) L'.length cap)∧wo.cell? ⟨gs,1,none⟩=some (.slice (some ⟨gc,0,none⟩) C.length cc)∧wo.cell? ⟨gs,2,none⟩=some (.slice none 0 0):=⟨HS2.out.c0,HS2.out.c1,HS2.out.c2⟩;go_wp2
   go_loopw [70] (fun i wr=>∃ (k:Nat) (sr:Value) (R':List Rw),k≤C.length∧i = .int .i64 k∧DV w Bz gs g gc cap cc L' C sr R' wr∧R'=(pG (L'.map aF) C st).take k) (fun i _=>C.length-(intOf i).toNat)
   case atStart=>exact ⟨0,_,[],Nat.zero_le _,rfl,HS2.out,rfl⟩
   case round =>
    clear HS2 k0 k1 k2;obtain ⟨k,sr,R',hk,rfl,hs2,hrq⟩:=hrel;obtain ⟨wi,rfl⟩:∃ wi:World,wi=wr:=⟨_,rfl⟩;have HS2:=hid hs2;have HRQ2:=hid hrq;clear hs2 hrq
    by_cases hlt:k<C.length
    ·obtain ⟨x, hx⟩ : ∃ x, x = C[k] := ⟨_, rfl⟩;have hxm:x ∈ C:=by rw [hx];exact List.getElem_mem hlt
     have hok:=HCF.out x hxm;obtain ⟨d0,d1,d2,d3,d4,d5,d6,d7,d8,d9⟩:=uo (x:=x) HS2.out.cl hlt (by rw [List.getElem?_eq_getElem hlt,hx]);have hbo:=HS2.out.cl.lt;have hlt':(k:Int)<(C.length:Int):=by omega
     have hkw:IntKind.i64.wrap ((k:Int)+1)=(k:Int)+1:=IntWalk.i64_in _ (by omega);obtain ⟨ka,hxa⟩:∃ ka:Nat,x.a=ka:=⟨x.a.toNat,by have:=hok.1;omega⟩;obtain ⟨kb,hxb⟩:∃ kb:Nat,x.b=kb:=⟨x.b.toNat,by have:=hok.1;omega⟩;obtain ⟨r,hr⟩:∃ r,r=yR (L'.map aF) st x:=⟨_,rfl⟩
     have HTK:Hid (R' ++ [r]=(pG (L'.map aF) C st).take (k+1)):=by
      show _=_;unfold pG at HRQ2 ⊢;rw [HRQ2.out,List.take_add_one,List.getElem?_map,List.getElem?_eq_getElem hlt,← hx,hr];rfl
     have HRL:Hid (R'.length≤4096):=by
      have h9:=congrArg List.length HRQ2.out;unfold pG at h9;simp at h9;show _≤_;omega
     have HROW:Hid (∀ w',DV w Bz gs g gc cap cc L' C sr R' w'→Calls Tryz.prog 115 #[.pointer (some ⟨gs,0,none⟩),OO x,.int .i64 st] w' (dG (.agg #[.int .i64 r.t1,.int .i64 r.t2,.int .i64 r.ease,.int .i64 r.slip,.int .i64 r.lift,.int .i64 r.bound]) w')):=fun w' h=>by
      have h9:=F6 cap gs g ka kb L' x st w' h.bl HVL'.out h.c0 hgg (by have:=hok.1;omega) (by have:=hok.1;omega) (by have:=hok.1;omega) hxa hxb hl64 hok (by have:=h.lt;omega);rw [← hr] at h9;exact h9
     obtain ⟨wj,hwj⟩:∃ wj,wj=wi.alloc (.cells #[.int .i64 x.a,.int .i64 x.b,.int .i64 x.id,.int .i64 x.px,.int .i64 x.py,.int .i64 x.nx,.int .i64 x.ny,.int .i64 x.dep,.int .i64 x.push,.int .i64 x.sli] 106):=⟨_,rfl⟩;obtain ⟨gx,hgx⟩:∃ gx,gx=wi.heap.size:=⟨_,rfl⟩;have hbj:Below wi.heap.size wi wj:=by rw [hwj];go_grown
     have HS5:=hid (wJ hbj HS2.out);have HCG:=hid (show Cg wj gx x by rw [hwj,hgx];exact ⟨by go_simp,by go_simp,by go_simp,by go_simp,by go_simp,by go_simp,by go_simp,by go_simp,by go_simp,by go_simp⟩);clear hbj hx hxm hxa hxb hr hok
     go_upto_region 16 with fail
     rw [← hwj,← hgx];clear hwj hgx d0 d1 d2 d3 d4 d5 d6 d7 d8 d9 hbo;refine wp_region_noPanic ?_;refine au (S:=(S2 (fun w'=>DV w Bz gs g gc cap cc L' C sr R' w'∧Cg w' gx x))) (T:=(fun j=>[0,0,0,0,0,0,0,0,0,0,1,0,0,1].getD j 0)) (by kernel_rfl) (aC ⟨HS5.out.drew,HCG.out.drew⟩) (fun hH=>?_);have hWr10:aH (S2 (fun w'=>DV w Bz gs g gc cap cc L' C sr R' w'∧Cg w' gx x)):=aK _;refine dn [(1,75),(2,76),(3,77),(4,78),(5,79),(6,80),(7,81)] 7 0 0 (L':=?Lr10_1) hWr10 hH ?hyr10_1 ?_
     case hyr10_1=>((iterate 7 apply dA;rfl;kernel_rfl;intro w' hSw;replace hSw:=aA hSw;(try dsimp only at hSw);have q0:=hSw.1;have q1:=hSw.2;have d0_0:=(q0).c0;have d0_1:=(q0).c1;have d0_2:=(q0).c2;obtain ⟨qa1_0,qa1_1,qa1_2,qa1_3,qa1_4,qa1_5,qa1_6,qa1_7,qa1_8,qa1_9⟩:=id q1;(try simp only [sB,sC]);go_simp;(try with_reducible rfl));exact dw)
     simp only [sB,sC];refine Ut 0 74 6 1 0 (v:=?vr10_8) rfl hWr10 hH ?hyr10_8 ?_
     case hyr10_8=>(intro w' hSw;clear hSw;go_simp;try (with_reducible rfl))
     simp only [sB,sC];refine U1 8 0 rfl (fun K hK=>?_)
     try clear hb
     have hG:=hH;replace hG:=aA hG;(try dsimp only at hG);have fq0:=hG.1;have fq1:=hG.2;have HRX:=hid fq0;clear hG fq0 fq1;go_simp
     (go_at_call 115;refine (HROW.out _ HRX.out).mono ?_;rintro e wn ⟨rfl,hb⟩)
     refine hK.out _ _ ?hsr10_9 (fun hH2=>?hrr10_9)
     case hsr10_9=>exact aC (by have hG:=hH;replace hG:=aA hG;(try dsimp only at hG);have q0:=hG.1;have q1:=hG.2;exact ⟨wJ hb q0,jU hb q1⟩)
     clear hK K hH;have hH:=hH2;clear hH2
     try simp only [Act.put,sA,sB,sC]
     clear HRX;refine U1 9 0 rfl (fun K hK=>?_)
     try clear hb
     have hG:=hH;replace hG:=aA hG;(try dsimp only at hG);have fq0:=hG.1;have fq1:=hG.2;go_simp;refine hK.out _ _ ?hsr10_10 (fun hH2=>?hrr10_10)
     case hsr10_10=>exact aC (by have hG:=hH;replace hG:=aA hG;(try dsimp only at hG);have q0:=hG.1;have q1:=hG.2;exact ⟨wJ Ba q0,jU Ba q1⟩)
     clear hK K hH;have hH:=hH2;clear hH2
     try simp only [Act.put,sA,sB,sC]
     clear fq1 hG;refine U1 10 1 rfl (fun K hK=>?_)
     (refine iy OZ (by rfl) _ _ (by rfl) Bz _ _ (by rfl) (fq0.own.alloc _) _ 0 1 1 [r] (by rfl) (by rfl) (BK (by go_simp) (by go_simp) (by go_simp) (by go_simp) (by go_simp) (by go_simp)) (by have:=HRL.out;simp;omega) (by have:=HRL.out;simp;omega) (by have:=fq0.lt.2.2.2.2;simp;omega) ?_;intro sr' w7 ho1 hg1 hat)
     refine hK.out _ _ ?hsr10_11 (fun hH2=>?hrr10_11)
     case hsr10_11=>exact dY
     clear hK K hH;have hH:=hH2;clear hH2
     try simp only [Act.put,List.getElem_toArray,List.getElem_cons_succ,List.getElem_cons_zero,List.setIfInBounds_toArray,List.set_cons_zero,List.set_cons_succ]
     obtain ⟨A2,n2,c2,rfl,-,-⟩:=ho1.sl;have HQ7:=hid (DV.push fq0 (y:=r) (by go_grown) ho1 hg1);clear ho1 hg1 hat fq0;refine dn [(11,85),(12,86)] 1 1 1 (L':=?Lr10_12) hWr10 hH ?hyr10_12 ?_
     case hyr10_12=>((iterate 2 apply dA;rfl;kernel_rfl;intro w' hSw;clear hSw;(try simp only [sB,sC]);go_simp;(try with_reducible rfl));exact dw)
     simp only [sB,sC];refine U1 13 1 rfl (fun K hK=>?_);obtain ⟨y0,yf⟩:=HQ7.out.2;go_simp;refine hK.out _ _ ?hsr10_14 (fun hH2=>?hrr10_14)
     case hsr10_14=>exact dY
     clear hK K hH;have hH:=hH2;clear hH2
     try simp only [Act.put,sA,sB,sC]
     refine ak (by kernel_rfl) ?_ _ _;refine NoPanic.normal ?_;go_wp2;go_roundw
     case rel=>exact ⟨k+1,_,_,by omega,by go_num,HQ7.out.1,HTK.out⟩
     case measure=>simp [intOf] <;> omega
    ·have hkn : k = C.length := by omega
     subst hkn;have hRe:R'=pG (L'.map aF) C st:=by rw [HRQ2.out,List.take_of_length_le (by unfold pG;simp)]
     have hRl:R'.length=C.length:=by rw [hRe];unfold pG;simp
     have hRn:R'≠[]:=fun e=>by rw [e] at hRl;simp at hRl;omega
     obtain ⟨gq,cq,hsre,hcq⟩:∃ gq cq,sr = .slice (some ⟨gq,0,none⟩) R'.length cq∧R'.length≤cq:=by
      rcases HS2.out.own.form with ⟨h1,h2⟩ | ⟨g',cap',hv,h1,h2,h3,h4,h5,h6⟩
      ·exact absurd h2 hRn
      ·exact ⟨g',cap',hv,h3⟩
     subst hsre;have HSR:=hid (DV.done HS2.out hRn)
     have HBN:Hid (∀ r ∈ R',0≤r.bound):=fun r hr=>by
      rw [hRe] at hr;obtain ⟨x,hx,rfl⟩:=List.mem_map.1 hr;exact IE HVL'.out (HCF.out x hx) st
     have HBW:=hid HS2.out.bel;have HLT9:=hid HS2.out.lt;obtain ⟨R,hRR⟩:∃ R,R=R':=⟨_,rfl⟩;have HRZ:Hid (∀ r ∈ R',r.slip=0∧r.ease=0):=hid (fun r hr=>by rw [hRe] at hr;obtain ⟨x,hx,rfl⟩:=List.mem_map.1 hr;exact Gs (by rw [HLM.out];exact mG.2 (HST0.out x hx)) st x);rw [← hRR] at HSR HBN hRl hcq hRe HRZ
     try rw [← hRR]
     have HRL:=hid hRl;have HREQ:=hid hRe;obtain ⟨wB,hwB⟩:∃ wB,wB=wi:=⟨_,rfl⟩;rw [← hwB] at HSR HBW;rw [← hwB];have hcR:R.length=C.length:=hRl
     have HBB:Hid (∀ w',D9 wB w' g gc→Below w.heap.size w w'):=fun w' hg=>by
      have hs:=HBW.out;have l:=HLT9.out;exact ⟨hg.os.trans hs.os,hg.tape.trans hs.tape,hg.output.trans hs.output,Nat.le_trans hs.size hg.size,fun k hk=>(hg.block k (Nat.lt_of_lt_of_le hk hs.size) (by omega) (by omega)).trans (hs.block k hk)⟩
     clear HS2 HRQ2 hRe hRl hRn hRR hwB hlt hk;obtain ⟨Q,hQ⟩:∃ Q,Q=L'.map aF:=⟨_,rfl⟩;have HQL:=hid hQ;have HCQ:Hid (∀ x ∈ C,fT Q.length x):=fun x hx=>by rw [hQ,List.length_map];exact HCF.out x hx
     have HWL:Hid (∀ k,eU Q (iT Q C R k)):=fun k=>uU HCQ.out k
     have k1:=HSR.out.s1;clear hQ;go_wp2
     go_loopw [93] (fun i wr=>∃ (k:Nat) (L2:List BE),k≤C.length∧i = .int .i64 k∧Sr wB gs g gc gq cap cc cq L2 C R wr∧L2.map aF=iT Q C R k∧OQ w.heap.size L2) (fun i _=>C.length-(intOf i).toNat)
     case atStart=>exact ⟨0,L',Nat.zero_le _,rfl,HSR.out,HQL.out.symm,HFR.out⟩
     case round =>
      clear HSR k1;obtain ⟨k,L2,hk,rfl,hsr,hmp,hfr2⟩:=hrel;obtain ⟨wk,rfl⟩:∃ wk:World,wk=wr:=⟨_,rfl⟩;have HSR:=hid hsr;have HMP:=hid hmp;have HFR2:=hid hfr2;clear hsr hmp hfr2;have HLK2:Hid (eU (L'.map aF) (L2.map aF)):=by have h9:=HWL.out k;rw [← HMP.out,HQL.out] at h9;exact h9
      have HV2:=hid (lJ HLK2.out HVL'.out);have hl2:L2.length=L'.length:=by have h9:=HLK2.out.len;rw [List.length_map,List.length_map] at h9;exact h9
      have HL2:=hid hl2;have hl2b:L2.length≤64:=by omega
      clear hl2
      by_cases hlt:k<C.length
      ·obtain ⟨x, hx⟩ : ∃ x, x = C[k] := ⟨_, rfl⟩;have hxm:x ∈ C:=by rw [hx];exact List.getElem_mem hlt
       have hok:fT L2.length x:=by rw [HL2.out];exact HCF.out x hxm
       have hcx:C[k]? = some x:=by rw [List.getElem?_eq_getElem hlt,hx]
       have hkR:k<R.length:=by omega
       obtain ⟨r,hr⟩:∃ r,r=R[k]:=⟨_,rfl⟩;have HR:=hid hr;obtain ⟨d0,d1,d2,d3,d4,d5,d6,d7,d8,d9⟩:=uo (x:=x) HSR.out.cl hlt hcx;have hbo:=HSR.out.cl.lt;have hlt':(k:Int)<(C.length:Int):=by omega
       have hltR:(k:Int)<(R.length:Int):=by omega
       have hkw:IntKind.i64.wrap ((k:Int)+1)=(k:Int)+1:=IntWalk.i64_in _ (by omega);obtain ⟨ka,hxa⟩:∃ ka:Nat,x.a=ka:=⟨x.a.toNat,by have:=hok.1;omega⟩;obtain ⟨kb,hxb⟩:∃ kb:Nat,x.b=kb:=⟨x.b.toNat,by have:=hok.1;omega⟩;obtain ⟨p1,hp1⟩:∃ z,z=aX x.nx x.push:=⟨_,rfl⟩;obtain ⟨p2,hp2⟩:∃ z,z=aX x.ny x.push:=⟨_,rfl⟩;obtain ⟨u1,hu1⟩:∃ z,z=aX r.t1 x.sli:=⟨_,rfl⟩;obtain ⟨u2,hu2⟩:∃ z,z=aX r.t2 x.sli:=⟨_,rfl⟩;obtain ⟨j1,hj1⟩:∃ z,z=bT p1 u1:=⟨_,rfl⟩;obtain ⟨j2,hj2⟩:∃ z,z=bT p2 u2:=⟨_,rfl⟩;have HSC1:=hid (sQ x.nx x.ny x.push);rw [← hp1,← hp2] at HSC1;have HSC2:=hid (sQ r.t1 r.t2 x.sli);rw [← hu1,← hu2] at HSC2;have HAD:=hid (jR p1 p2 u1 u2);rw [← hj1,← hj2] at HAD
       have HPSH:Hid (∀ w',Sr wB gs g gc gq cap cc cq L2 C R w'→Calls Tryz.prog 116 #[.pointer (some ⟨gs,0,none⟩),OO x,aR j1 j2] w' (GY g L2 (sH (L2.map aF) x j1 j2) w')):=fun w' h =>
        DZ cap gs g ka kb L2 x j1 j2 w' h.bl HV2.out h.s0 h.ne.2.1 (by have:=hok.1;omega) (by have:=hok.1;omega) (by have:=hok.1;omega) hxa hxb hl2b (by rw [hj1];exact yx _ _) (by rw [hj2];exact yx _ _)
       have HLK3:=hid (ou (Q:=L2.map aF) (x:=x) (by rw [List.length_map];exact hok) j1 j2)
       have HST:Hid (iT Q C R (k+1)=sH (L2.map aF) x j1 j2):=by
        show _=_;rw [uW (r:=r) hcx (by rw [List.getElem?_eq_getElem hkR,hr]),← HMP.out];unfold zW;rw [← hp1,← hp2,← hu1,← hu2,← hj1,← hj2]
       obtain ⟨wj,hwj⟩:∃ wj,wj=wk.alloc (.cells #[.int .i64 x.a,.int .i64 x.b,.int .i64 x.id,.int .i64 x.px,.int .i64 x.py,.int .i64 x.nx,.int .i64 x.ny,.int .i64 x.dep,.int .i64 x.push,.int .i64 x.sli] 106):=⟨_,rfl⟩;obtain ⟨gx,hgx⟩:∃ gx,gx=wk.heap.size:=⟨_,rfl⟩;have hbj:Below wk.heap.size wk wj:=by rw [hwj];go_grown
       have HSRj:=hid (tL hbj HSR.out);have HCG:=hid (show Cg wj gx x by rw [hwj,hgx];exact ⟨by go_simp,by go_simp,by go_simp,by go_simp,by go_simp,by go_simp,by go_simp,by go_simp,by go_simp,by go_simp⟩);have HKB:=hid hcR;clear hbj hx hxm hxa hxb hr hok hcx hp1 hp2 hu1 hu2 hj1 hj2 hcR HSR
       go_upto_region 21 with fail
       rw [← hwj,← hgx];clear hwj hgx d0 d1 d2 d3 d4 d5 d6 d7 d8 d9 hbo;refine wp_region_noPanic ?_;refine au (S:=(S2 (fun w'=>Sr wB gs g gc gq cap cc cq L2 C R w'∧Cg w' gx x))) (T:=(fun j=>[0,0,0,0,0,0,0,0,0,0,0,0,0,0,0,0,0,0,0,1].getD j 0)) (by kernel_rfl) (aC ⟨HSRj.out.drew,HCG.out.drew⟩) (fun hH=>?_);have hWr11:aH (S2 (fun w'=>Sr wB gs g gc gq cap cc cq L2 C R w'∧Cg w' gx x)):=aK _;refine dn [(0,98),(1,99),(2,100),(3,101),(4,102),(5,103),(7,105),(8,106),(9,107),(10,108),(11,109),(12,110),(13,111),(14,112),(15,113),(16,114)] 4 0 0 (L':=?Lr11_1) hWr11 hH ?hyr11_1 ?_
       case hyr11_1=>((iterate 16 apply dA;rfl;kernel_rfl;intro w' hSw;replace hSw:=aA hSw;(try dsimp only at hSw);have q0:=hSw.1;have q1:=hSw.2;have d0_0:=(q0).s0;have d0_1:=(q0).s1;have d0_2:=(q0).s2;obtain ⟨b0_0,b0_1,b0_2,b0_3,b0_4,b0_5⟩:=C8 (q0).rl hkR HR.out;obtain ⟨qa1_0,qa1_1,qa1_2,qa1_3,qa1_4,qa1_5,qa1_6,qa1_7,qa1_8,qa1_9⟩:=id q1;(try simp only [sB,sC]);go_simp;(try with_reducible rfl));exact dw)
       simp only [sB,sC];refine U1 6 0 rfl (fun K hK=>?_)
       try clear hb
       go_simp
       (go_at_call 117;refine (HSC1.out _).mono ?_;rintro e wn ⟨rfl,hb⟩)
       refine hK.out _ _ ?hsr11_17 (fun hH2=>?hrr11_17)
       case hsr11_17=>exact aC (by have hG:=hH;replace hG:=aA hG;(try dsimp only at hG);have q0:=hG.1;have q1:=hG.2;exact ⟨tL hb q0,jU hb q1⟩)
       clear hK K hH;have hH:=hH2;clear hH2
       try simp only [Act.put,sA,sB,sC]
       refine U1 17 0 rfl (fun K hK=>?_)
       try clear hb
       go_simp
       (go_at_call 117;refine (HSC2.out _).mono ?_;rintro e wn ⟨rfl,hb⟩)
       refine hK.out _ _ ?hsr11_18 (fun hH2=>?hrr11_18)
       case hsr11_18=>exact aC (by have hG:=hH;replace hG:=aA hG;(try dsimp only at hG);have q0:=hG.1;have q1:=hG.2;exact ⟨tL hb q0,jU hb q1⟩)
       clear hK K hH;have hH:=hH2;clear hH2
       try simp only [Act.put,sA,sB,sC]
       refine U1 18 0 rfl (fun K hK=>?_)
       try clear hb
       go_simp
       (go_at_call 89;refine (HAD.out _).mono ?_;rintro e wn ⟨rfl,hb⟩)
       refine hK.out _ _ ?hsr11_19 (fun hH2=>?hrr11_19)
       case hsr11_19=>exact aC (by have hG:=hH;replace hG:=aA hG;(try dsimp only at hG);have q0:=hG.1;have q1:=hG.2;exact ⟨tL hb q0,jU hb q1⟩)
       clear hK K hH;have hH:=hH2;clear hH2
       try simp only [Act.put,sA,sB,sC]
       refine U1 19 1 rfl (fun K hK=>?_)
       try clear hb
       have hG:=hH;replace hG:=aA hG;(try dsimp only at hG);have fq0:=hG.1;have fq1:=hG.2;have HRX:=hid fq0;clear hG fq0 fq1;go_simp
       (go_at_call 116;refine (HPSH.out _ HRX.out).mono ?_;rintro e wp ⟨L3,rfl,hbl3,hm3,hg3,hnw3⟩)
       refine hK.out _ _ ?hsr11_20 (fun hH2=>?hrr11_20)
       case hsr11_20=>exact dY
       clear hK K hH;have hH:=hH2;clear hH2
       try simp only [Act.put,sA,sB,sC]
       have hl3:L3.length=L2.length:=by have h9:=congrArg List.length hm3;rw [List.length_map,HLK3.out.len,List.length_map] at h9;exact h9
       have HSR3:=hid (HRX.out.push hbl3 hl3 hg3 hnw3)
       have HFR3:Hid (OQ w.heap.size L3):=hid (fun y hy bx off e=>by
        rcases hnw3 y hy with q | q
        ·exact HFR2.out y q bx off e
        ·exact Nat.le_trans (HBB.out _ HRX.out.gr).size (q bx off e))
       have HM3:=hid hm3;clear hl3 hbl3 hm3 hg3 hnw3 HRX;refine ak (by kernel_rfl) ?_ _ _;refine NoPanic.normal ?_;go_wp2;go_roundw
       case rel=>exact ⟨k+1,L3,by omega,by go_num,HSR3.out,by rw [HST.out];exact HM3.out,HFR3.out⟩
       case measure=>simp [intOf] <;> omega
      ·have hkn : k = C.length := by omega
       subst hkn;obtain ⟨S0,hS0⟩:∃ S0:List QB × List Ct,S0=(iT Q C R C.length,C):=⟨_,rfl⟩
       have HSOL:Hid (nU (L.map aF) C st rn=lM S0 R C.length (rn*C.length)):=by
        show _=_;unfold nU;rw [← HLM.out,← HREQ.out,← HQL.out,← hS0]
       have HOK0:Hid (∀ m,Lj Q C.length (lM S0 R C.length m)):=fun m=>wZ HBN.out ⟨by rw [hS0];exact HWL.out _,by rw [hS0],by rw [hS0];exact HCQ.out⟩ _ m
       have HM0:Hid ((L2.map aF,C)=lM S0 R C.length (0*C.length)):=by show _=_;rw [Nat.zero_mul,hS0,HMP.out];rfl
       clear hS0 hlt hk;have HKB:=hid hcR;clear hcR;go_wp2
       go_loopw [120] (fun i wr=>∃ (t:Nat) (L4:List BE) (C4:List Ct),t≤rn∧i = .int .i64 t∧Sr wB gs g gc gq cap cc cq L4 C4 R wr∧(L4.map aF,C4)=lM S0 R C.length (t*C.length)∧OQ w.heap.size L4) (fun i _=>rn-(intOf i).toNat)
       case atStart=>exact ⟨0,L2,C,Nat.zero_le _,rfl,HSR.out,HM0.out,HFR2.out⟩
       case round =>
        clear HSR HMP HLK2 HV2 HL2 HM0 hl2b HFR2;obtain ⟨t,L4,C4,ht,rfl,hsr,hit,hfr4⟩:=hrel;obtain ⟨wt,rfl⟩:∃ wt:World,wt=wr:=⟨_,rfl⟩;have HSR4:=hid hsr;have HIT:=hid hit;have HFR4:=hid hfr4;clear hsr hit hfr4;have HOK4:=HOK0.out (t*C.length);rw [← HIT.out] at HOK4;have hc4:C4.length=C.length:=HOK4.len;have hl4:L4.length=L'.length:=by have h9:(L4.map aF).length=Q.length:=HOK4.like.len;rw [HQL.out,List.length_map,List.length_map] at h9;exact h9
        have HL4:Hid (L4.length=L'.length∧C4.length=C.length):=⟨hl4,hc4⟩;clear HOK4 hl4;have htw:IntKind.i64.wrap ((t:Int)+1)=(t:Int)+1:=IntWalk.i64_in _ (by omega)
        by_cases hlt:t<rn
        ·have hlt' : (t : Int) < (rn : Int) := by omega
         have k1:wt.cell? ⟨gs,1,none⟩=some (.slice (some ⟨gc,0,none⟩) C.length cc):=by rw [← hc4];exact HSR4.out.s1
         clear hc4;go_wp2;clear k1
         go_loopw [127] (fun i wr=>∃ (m:Nat) (L5:List BE) (C5:List Ct),m≤C.length∧i = .int .i64 m∧Sr wB gs g gc gq cap cc cq L5 C5 R wr∧(L5.map aF,C5)=lM S0 R C.length (t*C.length+m)∧OQ w.heap.size L5) (fun i _=>C.length-(intOf i).toNat)
         case atStart=>exact ⟨0,L4,C4,Nat.zero_le _,rfl,HSR4.out,by rw [Nat.add_zero];exact HIT.out,HFR4.out⟩
         case round =>
          clear HSR4 HIT HL4 HFR4;obtain ⟨m,L5,C5,hm,rfl,hsr,hit,hfr5⟩:=hrel;obtain ⟨wm,rfl⟩:∃ wm:World,wm=wr:=⟨_,rfl⟩;have HSR5:=hid hsr;have HIT5:=hid hit;have HFR5:=hid hfr5;clear hsr hit hfr5;have hmw:IntKind.i64.wrap ((m:Int)+1)=(m:Int)+1:=IntWalk.i64_in _ (by omega)
          by_cases hltm:m<C.length
          ·have HOK5 := HOK0.out (t * C.length + m);rw [← HIT5.out] at HOK5;have hc5:C5.length=C.length:=HOK5.len;have hlk5:eU (L'.map aF) (L5.map aF):=by have h9:=HOK5.like;rw [HQL.out] at h9;exact h9
           have hv5:=lJ hlk5 HVL'.out;have hl5:L5.length=L'.length:=by have h9:=hlk5.len;rw [List.length_map,List.length_map] at h9;exact h9
           have hm5:m<C5.length:=by omega
           obtain ⟨x,hx⟩:∃ x,x=C5[m]:=⟨_,rfl⟩;have hcx:C5[m]? = some x:=by rw [List.getElem?_eq_getElem hm5,hx]
           have hok:fT L5.length x:=by have h9:=HOK5.ok x (by rw [hx];exact List.getElem_mem hm5);rw [HQL.out,List.length_map] at h9;rw [hl5];exact h9
           have hmR:m<R.length:=by rw [HKB.out];exact hltm
           obtain ⟨r,hr⟩:∃ r,r=R[m]:=⟨_,rfl⟩;obtain ⟨ka,hxa⟩:∃ ka:Nat,x.a=ka:=⟨x.a.toNat,by have:=hok.1;omega⟩;obtain ⟨kb,hxb⟩:∃ kb:Nat,x.b=kb:=⟨x.b.toNat,by have:=hok.1;omega⟩;have HRND:=hid (zh gs g gc gq cap cc cq m ka kb L5 C5 R x r wm HSR5.out.self hv5 (by omega) hok hm5 hcx hmR hr (HBN.out r (by rw [hr];exact List.getElem_mem hmR)) hxa hxb (by omega) hcq (HRZ.out r (by rw [hr];exact List.getElem_mem hmR)))
           have HSTP:Hid (lM S0 R C.length (t*C.length+(m+1))=((jA (L5.map aF) x r).1,C5.set m (jA (L5.map aF) x r).2)):=by
            show _=_;rw [← Nat.add_assoc,Ii S0 R t hltm,← HIT5.out,Dq (S:=(L5.map aF,C5)) (r:=r) hcx (by rw [List.getElem?_eq_getElem hmR,hr])]
           have hltm':(m:Int)<(C.length:Int):=by omega
           clear HOK5 hc5 hlk5 hv5 hl5 hm5 hx hcx hok hmR hr hxa hxb HIT5
           go_wp2_with fail
           refine HRND.out.mono ?_;rintro e wn ⟨L6,C6,rfl,hsr6,hq6,hc6,hnw6⟩
           have HFR6:Hid (OQ w.heap.size L6):=hid (fun y hy bx off e=>by
            rcases hnw6 y hy with q | q
            ·exact HFR5.out y q bx off e
            ·exact Nat.le_trans (HBB.out _ HSR5.out.gr).size (q bx off e))
           have HSR6:=hid (HSR5.out.rebase hsr6);have HIT6:Hid ((L6.map aF,C6)=lM S0 R C.length (t*C.length+(m+1))):=by show _=_;rw [HSTP.out,hq6,hc6]
           clear hsr6 hq6 hc6 HRND HSR5 HSTP hnw6 HFR5;go_wp2;go_roundw
           case rel=>exact ⟨m+1,L6,C6,by omega,by go_num,HSR6.out,HIT6.out,HFR6.out⟩
           case measure=>simp [intOf] <;> omega
          ·have hmn : m = C.length := by omega
           subst hmn;have HIT6:Hid ((L5.map aF,C5)=lM S0 R C.length ((t+1)*C.length)):=by show _=_;rw [HIT5.out,Nat.succ_mul]
           clear HIT5;go_wp2;go_roundw
           case rel=>exact ⟨t+1,L5,C5,by omega,by go_num,HSR5.out,HIT6.out,HFR5.out⟩
           case measure=>simp [intOf] <;> omega
        ·have htn : t = rn := by omega
         subst htn;have HFIN:Hid (qc L C st t=(L4.map aF,C4)):=by show _=_;rw [HRQ.out,HSOL.out,← HIT.out]
         clear hc4 HIT HSOL
         go_upto_region 31 with fail
         refine wp_region_noPanic ?_;refine au (S:=(S2 (fun w'=>Sr wB gs g gc gq cap cc cq L4 C4 R w'))) (T:=(fun _=>0)) (by kernel_rfl) (aC HSR4.out.drew) (fun hH=>?_);have hWr12:aH (S2 (fun w'=>Sr wB gs g gc gq cap cc cq L4 C4 R w')):=aK _;refine dn [(0,135),(1,136),(2,137),(3,138),(4,139),(5,140),(6,141),(7,142),(8,8),(9,9),(10,10)] 0 0 0 (L':=?Lr12_1) hWr12 hH ?hyr12_1 ?_
         case hyr12_1=>((iterate 11 apply dA;rfl;kernel_rfl;intro w' hSw;replace hSw:=aA hSw;(try dsimp only at hSw);have q0:=hSw;have d0_0:=(q0).s0;have d0_1:=(q0).s1;have d0_2:=(q0).s2;(try simp only [sB,sC]);go_simp;(try with_reducible rfl));exact dw)
         simp only [sB,sC];refine ak (by kernel_rfl) ?_ _ _;refine NoPanic.normal ?_;clear hWr12;replace hH:=aA hH
         (try dsimp only at hH)
         have t0:=hH;have HSR5:=hid t0;clear t0 hH;go_wp2;exact bodyPost_ret (v:=.tuple #[.slice (some ⟨g,0,none⟩) L4.length cap,.slice (some ⟨gc,0,none⟩) C4.length cc,.int .i64 0]) (by simp [results,Tryz.results49,go_sem]) rfl ⟨some ⟨g,0,none⟩,some ⟨gc,0,none⟩,L4.length,cap,C4.length,cc,L4,by rw [HRE.out],⟨⟨rfl,by rw [HL4.out.1];exact hcap1,by unfold maxLen at hcap2;omega,fun _=>⟨g,0,rfl,HSR5.out.bl.cl⟩⟩,HSR5.out.bl.co⟩,by rw [HFIN.out];exact ⟨rfl,by rw [HL4.out.2];exact hccap,hcbig,fun _=>⟨gc,0,rfl,HSR5.out.cl⟩⟩,by rw [HFIN.out],HBB.out _ HSR5.out.gr,fun b off e=>by cases e;exact HGF.out.1,HFR4.out,fun b off e=>by cases e;exact HGF.out.2⟩
end
end Go.Proofs.YtokgmcomgflloaaGreat
