/- Parts of a proof: contracts and laws. -/
import Derived.Test.YtokgmcomgflloaaGreatQP37
import Derived.Test.YtokgmcomgflloaaGreatQP03
set_option maxRecDepth 100000
set_option maxHeartbeats 16000000
namespace Go.Proofs.YtokgmcomgflloaaGreat
section
set_option linter.unusedVariables false
set_option linter.unusedSimpArgs false
open Go.RowKit

structure MW (w5 : World) (gT : Nat) (s : Value) (o : List V) (u v : Int) (w : World) : Prop where
 t0:w.cell? ⟨gT,0,none⟩=some (.int .i64 u)
 t1:w.cell? ⟨gT,1,none⟩=some (.int .i64 v)
 tf:∀ j,w.frozen? ⟨gT,j,none⟩=false
 own:Own w (gT+1) s o
 bel:Below w5.heap.size w5 w
 le:w5.heap.size≤gT
theorem MW.keep {w5:World} {gT:Nat} {s:Value} {o:List V} {u v:Int} {w w':World} (hb:Below w.heap.size w w') (h:MW w5 gT s o u v w):MW w5 gT s o u v w' :=
 ⟨keepCell hb h.t0,keepCell hb h.t1,fun j=>((cO hb).2 _ _ (lt_of_cell h.t0)).trans (h.tf j),h.own.below hb,aj hb h.bel,h.le⟩
theorem MW.drew {w5:World} {gT:Nat} {s:Value} {o:List V} {u v:Int} {w:World} (h:MW w5 gT s o u v w):MW w5 gT s o u v w.drew:=h.keep (Below.refl _ _).drew
theorem MW.app {w5:World} {gT:Nat} {s s':Value} {o o':List V} {u v:Int} {w w':World} {ob:Obj} (h:MW w5 gT s o u v w) (ho:Own w' (gT+1) s' o') (hb:Below (gT+1) (w.alloc ob) w'):MW w5 gT s' o' u v w' :=
 have h2:=h.keep ((Below.refl _ _).alloc (Nat.le_refl _) ob)
 ⟨((cO hb).1 _ _ (Nat.lt_succ_self gT)).trans h2.t0,((cO hb).1 _ _ (Nat.lt_succ_self gT)).trans h2.t1,fun j=>((cO hb).2 _ _ (Nat.lt_succ_self gT)).trans (h2.tf j),ho,h2.bel.trans (hb.mono (Nat.le_succ_of_le h.le)),h.le⟩
theorem MW.set {w5:World} {gT:Nat} {s:Value} {o:List V} {u v:Int} {w:World} (h:MW w5 gT s o u v w) (u' v':Int):MW w5 gT s o u' v' ((w.setCell ⟨gT,0,none⟩ (.int .i64 u')).setCell ⟨gT,1,none⟩ (.int .i64 v')):=by
 obtain ⟨t0,t1,tf,own,bel,le⟩:=h;exact ⟨by go_simp,by go_simp,fun j=>by go_simp,(own.kept (aT _ gT 0 _) (fun k e=>by cases e;exact Nat.lt_succ_self _)).kept (aT _ gT 1 _) (fun k e=>by cases e;exact Nat.lt_succ_self _),(bel.setCell (p:=⟨gT,0,none⟩) le _).setCell (p:=⟨gT,1,none⟩) le _,le⟩

def P5 (l:List V) (er:Int) (w:World) (e:Ending) (w':World):Prop:=∃ A n c,e = .returned (.tuple #[.slice A n c,.int .i64 er])∧Sl w' A n c l∧(∀ b off,A=some ⟨b,off,none⟩→w.heap.size≤b)∧Below w.heap.size w w'
theorem Ae (A B:Option Addr) (n c0 n' c':Nat) (a b:List V) (w:World) (hS:Sl w A n c0 a) (hM:Sl w B n' c' b) :
  Calls Tryz.prog 86 #[.slice A n c0,.slice B n' c'] w (P5 (bX a b) (iY a b) w):=by
 have HS:=hid hS;have HM:=hid hM;have hn:=hS.len;have hn':=hM.len;subst hn hn';clear hS hM
 go_enter Tryz.func86,Tryz.ntmps86
 go_wp2_with fail
 refine (fZ A a.length c0 a _ HS.out).mono ?_;rintro e w1 ⟨rfl,hb1⟩
 by_cases hE:aP a=0
 ·have HEa := hid hE;rw [hE];clear hE
  go_wp2_with fail
  refine (fZ B b.length c' b _ (HM.out.below hb1)).mono ?_;rintro e w2 ⟨rfl,hb2⟩;have hB2:=aj hb2 hb1;clear hb1 hb2
  by_cases hE:aP b=0
  ·obtain ⟨b8, b3, bw, -⟩ := aU hE;obtain ⟨a8,a3,aw,-⟩:=aU HEa.out;have HAW:=hid aw;have HBW:=hid bw
   have HR:Hid (iY a b=0∧bX a b=jD a (negL b) (fC a) (fC (negL b)) (a.length+(negL b).length) 0 0):=by
    have h:iY a b=0:=by unfold iY;rw [if_neg (by simp [HEa.out]),hE]
    exact ⟨h,by unfold bX;rw [if_pos h]⟩
   rw [hE];clear hE HEa aw bw;go_wp2
   go_loopw [8,34] (fun s j wr=>∃ k:Nat,k≤b.length∧j = .int .i64 k∧Own wr w.heap.size s (negL (b.take k))∧Below w.heap.size w wr) (fun _ j _=>b.length-(intOf j).toNat)
   case atStart=>exact ⟨0,Nat.zero_le _,rfl,Own.nil _ _,hB2⟩
   case round =>
    obtain ⟨k,hk,rfl,hown,hB⟩:=hrel;obtain ⟨wo,rfl⟩:∃ wo:World,wo=wr:=⟨_,rfl⟩;have HO:=hid hown;clear hown hB2
    by_cases hlt:k<b.length
    ·have hlt' : (k : Int) < (b.length : Int) := by omega
     obtain ⟨bb,off,hA,hC⟩:=(HM.out.below hB).at_ (by intro h;subst h;simp at hlt);subst hA;have hx:=hC.x k hlt;have hy:=hC.y k hlt;have hbo:=hC.lt;have hsz:=hB.size;obtain ⟨_,_,_,_⟩:=aA.1 (aD HBW.out hlt);have u1:IntKind.i64.wrap (-px b k) = -px b k:=IntWalk.i64_in _ (by omega);have u2:IntKind.i64.wrap (-py b k) = -py b k:=IntWalk.i64_in _ (by omega);clear hC
     go_wp2_with (at_builtin;refine dL rfl _ _ rfl w.heap.size _ _ rfl ((HO.out.alloc _).alloc _) (wo.heap.size+1) 0 1 1 [(-px b k,-py b k)] rfl rfl (cells_one (by go_simp) (by go_simp)) (by rw [fD,List.length_take,List.length_singleton];omega) (by simp;omega) ?_;intro v' w1 ho1 hg1;have HO1:=hid ho1;have hb1:=Own.grown ((HO.out.alloc _).alloc _) hg1 (by simp;omega);clear ho1 hg1)
     have hB1:Below w.heap.size w w1:=((hB.alloc (by omega) _).alloc (by simp;omega) _).trans hb1;go_roundw
     case rel =>
      refine ⟨k+1,hlt,by go_num,?_,hB1⟩;rw [List.take_succ_eq_append_getElem hlt,negL,List.map_append,List.map_singleton,wu hlt];exact HO1.out
     case measure=>simp [intOf];omega
    ·have hge : b.length ≤ k := by omega
     obtain ⟨A',n',c2,rfl,hs,hf⟩:=HO.out.sl;rw [List.take_of_length_le hge] at hs;have hn2:=hs.len;subst hn2;have HC2:=hid hs;clear hf HO hs;obtain ⟨c,hc⟩:∃ c,c=negL b:=⟨_,rfl⟩;have HCW:Hid (aF 65536000 c=true):=by show _=_;rw [hc];exact nW HBW.out
     rw [← hc] at HC2 HR ⊢;have HCL:=hid (show c.length=b.length by rw [hc,fD]);have c3:3≤c.length:=by have:=HCL.out;omega
     have c8:c.length≤8:=by have:=HCL.out;omega
     clear hc
     go_wp2_with fail
     refine (rA A a.length c0 a _ (HS.out.below hB) (by omega)).mono ?_;rintro e w4 ⟨rfl,hb4⟩
     go_wp2_with fail
     refine (rA A' c.length c2 c _ (HC2.out.below hb4) (by omega)).mono ?_;rintro e w5 ⟨rfl,hb5⟩;obtain ⟨i,hi⟩:∃ i,i=fC a:=⟨_,rfl⟩;obtain ⟨k2,hk2⟩:∃ k,k=fC c:=⟨_,rfl⟩;have hil:i<a.length:=by rw [hi];exact jW a _ (by omega) (Nat.le_refl _)
     have hkl:k2<c.length:=by rw [hk2];exact jW c _ (by omega) (Nat.le_refl _)
     rw [← hi,← hk2] at HR;rw [← hi,← hk2];clear hi hk2;have hB5:=aj hb5 (aj hb4 hB);have HSA:=hid (HS.out.below hB5);have HSC:=hid ((HC2.out.below hb4).below hb5);clear hb4 hb5 HC2 HM hB hk hge hlt
     go_upto_region 14 with fail
     obtain ⟨ba,oa,hA,hCa⟩:=HSA.out.at_ (by intro h;rw [h] at hil;simp at hil);obtain ⟨bc,oc,hA',hCc⟩:=HSC.out.at_ (by intro h;rw [h] at hkl;simp at hkl);subst hA hA';have xi:=hCa.x i hil;have yi:=hCa.y i hil;have xk:=hCc.x k2 hkl;have yk:=hCc.y k2 hkl;have hil':(i:Int)<(a.length:Int):=by omega
     have hkl':(k2:Int)<(c.length:Int):=by omega
     obtain ⟨_,_,_,_⟩:=aA.1 (aD HAW.out hil);obtain ⟨_,_,_,_⟩:=aA.1 (aD HCW.out hkl);have wx0:IntKind.i64.wrap (px a i+px c k2)=px a i+px c k2:=IntWalk.i64_in _ (by omega);have wy0:IntKind.i64.wrap (py a i+py c k2)=py a i+py c k2:=IntWalk.i64_in _ (by omega)
     have HM0:Hid (yN a c i k2 0 0=px a i+px c k2∧yJ a c i k2 0 0=py a i+py c k2):=by
      show _∧_;unfold yN yJ;rw [Nat.add_zero,Nat.add_zero,Nat.mod_eq_of_lt hil,Nat.mod_eq_of_lt hkl];exact ⟨rfl,rfl⟩
     clear hCa hCc;refine wp_region_noPanic ?_;refine au (S:=(S2 (fun w'=>w'.cell? ⟨ba,oa+i*2,none⟩=some (.int .i64 (px a i))∧w'.cell? ⟨ba,oa+i*2+1,none⟩=some (.int .i64 (py a i))∧w'.cell? ⟨bc,oc+k2*2,none⟩=some (.int .i64 (px c k2))∧w'.cell? ⟨bc,oc+k2*2+1,none⟩=some (.int .i64 (py c k2))∧Below w5.heap.size w5 w'))) (T:=(fun j=>[0,0,0,0,0,0,0,0,0,0,0,0,0,0,0,0,0,0,0,0,0,0,0,0,1].getD j 0)) (by kernel_rfl) (aK ⟨xi,yi,xk,yk,(Below.refl _ _).drew⟩) (fun hH=>?_);have hWr1:aG (S2 (fun w'=>w'.cell? ⟨ba,oa+i*2,none⟩=some (.int .i64 (px a i))∧w'.cell? ⟨ba,oa+i*2+1,none⟩=some (.int .i64 (py a i))∧w'.cell? ⟨bc,oc+k2*2,none⟩=some (.int .i64 (px c k2))∧w'.cell? ⟨bc,oc+k2*2+1,none⟩=some (.int .i64 (py c k2))∧Below w5.heap.size w5 w')):=aI _;refine dG [(0,53),(1,54),(2,55),(3,56),(4,57),(5,58),(6,59),(7,60),(8,61),(9,62),(10,63),(11,64),(12,65),(13,66),(14,67),(15,68),(16,69),(17,70),(18,71),(19,72),(20,73),(21,74),(22,75)] 2 0 0 (L':=?Lr1_1) hWr1 hH ?hyr1_1 ?_
     case hyr1_1=>((iterate 23 apply dF;rfl;kernel_rfl;intro w' hSw;replace hSw:=aB hSw;(try dsimp only at hSw);have q0:=hSw.1;have q1:=hSw.2.1;have q2:=hSw.2.2.1;have q3:=hSw.2.2.2.1;have q4:=hSw.2.2.2.2;(try simp only [sB,sC]);go_simp;(try with_reducible rfl));exact dD)
     simp only [sB,sC];refine U1 23 0 rfl (fun K hK=>?_)
     try clear hb
     have hG:=hH;replace hG:=aB hG;(try dsimp only at hG);have q0:=hG.1;have q1:=hG.2.1;have q2:=hG.2.2.1;have q3:=hG.2.2.2.1;have q4:=hG.2.2.2.2;go_simp;refine hK.out _ _ ?hsr1_24 (fun hH2=>?hrr1_24)
     case hsr1_24=>exact aK (by have hG:=hH;replace hG:=aB hG;(try dsimp only at hG);have q0:=hG.1;have q1:=hG.2.1;have q2:=hG.2.2.1;have q3:=hG.2.2.2.1;have q4:=hG.2.2.2.2;exact ⟨keepCell Ba q0,keepCell Ba q1,keepCell Ba q2,keepCell Ba q3,q4.alloc q4.size _⟩)
     clear hK K hH;have hH:=hH2;clear hH2
     try simp only [Act.put,sA,sB,sC]
     have hT:VZ ((w5.alloc (.cells #[.int .i64 0,.int .i64 0] 24)).drew) w5.heap.size:=VZ.drew (VZ.here _ _ _ _);obtain ⟨gT,hgT⟩:∃ g,g=w5.heap.size:=⟨_,rfl⟩;have hlT:w5.heap.size≤gT:=by rw [hgT];exact Nat.le_refl _
     rw [← hgT] at hT
     try rw [← hgT]
     clear hgT q0 q1 q2 q3 q4;generalize (w5.alloc (.cells #[.int .i64 0,.int .i64 0] 24)).drew=wx23 at *
     refine U1 24 1 rfl (fun K hK=>?_);have hG:=hH;replace hG:=aB hG;(try dsimp only at hG);have q0:=hG.1;have q1:=hG.2.1;have q2:=hG.2.2.1;have q3:=hG.2.2.2.1;have q4:=hG.2.2.2.2;have HB6:=hid q4;obtain ⟨⟨z0,z1,y0,y1⟩,yf⟩:=hT;go_simp;refine hK.out _ _ ?hsr1_25 (fun hH2=>?hrr1_25)
     case hsr1_25=>exact gV
     clear hK K hH;have hH:=hH2;clear hH2
     try simp only [Act.put,sA,sB,sC]
     refine ak (by kernel_rfl) ?_ _ _;refine NoPanic.normal ?_;have hgl:=hlT
     have HMW:Hid (MW w5 gT (.slice none 0 0) [] (yN a c i k2 0 0) (yJ a c i k2 0 0) ((wx23.setCell ⟨gT,0,none⟩ (.int .i64 (px a i+px c k2))).setCell ⟨gT,1,none⟩ (.int .i64 (py a i+py c k2)))):=by
      show MW _ _ _ _ _ _ _;rw [HM0.out.1,HM0.out.2];exact ⟨by go_simp,by go_simp,fun j=>by go_simp,Own.nil _ _,(HB6.out.setCell (p:=⟨gT,0,none⟩) hgl _).setCell (p:=⟨gT,1,none⟩) hgl _,hgl⟩
     have hRR:=HR.out;rw [HCL.out] at hRR
     go_upto_region 15 with fail
     generalize (wx23.setCell ⟨gT,0,none⟩ (.int .i64 (px a i+px c k2))).setCell ⟨gT,1,none⟩ (.int .i64 (py a i+py c k2))=w6 at *
     clear y0 y1 yf HB6 HM0 xi yi xk yk wx0 wy0;go_wp2
     go_loopw [14,15,16] (fun s j1 j2 wr=>∃ (x y f:Nat) (o:List V),x≤a.length∧y≤c.length∧a.length+c.length≤x+y+f∧j1 = .int .i64 x∧j2 = .int .i64 y∧o.length≤x+y∧o ++ jD a c i k2 f x y=jD a c i k2 (a.length+c.length) 0 0∧MW w5 gT s o (yN a c i k2 x y) (yJ a c i k2 x y) wr) (fun _ j1 j2 _=>a.length+c.length-(intOf j1).toNat-(intOf j2).toNat)
     case atStart=>exact ⟨0,0,a.length+c.length,[],by omega,by omega,by omega,rfl,rfl,by simp,rfl,HMW.out⟩
     case round =>
      clear HMW;obtain ⟨x,y,f,o,hx,hy,hf,rfl,rfl,hol,htot,hmw⟩:=hrel;obtain ⟨wo,rfl⟩:∃ wo:World,wo=wr:=⟨_,rfl⟩;have HTOT:=hid htot;have HOL:=hid hol;have HO:=hid hmw;clear htot hol hmw;obtain ⟨u,hu⟩:∃ u,u=yN a c i k2 x y:=⟨_,rfl⟩;obtain ⟨v,hv⟩:∃ v,v=yJ a c i k2 x y:=⟨_,rfl⟩;rw [← hu,← hv] at HO;have bu:=uS HAW.out HCW.out (by omega) (by omega) i k2 x y;rw [← hu,← hv] at bu;obtain ⟨be1,be2⟩:=KX HAW.out (by omega) i x;obtain ⟨bf1,bf2⟩:=KX HCW.out (by omega) k2 y;obtain ⟨ex,hex⟩:∃ z,z=mM a i x:=⟨_,rfl⟩;obtain ⟨ey,hey⟩:∃ z,z=nG a i x:=⟨_,rfl⟩;obtain ⟨fx,hfx⟩:∃ z,z=mM c k2 y:=⟨_,rfl⟩;obtain ⟨fy,hfy⟩:∃ z,z=nG c k2 y:=⟨_,rfl⟩;rw [← hex] at be1;rw [← hey] at be2;rw [← hfx] at bf1;rw [← hfy] at bf2;obtain ⟨T,hTT⟩:∃ T,T=Tc a c i k2 x y:=⟨_,rfl⟩;obtain ⟨t0,t1,-,-,-,-⟩:=HO.out;have hg2:=lt_of_cell t0
      rcases (show (x<a.length∧y<c.length∧0<T)∨(x<a.length∧y<c.length∧T=0)∨(x<a.length∧y<c.length∧T<0)∨(x<a.length∧y=c.length)∨(x=a.length∧y<c.length)∨(x=a.length∧y=c.length) by omega) with ⟨hxl,hyl,hTs⟩ | ⟨hxl,hyl,hTs⟩ | ⟨hxl,hyl,hTs⟩ | ⟨hxl,hye⟩ | ⟨hxe,hyl⟩ | ⟨hxe,hye⟩
      ·skip
       have hxi:(x:Int)<(a.length:Int):=by omega
       have hxne:((x:Int) == (a.length:Int))=false:=by simp;omega
       have hyi:(y:Int)<(c.length:Int):=by omega
       have hyne:((y:Int) == (c.length:Int))=false:=by simp;omega
       have hT2:¬ T≤0:=by omega
       have hT3:0≤T:=by omega
       have hF:JY a c i k2 x y=true:=by unfold JY;rw [← hTT];simp <;> omega
       have hS2:JL a c i k2 x y=false:=by unfold JL;rw [← hTT];simp <;> omega
       obtain ⟨f',rfl⟩:∃ f',f=f'+1:=⟨f-1,by omega⟩;have HGO:Hid (jD a c i k2 (f'+1) x y=(u,v) :: jD a c i k2 f' (x+1) y):=by show _=_;rw [jD,if_pos (by omega),hF,hS2,← hu,← hv];rfl
       have HUE:=hid (And.intro hu hv);have HU1:Hid (yN a c i k2 (x+1) y=u+ex∧yJ a c i k2 (x+1) y=v+ey):=by show _∧_;rw [M4,M9,← hu,← hv,← hex,← hey];exact ⟨rfl,rfl⟩
       have bu1:=uS HAW.out HCW.out (by omega) (by omega) i k2 (x+1) y;rw [HU1.out.1,HU1.out.2] at bu1;have wu1:IntKind.i64.wrap (u+ex)=u+ex:=IntWalk.i64_in _ (by omega);have wv1:IntKind.i64.wrap (v+ey)=v+ey:=IntWalk.i64_in _ (by omega);have wx1:IntKind.i64.wrap ((x:Int)+1)=(x:Int)+1:=IntWalk.i64_in _ (by omega);have HED:=hid (And.intro (And.intro hex hey) (And.intro hfx hfy));have HTX:=hid hTT;have HEA:=hid (fun w' (h:Below w5.heap.size w5 w')=>gD (some ⟨ba,oa,none⟩) a.length c0 a i x w' (HSA.out.below h) HAW.out a3 a8 hil (by omega));have HEC:=hid (fun w' (h:Below w5.heap.size w5 w')=>gD (some ⟨bc,oc,none⟩) c.length c2 c k2 y w' (HSC.out.below h) HCW.out c3 c8 hkl (by omega));rw [← hex,← hey] at HEA;rw [← hfx,← hfy] at HEC;have HCR:=hid (iL ex ey fx fy (by omega) (by omega) (by omega) (by omega));have HTZ:Hid (qO ex ey fx fy=T):=by show _=_;rw [hTT,hex,hey,hfx,hfy];rfl
       rw [HTZ.out] at HCR;clear hu hv hex hey hfx hfy hTT hF hS2
       go_wp2_with (at_builtin;refine dL rfl _ _ rfl (gT+1) _ _ rfl (HO.out.own.alloc _) wo.heap.size 0 1 1 [(u,v)] rfl rfl (cells_one (by go_simp) (by go_simp)) (by have:=HOL.out;simp;omega) (by simp;omega) ?_;intro v' w7 ho1 hg1;have HO1:=hid ho1;have hb1:=Own.grown (HO.out.own.alloc _) hg1 (by simp;omega);clear ho1 hg1)
       have HM7:=hid (HO.out.app HO1.out hb1);clear HO HO1 hb1;refine (HEA.out _ HM7.out.bel).mono ?_;rintro e w8 ⟨rfl,hb8⟩;have HM8:=hid (HM7.out.keep hb8);clear HM7 hb8
       go_wp2_with fail
       refine (HEC.out _ HM8.out.bel).mono ?_;rintro e w9 ⟨rfl,hb9⟩;have HM9:=hid (HM8.out.keep hb9);clear HM8 hb9 HEA HEC
       go_upto_region 20 with fail
       obtain ⟨ge,hge⟩:∃ g,g=w9.heap.size:=⟨_,rfl⟩;obtain ⟨w10,hw10⟩:∃ w10,w10=(w9.alloc (.cells #[.int .i64 ex,.int .i64 ey] 24)).alloc (.cells #[.int .i64 fx,.int .i64 fy] 24):=⟨_,rfl⟩;have c0:w10.cell? ⟨ge,0,none⟩=some (.int .i64 ex):=by rw [hw10,hge];go_simp
       have c1:w10.cell? ⟨ge,1,none⟩=some (.int .i64 ey):=by rw [hw10,hge];go_simp
       have d0:w10.cell? ⟨ge+1,0,none⟩=some (.int .i64 fx):=by rw [hw10,hge];go_simp
       have d1:w10.cell? ⟨ge+1,1,none⟩=some (.int .i64 fy):=by rw [hw10,hge];go_simp
       have HM10:=hid (show MW w5 gT v' (o ++ [(u,v)]) u v w10 by rw [hw10];exact (HM9.out.keep Ba).keep Ba);have hgge:gT<ge:=by rw [hge];exact lt_of_cell HM9.out.t0
       rw [← hw10,← hge];clear hw10 hge HM9
       go_wp2_with fail
       refine (HCR.out _).mono ?_;rintro e w11 ⟨rfl,hb11⟩;replace c0:=keepCell hb11 c0;replace c1:=keepCell hb11 c1;replace d0:=keepCell hb11 d0;replace d1:=keepCell hb11 d1;have HMa:=hid (HM10.out.keep hb11);clear HM10 hb11 HCR;have hn1:¬ gT=ge:=by omega
       have hn2:¬ ge=gT:=by omega
       have hn3:¬ gT=ge+1:=by omega
       have hn4:¬ ge+1=gT:=by omega
       have tf:=HMa.out.tf
       go_wp2_with fail
       refine wp_region_noPanic ?_;refine au (S:=(S3 (fun w'=>w'.cell? ⟨gT,0,none⟩=some (.int .i64 u)∧w'.cell? ⟨gT,1,none⟩=some (.int .i64 v)∧w'.cell? ⟨ge,0,none⟩=some (.int .i64 ex)∧w'.cell? ⟨ge,1,none⟩=some (.int .i64 ey)) (fun w'=>w'.cell? ⟨ge,1,none⟩=some (.int .i64 ey)))) (T:=(fun j=>[0,0,0,0,0,0,0,0,0,0,0,0,0,1,0,2].getD j 0)) (by kernel_rfl) (qL ⟨HMa.out.t0,HMa.out.t1,c0,c1⟩) (fun hH=>?_);have hWr2:aG (S3 (fun w'=>w'.cell? ⟨gT,0,none⟩=some (.int .i64 u)∧w'.cell? ⟨gT,1,none⟩=some (.int .i64 v)∧w'.cell? ⟨ge,0,none⟩=some (.int .i64 ex)∧w'.cell? ⟨ge,1,none⟩=some (.int .i64 ey)) (fun w'=>w'.cell? ⟨ge,1,none⟩=some (.int .i64 ey))):=jL (fun _ ⟨q0,q1,q2,q3⟩=>q3);refine dG [(0,130),(1,131),(2,132),(3,133),(4,134),(5,135),(6,136),(12,142)] 9 0 0 (L':=?Lr2_1) hWr2 hH ?hyr2_1 ?_
       case hyr2_1=>((iterate 8 apply dF;rfl;kernel_rfl;intro w' hSw;replace hSw:=jf hSw;(try dsimp only at hSw);have q0:=hSw.1;have q1:=hSw.2.1;have q2:=hSw.2.2.1;have q3:=hSw.2.2.2;(try simp only [sB,sC]);go_simp;(try with_reducible rfl));exact dD)
       simp only [sB,sC];refine dG [(7,137),(8,138),(9,139)] 6 1 0 (L':=?Lr2_9) hWr2 hH ?hyr2_9 ?_
       case hyr2_9=>((iterate 3 apply dF;rfl;kernel_rfl;intro w' hSw;replace hSw:=xW hSw;(try dsimp only at hSw);have q3:=hSw;(try simp only [sB,sC]);go_simp;(try with_reducible rfl));exact dD)
       simp only [sB,sC];refine dG [(10,140),(11,141)] 4 2 0 (L':=?Lr2_12) hWr2 hH ?hyr2_12 ?_
       case hyr2_12=>((iterate 2 apply dF;rfl;kernel_rfl;intro w' hSw;clear hSw;(try simp only [sB,sC]);go_simp;(try with_reducible rfl));exact dD)
       simp only [sB,sC];refine U1 13 1 rfl (fun K hK=>?_);have hG:=hH;replace hG:=jf hG;(try dsimp only at hG);have q0:=hG.1;have q1:=hG.2.1;have q2:=hG.2.2.1;have q3:=hG.2.2.2;clear hG;go_simp;refine hK.out _ _ ?hsr2_14 (fun hH2=>?hrr2_14)
       case hsr2_14=>exact xB (by show World.cell? _ _=_;go_simp)
       clear hK K hH;have hH:=hH2;clear hH2
       try simp only [Act.put,sA,sB,sC]
       refine Ut 14 143 2 1 1 (v:=?vr2_15) rfl hWr2 hH ?hyr2_15 ?_
       case hyr2_15=>(intro w' hSw;clear hSw;go_simp;try (with_reducible rfl))
       simp only [sB,sC];refine U1 15 2 rfl (fun K hK=>?_);have x1:=HMa.out.t1;go_simp;refine hK.out _ _ ?hsr2_16 (fun hH2=>?hrr2_16)
       case hsr2_16=>exact yS
       clear hK K hH;have hH:=hH2;clear hH2
       try simp only [Act.put,sA,sB,sC]
       refine Ut 16 15 0 2 2 (v:=?vr2_17) rfl hWr2 hH ?hyr2_17 ?_
       case hyr2_17=>(intro w' hSw;clear hSw;go_simp;try (with_reducible rfl))
       simp only [sB,sC];refine ak (by kernel_rfl) ?_ _ _;refine NoPanic.normal ?_;clear x1;clear hWr2;have HMb:=hid ((HMa.out.set (u+ex) (v+ey)).drew);clear HMa c0 c1 d0 d1 tf;generalize ((w11.setCell ⟨gT,0,none⟩ (.int .i64 (u+ex))).setCell ⟨gT,1,none⟩ (.int .i64 (v+ey))).drew=w12 at *
       go_wp2;go_roundw
       case rel=>exact ⟨(x+1),y,f',o ++ [(u,v)],by omega,by omega,by omega,by go_num,by go_num,by have:=HOL.out;simp;omega,by rw [List.append_assoc,List.singleton_append,← HGO.out];exact HTOT.out,by rw [HU1.out.1,HU1.out.2];exact HMb.out⟩
       case measure=>simp [intOf];omega
      ·skip
       have hxi:(x:Int)<(a.length:Int):=by omega
       have hxne:((x:Int) == (a.length:Int))=false:=by simp;omega
       have hyi:(y:Int)<(c.length:Int):=by omega
       have hyne:((y:Int) == (c.length:Int))=false:=by simp;omega
       have hT2:T≤0:=by omega
       have hT3:0≤T:=by omega
       have hF:JY a c i k2 x y=true:=by unfold JY;rw [← hTT];simp <;> omega
       have hS2:JL a c i k2 x y=true:=by unfold JL;rw [← hTT];simp <;> omega
       obtain ⟨f',rfl⟩:∃ f',f=f'+1:=⟨f-1,by omega⟩;have HGO:Hid (jD a c i k2 (f'+1) x y=(u,v) :: jD a c i k2 f' (x+1) (y+1)):=by show _=_;rw [jD,if_pos (by omega),hF,hS2,← hu,← hv];rfl
       have HUE:=hid (And.intro hu hv);have HU1:Hid (yN a c i k2 (x+1) y=u+ex∧yJ a c i k2 (x+1) y=v+ey):=by show _∧_;rw [M4,M9,← hu,← hv,← hex,← hey];exact ⟨rfl,rfl⟩
       have bu1:=uS HAW.out HCW.out (by omega) (by omega) i k2 (x+1) y;rw [HU1.out.1,HU1.out.2] at bu1;have wu1:IntKind.i64.wrap (u+ex)=u+ex:=IntWalk.i64_in _ (by omega);have wv1:IntKind.i64.wrap (v+ey)=v+ey:=IntWalk.i64_in _ (by omega);have wx1:IntKind.i64.wrap ((x:Int)+1)=(x:Int)+1:=IntWalk.i64_in _ (by omega);have HU2:Hid (yN a c i k2 (x+1) (y+1)=(u+ex)+fx∧yJ a c i k2 (x+1) (y+1)=(v+ey)+fy):=by show _∧_;rw [MB,MZ,HU1.out.1,HU1.out.2,← hfx,← hfy];exact ⟨rfl,rfl⟩
       have bu2:=uS HAW.out HCW.out (by omega) (by omega) i k2 (x+1) (y+1);rw [HU2.out.1,HU2.out.2] at bu2;have wu2:IntKind.i64.wrap ((u+ex)+fx)=(u+ex)+fx:=IntWalk.i64_in _ (by omega);have wv2:IntKind.i64.wrap ((v+ey)+fy)=(v+ey)+fy:=IntWalk.i64_in _ (by omega);have wy1:IntKind.i64.wrap ((y:Int)+1)=(y:Int)+1:=IntWalk.i64_in _ (by omega);have HED:=hid (And.intro (And.intro hex hey) (And.intro hfx hfy));have HTX:=hid hTT;have HEA:=hid (fun w' (h:Below w5.heap.size w5 w')=>gD (some ⟨ba,oa,none⟩) a.length c0 a i x w' (HSA.out.below h) HAW.out a3 a8 hil (by omega));have HEC:=hid (fun w' (h:Below w5.heap.size w5 w')=>gD (some ⟨bc,oc,none⟩) c.length c2 c k2 y w' (HSC.out.below h) HCW.out c3 c8 hkl (by omega));rw [← hex,← hey] at HEA;rw [← hfx,← hfy] at HEC;have HCR:=hid (iL ex ey fx fy (by omega) (by omega) (by omega) (by omega));have HTZ:Hid (qO ex ey fx fy=T):=by show _=_;rw [hTT,hex,hey,hfx,hfy];rfl
       rw [HTZ.out] at HCR;clear hu hv hex hey hfx hfy hTT hF hS2
       go_wp2_with (at_builtin;refine dL rfl _ _ rfl (gT+1) _ _ rfl (HO.out.own.alloc _) wo.heap.size 0 1 1 [(u,v)] rfl rfl (cells_one (by go_simp) (by go_simp)) (by have:=HOL.out;simp;omega) (by simp;omega) ?_;intro v' w7 ho1 hg1;have HO1:=hid ho1;have hb1:=Own.grown (HO.out.own.alloc _) hg1 (by simp;omega);clear ho1 hg1)
       have HM7:=hid (HO.out.app HO1.out hb1);clear HO HO1 hb1;refine (HEA.out _ HM7.out.bel).mono ?_;rintro e w8 ⟨rfl,hb8⟩;have HM8:=hid (HM7.out.keep hb8);clear HM7 hb8
       go_wp2_with fail
       refine (HEC.out _ HM8.out.bel).mono ?_;rintro e w9 ⟨rfl,hb9⟩;have HM9:=hid (HM8.out.keep hb9);clear HM8 hb9 HEA HEC
       go_upto_region 20 with fail
       obtain ⟨ge,hge⟩:∃ g,g=w9.heap.size:=⟨_,rfl⟩;obtain ⟨w10,hw10⟩:∃ w10,w10=(w9.alloc (.cells #[.int .i64 ex,.int .i64 ey] 24)).alloc (.cells #[.int .i64 fx,.int .i64 fy] 24):=⟨_,rfl⟩;have c0:w10.cell? ⟨ge,0,none⟩=some (.int .i64 ex):=by rw [hw10,hge];go_simp
       have c1:w10.cell? ⟨ge,1,none⟩=some (.int .i64 ey):=by rw [hw10,hge];go_simp
       have d0:w10.cell? ⟨ge+1,0,none⟩=some (.int .i64 fx):=by rw [hw10,hge];go_simp
       have d1:w10.cell? ⟨ge+1,1,none⟩=some (.int .i64 fy):=by rw [hw10,hge];go_simp
       have HM10:=hid (show MW w5 gT v' (o ++ [(u,v)]) u v w10 by rw [hw10];exact (HM9.out.keep Ba).keep Ba);have hgge:gT<ge:=by rw [hge];exact lt_of_cell HM9.out.t0
       rw [← hw10,← hge];clear hw10 hge HM9
       go_wp2_with fail
       refine (HCR.out _).mono ?_;rintro e w11 ⟨rfl,hb11⟩;replace c0:=keepCell hb11 c0;replace c1:=keepCell hb11 c1;replace d0:=keepCell hb11 d0;replace d1:=keepCell hb11 d1;have HMa:=hid (HM10.out.keep hb11);clear HM10 hb11 HCR;have hn1:¬ gT=ge:=by omega
       have hn2:¬ ge=gT:=by omega
       have hn3:¬ gT=ge+1:=by omega
       have hn4:¬ ge+1=gT:=by omega
       have tf:=HMa.out.tf
       go_wp2_with fail
       refine wp_region_noPanic ?_;refine au (S:=(S3 (fun w'=>w'.cell? ⟨gT,0,none⟩=some (.int .i64 u)∧w'.cell? ⟨gT,1,none⟩=some (.int .i64 v)∧w'.cell? ⟨ge,0,none⟩=some (.int .i64 ex)∧w'.cell? ⟨ge,1,none⟩=some (.int .i64 ey)) (fun w'=>w'.cell? ⟨ge,1,none⟩=some (.int .i64 ey)))) (T:=(fun j=>[0,0,0,0,0,0,0,0,0,0,0,0,0,1,0,2].getD j 0)) (by kernel_rfl) (qL ⟨HMa.out.t0,HMa.out.t1,c0,c1⟩) (fun hH=>?_);have hWr3:aG (S3 (fun w'=>w'.cell? ⟨gT,0,none⟩=some (.int .i64 u)∧w'.cell? ⟨gT,1,none⟩=some (.int .i64 v)∧w'.cell? ⟨ge,0,none⟩=some (.int .i64 ex)∧w'.cell? ⟨ge,1,none⟩=some (.int .i64 ey)) (fun w'=>w'.cell? ⟨ge,1,none⟩=some (.int .i64 ey))):=jL (fun _ ⟨q0,q1,q2,q3⟩=>q3);refine dG [(0,130),(1,131),(2,132),(3,133),(4,134),(5,135),(6,136),(12,142)] 9 0 0 (L':=?Lr3_1) hWr3 hH ?hyr3_1 ?_
       case hyr3_1=>((iterate 8 apply dF;rfl;kernel_rfl;intro w' hSw;replace hSw:=jf hSw;(try dsimp only at hSw);have q0:=hSw.1;have q1:=hSw.2.1;have q2:=hSw.2.2.1;have q3:=hSw.2.2.2;(try simp only [sB,sC]);go_simp;(try with_reducible rfl));exact dD)
       simp only [sB,sC];refine dG [(7,137),(8,138),(9,139)] 6 1 0 (L':=?Lr3_9) hWr3 hH ?hyr3_9 ?_
       case hyr3_9=>((iterate 3 apply dF;rfl;kernel_rfl;intro w' hSw;replace hSw:=xW hSw;(try dsimp only at hSw);have q3:=hSw;(try simp only [sB,sC]);go_simp;(try with_reducible rfl));exact dD)
       simp only [sB,sC];refine dG [(10,140),(11,141)] 4 2 0 (L':=?Lr3_12) hWr3 hH ?hyr3_12 ?_
       case hyr3_12=>((iterate 2 apply dF;rfl;kernel_rfl;intro w' hSw;clear hSw;(try simp only [sB,sC]);go_simp;(try with_reducible rfl));exact dD)
       simp only [sB,sC];refine U1 13 1 rfl (fun K hK=>?_);have hG:=hH;replace hG:=jf hG;(try dsimp only at hG);have q0:=hG.1;have q1:=hG.2.1;have q2:=hG.2.2.1;have q3:=hG.2.2.2;clear hG;go_simp;refine hK.out _ _ ?hsr3_14 (fun hH2=>?hrr3_14)
       case hsr3_14=>exact xB (by show World.cell? _ _=_;go_simp)
       clear hK K hH;have hH:=hH2;clear hH2
       try simp only [Act.put,sA,sB,sC]
       refine Ut 14 143 2 1 1 (v:=?vr3_15) rfl hWr3 hH ?hyr3_15 ?_
       case hyr3_15=>(intro w' hSw;clear hSw;go_simp;try (with_reducible rfl))
       simp only [sB,sC];refine U1 15 2 rfl (fun K hK=>?_);have x1:=HMa.out.t1;go_simp;refine hK.out _ _ ?hsr3_16 (fun hH2=>?hrr3_16)
       case hsr3_16=>exact yS
       clear hK K hH;have hH:=hH2;clear hH2
       try simp only [Act.put,sA,sB,sC]
       refine Ut 16 15 0 2 2 (v:=?vr3_17) rfl hWr3 hH ?hyr3_17 ?_
       case hyr3_17=>(intro w' hSw;clear hSw;go_simp;try (with_reducible rfl))
       simp only [sB,sC];refine ak (by kernel_rfl) ?_ _ _;refine NoPanic.normal ?_;clear x1;clear hWr3;have HMb:=hid ((HMa.out.set (u+ex) (v+ey)).drew);have e0:(((w11.setCell ⟨gT,0,none⟩ (.int .i64 (u+ex))).setCell ⟨gT,1,none⟩ (.int .i64 (v+ey))).drew).cell? ⟨ge+1,0,none⟩=some (.int .i64 fx):=far2 hn3 d0;have e1:(((w11.setCell ⟨gT,0,none⟩ (.int .i64 (u+ex))).setCell ⟨gT,1,none⟩ (.int .i64 (v+ey))).drew).cell? ⟨ge+1,1,none⟩=some (.int .i64 fy):=far2 hn3 d1;clear HMa c0 c1 d0 d1 tf;generalize ((w11.setCell ⟨gT,0,none⟩ (.int .i64 (u+ex))).setCell ⟨gT,1,none⟩ (.int .i64 (v+ey))).drew=w12 at *
       have tf:=HMb.out.tf
       go_wp2_with fail
       refine wp_region_noPanic ?_;refine au (S:=(S3 (fun w'=>w'.cell? ⟨gT,0,none⟩=some (.int .i64 (u+ex))∧w'.cell? ⟨gT,1,none⟩=some (.int .i64 (v+ey))∧w'.cell? ⟨(ge+1),0,none⟩=some (.int .i64 fx)∧w'.cell? ⟨(ge+1),1,none⟩=some (.int .i64 fy)) (fun w'=>w'.cell? ⟨(ge+1),1,none⟩=some (.int .i64 fy)))) (T:=(fun j=>[0,0,0,0,0,0,0,0,0,0,0,0,0,1,0,2].getD j 0)) (by kernel_rfl) (qL ⟨HMb.out.t0,HMb.out.t1,e0,e1⟩) (fun hH=>?_);have hWr4:aG (S3 (fun w'=>w'.cell? ⟨gT,0,none⟩=some (.int .i64 (u+ex))∧w'.cell? ⟨gT,1,none⟩=some (.int .i64 (v+ey))∧w'.cell? ⟨(ge+1),0,none⟩=some (.int .i64 fx)∧w'.cell? ⟨(ge+1),1,none⟩=some (.int .i64 fy)) (fun w'=>w'.cell? ⟨(ge+1),1,none⟩=some (.int .i64 fy))):=jL (fun _ ⟨q0,q1,q2,q3⟩=>q3);refine dG [(0,145),(1,146),(2,147),(3,148),(4,149),(5,150),(6,151),(12,157)] 9 0 0 (L':=?Lr4_1) hWr4 hH ?hyr4_1 ?_
       case hyr4_1=>((iterate 8 apply dF;rfl;kernel_rfl;intro w' hSw;replace hSw:=jf hSw;(try dsimp only at hSw);have q0:=hSw.1;have q1:=hSw.2.1;have q2:=hSw.2.2.1;have q3:=hSw.2.2.2;(try simp only [sB,sC]);go_simp;(try with_reducible rfl));exact dD)
       simp only [sB,sC];refine dG [(7,152),(8,153),(9,154)] 6 1 0 (L':=?Lr4_9) hWr4 hH ?hyr4_9 ?_
       case hyr4_9=>((iterate 3 apply dF;rfl;kernel_rfl;intro w' hSw;replace hSw:=xW hSw;(try dsimp only at hSw);have q3:=hSw;(try simp only [sB,sC]);go_simp;(try with_reducible rfl));exact dD)
       simp only [sB,sC];refine dG [(10,155),(11,156)] 4 2 0 (L':=?Lr4_12) hWr4 hH ?hyr4_12 ?_
       case hyr4_12=>((iterate 2 apply dF;rfl;kernel_rfl;intro w' hSw;clear hSw;(try simp only [sB,sC]);go_simp;(try with_reducible rfl));exact dD)
       simp only [sB,sC];refine U1 13 1 rfl (fun K hK=>?_);have hG:=hH;replace hG:=jf hG;(try dsimp only at hG);have q0:=hG.1;have q1:=hG.2.1;have q2:=hG.2.2.1;have q3:=hG.2.2.2;clear hG;go_simp;refine hK.out _ _ ?hsr4_14 (fun hH2=>?hrr4_14)
       case hsr4_14=>exact xB (by show World.cell? _ _=_;go_simp)
       clear hK K hH;have hH:=hH2;clear hH2
       try simp only [Act.put,sA,sB,sC]
       refine Ut 14 158 2 1 1 (v:=?vr4_15) rfl hWr4 hH ?hyr4_15 ?_
       case hyr4_15=>(intro w' hSw;clear hSw;go_simp;try (with_reducible rfl))
       simp only [sB,sC];refine U1 15 2 rfl (fun K hK=>?_);have x1:=HMb.out.t1;go_simp;refine hK.out _ _ ?hsr4_16 (fun hH2=>?hrr4_16)
       case hsr4_16=>exact yS
       clear hK K hH;have hH:=hH2;clear hH2
       try simp only [Act.put,sA,sB,sC]
       refine Ut 16 16 0 2 2 (v:=?vr4_17) rfl hWr4 hH ?hyr4_17 ?_
       case hyr4_17=>(intro w' hSw;clear hSw;go_simp;try (with_reducible rfl))
       simp only [sB,sC];refine ak (by kernel_rfl) ?_ _ _;refine NoPanic.normal ?_;clear x1;clear hWr4;have HMc:=hid ((HMb.out.set ((u+ex)+fx) ((v+ey)+fy)).drew);clear HMb e0 e1 tf;generalize ((w12.setCell ⟨gT,0,none⟩ (.int .i64 ((u+ex)+fx))).setCell ⟨gT,1,none⟩ (.int .i64 ((v+ey)+fy))).drew=w13 at *
       go_wp2;go_roundw
       case rel=>exact ⟨(x+1),(y+1),f',o ++ [(u,v)],by omega,by omega,by omega,by go_num,by go_num,by have:=HOL.out;simp;omega,by rw [List.append_assoc,List.singleton_append,← HGO.out];exact HTOT.out,by rw [HU2.out.1,HU2.out.2];exact HMc.out⟩
       case measure=>simp [intOf];omega
      ·skip
       have hxi:(x:Int)<(a.length:Int):=by omega
       have hxne:((x:Int) == (a.length:Int))=false:=by simp;omega
       have hyi:(y:Int)<(c.length:Int):=by omega
       have hyne:((y:Int) == (c.length:Int))=false:=by simp;omega
       have hT2:T≤0:=by omega
       have hT3:¬ 0≤T:=by omega
       have hF:JY a c i k2 x y=false:=by unfold JY;rw [← hTT];simp <;> omega
       have hS2:JL a c i k2 x y=true:=by unfold JL;rw [← hTT];simp <;> omega
       obtain ⟨f',rfl⟩:∃ f',f=f'+1:=⟨f-1,by omega⟩;have HGO:Hid (jD a c i k2 (f'+1) x y=(u,v) :: jD a c i k2 f' x (y+1)):=by show _=_;rw [jD,if_pos (by omega),hF,hS2,← hu,← hv];rfl
       have HUE:=hid (And.intro hu hv);have HU2:Hid (yN a c i k2 x (y+1)=u+fx∧yJ a c i k2 x (y+1)=v+fy):=by show _∧_;rw [MB,MZ,← hu,← hv,← hfx,← hfy];exact ⟨rfl,rfl⟩
       have bu2:=uS HAW.out HCW.out (by omega) (by omega) i k2 x (y+1);rw [HU2.out.1,HU2.out.2] at bu2;have wu2:IntKind.i64.wrap (u+fx)=u+fx:=IntWalk.i64_in _ (by omega);have wv2:IntKind.i64.wrap (v+fy)=v+fy:=IntWalk.i64_in _ (by omega);have wy1:IntKind.i64.wrap ((y:Int)+1)=(y:Int)+1:=IntWalk.i64_in _ (by omega);have HED:=hid (And.intro (And.intro hex hey) (And.intro hfx hfy));have HTX:=hid hTT;have HEA:=hid (fun w' (h:Below w5.heap.size w5 w')=>gD (some ⟨ba,oa,none⟩) a.length c0 a i x w' (HSA.out.below h) HAW.out a3 a8 hil (by omega));have HEC:=hid (fun w' (h:Below w5.heap.size w5 w')=>gD (some ⟨bc,oc,none⟩) c.length c2 c k2 y w' (HSC.out.below h) HCW.out c3 c8 hkl (by omega));rw [← hex,← hey] at HEA;rw [← hfx,← hfy] at HEC;have HCR:=hid (iL ex ey fx fy (by omega) (by omega) (by omega) (by omega));have HTZ:Hid (qO ex ey fx fy=T):=by show _=_;rw [hTT,hex,hey,hfx,hfy];rfl
       rw [HTZ.out] at HCR;clear hu hv hex hey hfx hfy hTT hF hS2
       go_wp2_with (at_builtin;refine dL rfl _ _ rfl (gT+1) _ _ rfl (HO.out.own.alloc _) wo.heap.size 0 1 1 [(u,v)] rfl rfl (cells_one (by go_simp) (by go_simp)) (by have:=HOL.out;simp;omega) (by simp;omega) ?_;intro v' w7 ho1 hg1;have HO1:=hid ho1;have hb1:=Own.grown (HO.out.own.alloc _) hg1 (by simp;omega);clear ho1 hg1)
       have HM7:=hid (HO.out.app HO1.out hb1);clear HO HO1 hb1;refine (HEA.out _ HM7.out.bel).mono ?_;rintro e w8 ⟨rfl,hb8⟩;have HM8:=hid (HM7.out.keep hb8);clear HM7 hb8
       go_wp2_with fail
       refine (HEC.out _ HM8.out.bel).mono ?_;rintro e w9 ⟨rfl,hb9⟩;have HM9:=hid (HM8.out.keep hb9);clear HM8 hb9 HEA HEC
       go_upto_region 20 with fail
       obtain ⟨ge,hge⟩:∃ g,g=w9.heap.size:=⟨_,rfl⟩;obtain ⟨w10,hw10⟩:∃ w10,w10=(w9.alloc (.cells #[.int .i64 ex,.int .i64 ey] 24)).alloc (.cells #[.int .i64 fx,.int .i64 fy] 24):=⟨_,rfl⟩;have c0:w10.cell? ⟨ge,0,none⟩=some (.int .i64 ex):=by rw [hw10,hge];go_simp
       have c1:w10.cell? ⟨ge,1,none⟩=some (.int .i64 ey):=by rw [hw10,hge];go_simp
       have d0:w10.cell? ⟨ge+1,0,none⟩=some (.int .i64 fx):=by rw [hw10,hge];go_simp
       have d1:w10.cell? ⟨ge+1,1,none⟩=some (.int .i64 fy):=by rw [hw10,hge];go_simp
       have HM10:=hid (show MW w5 gT v' (o ++ [(u,v)]) u v w10 by rw [hw10];exact (HM9.out.keep Ba).keep Ba);have hgge:gT<ge:=by rw [hge];exact lt_of_cell HM9.out.t0
       rw [← hw10,← hge];clear hw10 hge HM9
       go_wp2_with fail
       refine (HCR.out _).mono ?_;rintro e w11 ⟨rfl,hb11⟩;replace c0:=keepCell hb11 c0;replace c1:=keepCell hb11 c1;replace d0:=keepCell hb11 d0;replace d1:=keepCell hb11 d1;have HMa:=hid (HM10.out.keep hb11);clear HM10 hb11 HCR;have hn1:¬ gT=ge:=by omega
       have hn2:¬ ge=gT:=by omega
       have hn3:¬ gT=ge+1:=by omega
       have hn4:¬ ge+1=gT:=by omega
       have tf:=HMa.out.tf
       go_wp2_with fail
       refine wp_region_noPanic ?_;refine au (S:=(S3 (fun w'=>w'.cell? ⟨gT,0,none⟩=some (.int .i64 u)∧w'.cell? ⟨gT,1,none⟩=some (.int .i64 v)∧w'.cell? ⟨(ge+1),0,none⟩=some (.int .i64 fx)∧w'.cell? ⟨(ge+1),1,none⟩=some (.int .i64 fy)) (fun w'=>w'.cell? ⟨(ge+1),1,none⟩=some (.int .i64 fy)))) (T:=(fun j=>[0,0,0,0,0,0,0,0,0,0,0,0,0,1,0,2].getD j 0)) (by kernel_rfl) (qL ⟨HMa.out.t0,HMa.out.t1,d0,d1⟩) (fun hH=>?_);have hWr5:aG (S3 (fun w'=>w'.cell? ⟨gT,0,none⟩=some (.int .i64 u)∧w'.cell? ⟨gT,1,none⟩=some (.int .i64 v)∧w'.cell? ⟨(ge+1),0,none⟩=some (.int .i64 fx)∧w'.cell? ⟨(ge+1),1,none⟩=some (.int .i64 fy)) (fun w'=>w'.cell? ⟨(ge+1),1,none⟩=some (.int .i64 fy))):=jL (fun _ ⟨q0,q1,q2,q3⟩=>q3);refine dG [(0,145),(1,146),(2,147),(3,148),(4,149),(5,150),(6,151),(12,157)] 9 0 0 (L':=?Lr5_1) hWr5 hH ?hyr5_1 ?_
       case hyr5_1=>((iterate 8 apply dF;rfl;kernel_rfl;intro w' hSw;replace hSw:=jf hSw;(try dsimp only at hSw);have q0:=hSw.1;have q1:=hSw.2.1;have q2:=hSw.2.2.1;have q3:=hSw.2.2.2;(try simp only [sB,sC]);go_simp;(try with_reducible rfl));exact dD)
       simp only [sB,sC];refine dG [(7,152),(8,153),(9,154)] 6 1 0 (L':=?Lr5_9) hWr5 hH ?hyr5_9 ?_
       case hyr5_9=>((iterate 3 apply dF;rfl;kernel_rfl;intro w' hSw;replace hSw:=xW hSw;(try dsimp only at hSw);have q3:=hSw;(try simp only [sB,sC]);go_simp;(try with_reducible rfl));exact dD)
       simp only [sB,sC];refine dG [(10,155),(11,156)] 4 2 0 (L':=?Lr5_12) hWr5 hH ?hyr5_12 ?_
       case hyr5_12=>((iterate 2 apply dF;rfl;kernel_rfl;intro w' hSw;clear hSw;(try simp only [sB,sC]);go_simp;(try with_reducible rfl));exact dD)
       simp only [sB,sC];refine U1 13 1 rfl (fun K hK=>?_);have hG:=hH;replace hG:=jf hG;(try dsimp only at hG);have q0:=hG.1;have q1:=hG.2.1;have q2:=hG.2.2.1;have q3:=hG.2.2.2;clear hG;go_simp;refine hK.out _ _ ?hsr5_14 (fun hH2=>?hrr5_14)
       case hsr5_14=>exact xB (by show World.cell? _ _=_;go_simp)
       clear hK K hH;have hH:=hH2;clear hH2
       try simp only [Act.put,sA,sB,sC]
       refine Ut 14 158 2 1 1 (v:=?vr5_15) rfl hWr5 hH ?hyr5_15 ?_
       case hyr5_15=>(intro w' hSw;clear hSw;go_simp;try (with_reducible rfl))
       simp only [sB,sC];refine U1 15 2 rfl (fun K hK=>?_);have x1:=HMa.out.t1;go_simp;refine hK.out _ _ ?hsr5_16 (fun hH2=>?hrr5_16)
       case hsr5_16=>exact yS
       clear hK K hH;have hH:=hH2;clear hH2
       try simp only [Act.put,sA,sB,sC]
       refine Ut 16 16 0 2 2 (v:=?vr5_17) rfl hWr5 hH ?hyr5_17 ?_
       case hyr5_17=>(intro w' hSw;clear hSw;go_simp;try (with_reducible rfl))
       simp only [sB,sC];refine ak (by kernel_rfl) ?_ _ _;refine NoPanic.normal ?_;clear x1;clear hWr5;have HMc:=hid ((HMa.out.set (u+fx) (v+fy)).drew);have e0:(((w11.setCell ⟨gT,0,none⟩ (.int .i64 (u+fx))).setCell ⟨gT,1,none⟩ (.int .i64 (v+fy))).drew).cell? ⟨ge+1,0,none⟩=some (.int .i64 fx):=far2 hn3 d0;have e1:(((w11.setCell ⟨gT,0,none⟩ (.int .i64 (u+fx))).setCell ⟨gT,1,none⟩ (.int .i64 (v+fy))).drew).cell? ⟨ge+1,1,none⟩=some (.int .i64 fy):=far2 hn3 d1;clear HMa c0 c1 d0 d1 tf;generalize ((w11.setCell ⟨gT,0,none⟩ (.int .i64 (u+fx))).setCell ⟨gT,1,none⟩ (.int .i64 (v+fy))).drew=w13 at *
       go_wp2;go_roundw
       case rel=>exact ⟨x,(y+1),f',o ++ [(u,v)],by omega,by omega,by omega,by go_num,by go_num,by have:=HOL.out;simp;omega,by rw [List.append_assoc,List.singleton_append,← HGO.out];exact HTOT.out,by rw [HU2.out.1,HU2.out.2];exact HMc.out⟩
       case measure=>simp [intOf];omega
      ·subst hye
       skip
       have hxi:(x:Int)<(a.length:Int):=by omega
       have hxne:((x:Int) == (a.length:Int))=false:=by simp;omega
       have hyge:¬ c.length<c.length:=by omega
       have hF:JY a c i k2 x c.length=true:=by unfold JY;rw [← hTT];simp <;> omega
       have hS2:JL a c i k2 x c.length=false:=by unfold JL;rw [← hTT];simp <;> omega
       obtain ⟨f',rfl⟩:∃ f',f=f'+1:=⟨f-1,by omega⟩;have HGO:Hid (jD a c i k2 (f'+1) x c.length=(u,v) :: jD a c i k2 f' (x+1) c.length):=by show _=_;rw [jD,if_pos (by omega),hF,hS2,← hu,← hv];rfl
       have HUE:=hid (And.intro hu hv);have HU1:Hid (yN a c i k2 (x+1) c.length=u+ex∧yJ a c i k2 (x+1) c.length=v+ey):=by show _∧_;rw [M4,M9,← hu,← hv,← hex,← hey];exact ⟨rfl,rfl⟩
       have bu1:=uS HAW.out HCW.out (by omega) (by omega) i k2 (x+1) c.length;rw [HU1.out.1,HU1.out.2] at bu1;have wu1:IntKind.i64.wrap (u+ex)=u+ex:=IntWalk.i64_in _ (by omega);have wv1:IntKind.i64.wrap (v+ey)=v+ey:=IntWalk.i64_in _ (by omega);have wx1:IntKind.i64.wrap ((x:Int)+1)=(x:Int)+1:=IntWalk.i64_in _ (by omega);have HED:=hid (And.intro (And.intro hex hey) (And.intro hfx hfy));have HTX:=hid hTT;have HEA:=hid (fun w' (h:Below w5.heap.size w5 w')=>gD (some ⟨ba,oa,none⟩) a.length c0 a i x w' (HSA.out.below h) HAW.out a3 a8 hil (by omega));have HEC:=hid (fun w' (h:Below w5.heap.size w5 w')=>gD (some ⟨bc,oc,none⟩) c.length c2 c k2 c.length w' (HSC.out.below h) HCW.out c3 c8 hkl (by omega));rw [← hex,← hey] at HEA;rw [← hfx,← hfy] at HEC;have HCR:=hid (iL ex ey fx fy (by omega) (by omega) (by omega) (by omega));have HTZ:Hid (qO ex ey fx fy=T):=by show _=_;rw [hTT,hex,hey,hfx,hfy];rfl
       rw [HTZ.out] at HCR;clear hu hv hex hey hfx hfy hTT hF hS2
       go_wp2_with (at_builtin;refine dL rfl _ _ rfl (gT+1) _ _ rfl (HO.out.own.alloc _) wo.heap.size 0 1 1 [(u,v)] rfl rfl (cells_one (by go_simp) (by go_simp)) (by have:=HOL.out;simp;omega) (by simp;omega) ?_;intro v' w7 ho1 hg1;have HO1:=hid ho1;have hb1:=Own.grown (HO.out.own.alloc _) hg1 (by simp;omega);clear ho1 hg1)
       have HM7:=hid (HO.out.app HO1.out hb1);clear HO HO1 hb1;refine (HEA.out _ HM7.out.bel).mono ?_;rintro e w8 ⟨rfl,hb8⟩;have HM8:=hid (HM7.out.keep hb8);clear HM7 hb8
       go_wp2_with fail
       refine (HEC.out _ HM8.out.bel).mono ?_;rintro e w9 ⟨rfl,hb9⟩;have HM9:=hid (HM8.out.keep hb9);clear HM8 hb9 HEA HEC
       go_upto_region 20 with fail
       obtain ⟨ge,hge⟩:∃ g,g=w9.heap.size:=⟨_,rfl⟩;obtain ⟨w10,hw10⟩:∃ w10,w10=(w9.alloc (.cells #[.int .i64 ex,.int .i64 ey] 24)).alloc (.cells #[.int .i64 fx,.int .i64 fy] 24):=⟨_,rfl⟩;have c0:w10.cell? ⟨ge,0,none⟩=some (.int .i64 ex):=by rw [hw10,hge];go_simp
       have c1:w10.cell? ⟨ge,1,none⟩=some (.int .i64 ey):=by rw [hw10,hge];go_simp
       have d0:w10.cell? ⟨ge+1,0,none⟩=some (.int .i64 fx):=by rw [hw10,hge];go_simp
       have d1:w10.cell? ⟨ge+1,1,none⟩=some (.int .i64 fy):=by rw [hw10,hge];go_simp
       have HM10:=hid (show MW w5 gT v' (o ++ [(u,v)]) u v w10 by rw [hw10];exact (HM9.out.keep Ba).keep Ba);have hgge:gT<ge:=by rw [hge];exact lt_of_cell HM9.out.t0
       rw [← hw10,← hge];clear hw10 hge HM9
       go_wp2_with fail
       refine (HCR.out _).mono ?_;rintro e w11 ⟨rfl,hb11⟩;replace c0:=keepCell hb11 c0;replace c1:=keepCell hb11 c1;replace d0:=keepCell hb11 d0;replace d1:=keepCell hb11 d1;have HMa:=hid (HM10.out.keep hb11);clear HM10 hb11 HCR;have hn1:¬ gT=ge:=by omega
       have hn2:¬ ge=gT:=by omega
       have hn3:¬ gT=ge+1:=by omega
       have hn4:¬ ge+1=gT:=by omega
       have tf:=HMa.out.tf
       go_wp2_with fail
       refine wp_region_noPanic ?_;refine au (S:=(S3 (fun w'=>w'.cell? ⟨gT,0,none⟩=some (.int .i64 u)∧w'.cell? ⟨gT,1,none⟩=some (.int .i64 v)∧w'.cell? ⟨ge,0,none⟩=some (.int .i64 ex)∧w'.cell? ⟨ge,1,none⟩=some (.int .i64 ey)) (fun w'=>w'.cell? ⟨ge,1,none⟩=some (.int .i64 ey)))) (T:=(fun j=>[0,0,0,0,0,0,0,0,0,0,0,0,0,1,0,2].getD j 0)) (by kernel_rfl) (qL ⟨HMa.out.t0,HMa.out.t1,c0,c1⟩) (fun hH=>?_);have hWr6:aG (S3 (fun w'=>w'.cell? ⟨gT,0,none⟩=some (.int .i64 u)∧w'.cell? ⟨gT,1,none⟩=some (.int .i64 v)∧w'.cell? ⟨ge,0,none⟩=some (.int .i64 ex)∧w'.cell? ⟨ge,1,none⟩=some (.int .i64 ey)) (fun w'=>w'.cell? ⟨ge,1,none⟩=some (.int .i64 ey))):=jL (fun _ ⟨q0,q1,q2,q3⟩=>q3);refine dG [(0,130),(1,131),(2,132),(3,133),(4,134),(5,135),(6,136),(12,142)] 9 0 0 (L':=?Lr6_1) hWr6 hH ?hyr6_1 ?_
       case hyr6_1=>((iterate 8 apply dF;rfl;kernel_rfl;intro w' hSw;replace hSw:=jf hSw;(try dsimp only at hSw);have q0:=hSw.1;have q1:=hSw.2.1;have q2:=hSw.2.2.1;have q3:=hSw.2.2.2;(try simp only [sB,sC]);go_simp;(try with_reducible rfl));exact dD)
       simp only [sB,sC];refine dG [(7,137),(8,138),(9,139)] 6 1 0 (L':=?Lr6_9) hWr6 hH ?hyr6_9 ?_
       case hyr6_9=>((iterate 3 apply dF;rfl;kernel_rfl;intro w' hSw;replace hSw:=xW hSw;(try dsimp only at hSw);have q3:=hSw;(try simp only [sB,sC]);go_simp;(try with_reducible rfl));exact dD)
       simp only [sB,sC];refine dG [(10,140),(11,141)] 4 2 0 (L':=?Lr6_12) hWr6 hH ?hyr6_12 ?_
       case hyr6_12=>((iterate 2 apply dF;rfl;kernel_rfl;intro w' hSw;clear hSw;(try simp only [sB,sC]);go_simp;(try with_reducible rfl));exact dD)
       simp only [sB,sC];refine U1 13 1 rfl (fun K hK=>?_);have hG:=hH;replace hG:=jf hG;(try dsimp only at hG);have q0:=hG.1;have q1:=hG.2.1;have q2:=hG.2.2.1;have q3:=hG.2.2.2;clear hG;go_simp;refine hK.out _ _ ?hsr6_14 (fun hH2=>?hrr6_14)
       case hsr6_14=>exact xB (by show World.cell? _ _=_;go_simp)
       clear hK K hH;have hH:=hH2;clear hH2
       try simp only [Act.put,sA,sB,sC]
       refine Ut 14 143 2 1 1 (v:=?vr6_15) rfl hWr6 hH ?hyr6_15 ?_
       case hyr6_15=>(intro w' hSw;clear hSw;go_simp;try (with_reducible rfl))
       simp only [sB,sC];refine U1 15 2 rfl (fun K hK=>?_);have x1:=HMa.out.t1;go_simp;refine hK.out _ _ ?hsr6_16 (fun hH2=>?hrr6_16)
       case hsr6_16=>exact yS
       clear hK K hH;have hH:=hH2;clear hH2
       try simp only [Act.put,sA,sB,sC]
       refine Ut 16 15 0 2 2 (v:=?vr6_17) rfl hWr6 hH ?hyr6_17 ?_
       case hyr6_17=>(intro w' hSw;clear hSw;go_simp;try (with_reducible rfl))
       simp only [sB,sC];refine ak (by kernel_rfl) ?_ _ _;refine NoPanic.normal ?_;clear x1;clear hWr6;have HMb:=hid ((HMa.out.set (u+ex) (v+ey)).drew);clear HMa c0 c1 d0 d1 tf;generalize ((w11.setCell ⟨gT,0,none⟩ (.int .i64 (u+ex))).setCell ⟨gT,1,none⟩ (.int .i64 (v+ey))).drew=w12 at *
       go_wp2;go_roundw
       case rel=>exact ⟨(x+1),c.length,f',o ++ [(u,v)],by omega,by omega,by omega,by go_num,by go_num,by have:=HOL.out;simp;omega,by rw [List.append_assoc,List.singleton_append,← HGO.out];exact HTOT.out,by rw [HU1.out.1,HU1.out.2];exact HMb.out⟩
       case measure=>simp [intOf];omega
      ·subst hxe
       skip
       have hyi:(y:Int)<(c.length:Int):=by omega
       have hyne:((y:Int) == (c.length:Int))=false:=by simp;omega
       have hxge:¬ a.length<a.length:=by omega
       have hF:JY a c i k2 a.length y=false:=by unfold JY;rw [← hTT];simp <;> omega
       have hS2:JL a c i k2 a.length y=true:=by unfold JL;rw [← hTT];simp <;> omega
       obtain ⟨f',rfl⟩:∃ f',f=f'+1:=⟨f-1,by omega⟩;have HGO:Hid (jD a c i k2 (f'+1) a.length y=(u,v) :: jD a c i k2 f' a.length (y+1)):=by show _=_;rw [jD,if_pos (by omega),hF,hS2,← hu,← hv];rfl
       have HUE:=hid (And.intro hu hv);have HU2:Hid (yN a c i k2 a.length (y+1)=u+fx∧yJ a c i k2 a.length (y+1)=v+fy):=by show _∧_;rw [MB,MZ,← hu,← hv,← hfx,← hfy];exact ⟨rfl,rfl⟩
       have bu2:=uS HAW.out HCW.out (by omega) (by omega) i k2 a.length (y+1);rw [HU2.out.1,HU2.out.2] at bu2;have wu2:IntKind.i64.wrap (u+fx)=u+fx:=IntWalk.i64_in _ (by omega);have wv2:IntKind.i64.wrap (v+fy)=v+fy:=IntWalk.i64_in _ (by omega);have wy1:IntKind.i64.wrap ((y:Int)+1)=(y:Int)+1:=IntWalk.i64_in _ (by omega);have HED:=hid (And.intro (And.intro hex hey) (And.intro hfx hfy));have HTX:=hid hTT;have HEA:=hid (fun w' (h:Below w5.heap.size w5 w')=>gD (some ⟨ba,oa,none⟩) a.length c0 a i a.length w' (HSA.out.below h) HAW.out a3 a8 hil (by omega));have HEC:=hid (fun w' (h:Below w5.heap.size w5 w')=>gD (some ⟨bc,oc,none⟩) c.length c2 c k2 y w' (HSC.out.below h) HCW.out c3 c8 hkl (by omega));rw [← hex,← hey] at HEA;rw [← hfx,← hfy] at HEC;have HCR:=hid (iL ex ey fx fy (by omega) (by omega) (by omega) (by omega));have HTZ:Hid (qO ex ey fx fy=T):=by show _=_;rw [hTT,hex,hey,hfx,hfy];rfl
       rw [HTZ.out] at HCR;clear hu hv hex hey hfx hfy hTT hF hS2
       go_wp2_with (at_builtin;refine dL rfl _ _ rfl (gT+1) _ _ rfl (HO.out.own.alloc _) wo.heap.size 0 1 1 [(u,v)] rfl rfl (cells_one (by go_simp) (by go_simp)) (by have:=HOL.out;simp;omega) (by simp;omega) ?_;intro v' w7 ho1 hg1;have HO1:=hid ho1;have hb1:=Own.grown (HO.out.own.alloc _) hg1 (by simp;omega);clear ho1 hg1)
       have HM7:=hid (HO.out.app HO1.out hb1);clear HO HO1 hb1;refine (HEA.out _ HM7.out.bel).mono ?_;rintro e w8 ⟨rfl,hb8⟩;have HM8:=hid (HM7.out.keep hb8);clear HM7 hb8
       go_wp2_with fail
       refine (HEC.out _ HM8.out.bel).mono ?_;rintro e w9 ⟨rfl,hb9⟩;have HM9:=hid (HM8.out.keep hb9);clear HM8 hb9 HEA HEC
       go_upto_region 20 with fail
       obtain ⟨ge,hge⟩:∃ g,g=w9.heap.size:=⟨_,rfl⟩;obtain ⟨w10,hw10⟩:∃ w10,w10=(w9.alloc (.cells #[.int .i64 ex,.int .i64 ey] 24)).alloc (.cells #[.int .i64 fx,.int .i64 fy] 24):=⟨_,rfl⟩;have c0:w10.cell? ⟨ge,0,none⟩=some (.int .i64 ex):=by rw [hw10,hge];go_simp
       have c1:w10.cell? ⟨ge,1,none⟩=some (.int .i64 ey):=by rw [hw10,hge];go_simp
       have d0:w10.cell? ⟨ge+1,0,none⟩=some (.int .i64 fx):=by rw [hw10,hge];go_simp
       have d1:w10.cell? ⟨ge+1,1,none⟩=some (.int .i64 fy):=by rw [hw10,hge];go_simp
       have HM10:=hid (show MW w5 gT v' (o ++ [(u,v)]) u v w10 by rw [hw10];exact (HM9.out.keep Ba).keep Ba);have hgge:gT<ge:=by rw [hge];exact lt_of_cell HM9.out.t0
       rw [← hw10,← hge];clear hw10 hge HM9
       go_wp2_with fail
       refine (HCR.out _).mono ?_;rintro e w11 ⟨rfl,hb11⟩;replace c0:=keepCell hb11 c0;replace c1:=keepCell hb11 c1;replace d0:=keepCell hb11 d0;replace d1:=keepCell hb11 d1;have HMa:=hid (HM10.out.keep hb11);clear HM10 hb11 HCR;have hn1:¬ gT=ge:=by omega
       have hn2:¬ ge=gT:=by omega
       have hn3:¬ gT=ge+1:=by omega
       have hn4:¬ ge+1=gT:=by omega
       have tf:=HMa.out.tf
       go_wp2_with fail
       refine wp_region_noPanic ?_;refine au (S:=(S3 (fun w'=>w'.cell? ⟨gT,0,none⟩=some (.int .i64 u)∧w'.cell? ⟨gT,1,none⟩=some (.int .i64 v)∧w'.cell? ⟨(ge+1),0,none⟩=some (.int .i64 fx)∧w'.cell? ⟨(ge+1),1,none⟩=some (.int .i64 fy)) (fun w'=>w'.cell? ⟨(ge+1),1,none⟩=some (.int .i64 fy)))) (T:=(fun j=>[0,0,0,0,0,0,0,0,0,0,0,0,0,1,0,2].getD j 0)) (by kernel_rfl) (qL ⟨HMa.out.t0,HMa.out.t1,d0,d1⟩) (fun hH=>?_);have hWr7:aG (S3 (fun w'=>w'.cell? ⟨gT,0,none⟩=some (.int .i64 u)∧w'.cell? ⟨gT,1,none⟩=some (.int .i64 v)∧w'.cell? ⟨(ge+1),0,none⟩=some (.int .i64 fx)∧w'.cell? ⟨(ge+1),1,none⟩=some (.int .i64 fy)) (fun w'=>w'.cell? ⟨(ge+1),1,none⟩=some (.int .i64 fy))):=jL (fun _ ⟨q0,q1,q2,q3⟩=>q3);refine dG [(0,145),(1,146),(2,147),(3,148),(4,149),(5,150),(6,151),(12,157)] 9 0 0 (L':=?Lr7_1) hWr7 hH ?hyr7_1 ?_
       case hyr7_1=>((iterate 8 apply dF;rfl;kernel_rfl;intro w' hSw;replace hSw:=jf hSw;(try dsimp only at hSw);have q0:=hSw.1;have q1:=hSw.2.1;have q2:=hSw.2.2.1;have q3:=hSw.2.2.2;(try simp only [sB,sC]);go_simp;(try with_reducible rfl));exact dD)
       simp only [sB,sC];refine dG [(7,152),(8,153),(9,154)] 6 1 0 (L':=?Lr7_9) hWr7 hH ?hyr7_9 ?_
       case hyr7_9=>((iterate 3 apply dF;rfl;kernel_rfl;intro w' hSw;replace hSw:=xW hSw;(try dsimp only at hSw);have q3:=hSw;(try simp only [sB,sC]);go_simp;(try with_reducible rfl));exact dD)
       simp only [sB,sC];refine dG [(10,155),(11,156)] 4 2 0 (L':=?Lr7_12) hWr7 hH ?hyr7_12 ?_
       case hyr7_12=>((iterate 2 apply dF;rfl;kernel_rfl;intro w' hSw;clear hSw;(try simp only [sB,sC]);go_simp;(try with_reducible rfl));exact dD)
       simp only [sB,sC];refine U1 13 1 rfl (fun K hK=>?_);have hG:=hH;replace hG:=jf hG;(try dsimp only at hG);have q0:=hG.1;have q1:=hG.2.1;have q2:=hG.2.2.1;have q3:=hG.2.2.2;clear hG;go_simp;refine hK.out _ _ ?hsr7_14 (fun hH2=>?hrr7_14)
       case hsr7_14=>exact xB (by show World.cell? _ _=_;go_simp)
       clear hK K hH;have hH:=hH2;clear hH2
       try simp only [Act.put,sA,sB,sC]
       refine Ut 14 158 2 1 1 (v:=?vr7_15) rfl hWr7 hH ?hyr7_15 ?_
       case hyr7_15=>(intro w' hSw;clear hSw;go_simp;try (with_reducible rfl))
       simp only [sB,sC];refine U1 15 2 rfl (fun K hK=>?_);have x1:=HMa.out.t1;go_simp;refine hK.out _ _ ?hsr7_16 (fun hH2=>?hrr7_16)
       case hsr7_16=>exact yS
       clear hK K hH;have hH:=hH2;clear hH2
       try simp only [Act.put,sA,sB,sC]
       refine Ut 16 16 0 2 2 (v:=?vr7_17) rfl hWr7 hH ?hyr7_17 ?_
       case hyr7_17=>(intro w' hSw;clear hSw;go_simp;try (with_reducible rfl))
       simp only [sB,sC];refine ak (by kernel_rfl) ?_ _ _;refine NoPanic.normal ?_;clear x1;clear hWr7;have HMc:=hid ((HMa.out.set (u+fx) (v+fy)).drew);have e0:(((w11.setCell ⟨gT,0,none⟩ (.int .i64 (u+fx))).setCell ⟨gT,1,none⟩ (.int .i64 (v+fy))).drew).cell? ⟨ge+1,0,none⟩=some (.int .i64 fx):=far2 hn3 d0;have e1:(((w11.setCell ⟨gT,0,none⟩ (.int .i64 (u+fx))).setCell ⟨gT,1,none⟩ (.int .i64 (v+fy))).drew).cell? ⟨ge+1,1,none⟩=some (.int .i64 fy):=far2 hn3 d1;clear HMa c0 c1 d0 d1 tf;generalize ((w11.setCell ⟨gT,0,none⟩ (.int .i64 (u+fx))).setCell ⟨gT,1,none⟩ (.int .i64 (v+fy))).drew=w13 at *
       go_wp2;go_roundw
       case rel=>exact ⟨a.length,(y+1),f',o ++ [(u,v)],by omega,by omega,by omega,by go_num,by go_num,by have:=HOL.out;simp;omega,by rw [List.append_assoc,List.singleton_append,← HGO.out];exact HTOT.out,by rw [HU2.out.1,HU2.out.2];exact HMc.out⟩
       case measure=>simp [intOf];omega
      ·subst hxe hye
       have HEN:Hid (o=bX a b):=by
        show _=_;rw [HR.out.2,← HTOT.out]
        cases f with
        | zero=>rw [jD,List.append_nil]
        | succ f=>rw [jD,if_neg (by omega),List.append_nil]
       have hBF:=aj HO.out.bel hB5;obtain ⟨Ao,no,co,rfl,hs,hf⟩:=HO.out.own.sl;have HRT:Hid (P5 (bX a b) (iY a b) w (.returned (.tuple #[.slice Ao no co,.int .i64 0])) wo):=⟨Ao,no,co,by rw [HR.out.1],by rw [← HEN.out];exact hs,fun b off e=>by have:=hf b off e;have:=hB5.size;omega,hBF⟩;clear hs hf hBF HO HTOT HEN hu hv hex hey hfx hfy hTT;go_wp2;exact bodyPost_ret (v:=.tuple #[.slice Ao no co,.int .i64 0]) (by simp [results,Tryz.results86,go_sem]) rfl HRT.out
  ·have hne : (aP b != 0) = true := by simp [hE]
   have HR:Hid (iY a b=aP b∧bX a b=[]):=by
    have h:iY a b=aP b:=by unfold iY;rw [if_neg (by simp [HEa.out])]
    exact ⟨h,by unfold bX;rw [if_neg (by rw [h];exact hE)]⟩
   clear hE HEa;go_wp2;refine bodyPost_ret (v:=.tuple #[.slice none 0 0,.int .i64 (aP b)]) (by simp [results,Tryz.results86,go_sem]) rfl ⟨none,0,0,by rw [HR.out.1],by rw [HR.out.2];exact Sl.empty' _,by simp,hB2⟩
 ·have hne : (aP a != 0) = true := by simp [hE]
  have HR:Hid (iY a b=aP a∧bX a b=[]):=by
   have h:iY a b=aP a:=by unfold iY;rw [if_pos hE]
   exact ⟨h,by unfold bX;rw [if_neg (by rw [h];exact hE)]⟩
  clear hE;go_wp2;refine bodyPost_ret (v:=.tuple #[.slice none 0 0,.int .i64 (aP a)]) (by simp [results,Tryz.results86,go_sem]) rfl ⟨none,0,0,by rw [HR.out.1],by rw [HR.out.2];exact Sl.empty' _,by simp,hb1⟩
end
end Go.Proofs.YtokgmcomgflloaaGreat
