/- The walk of TopCast. -/
import Derived.Test.YtodpincpofoiiaaGreatQC45
import Derived.Test.YtodpincpofoiiaaGreatQC48
import Derived.Test.YtodpincpofoiiaaGreatQC49
import Derived.Test.YtodpincpofoiiaaGreatQC19
import Derived.Test.YtodpincpofoiiaaGreatQC04
set_option maxRecDepth 100000
set_option maxHeartbeats 16000000
namespace Go.Proofs.YtodpincpofoiiaaGreat
section
set_option linter.unusedVariables false
set_option linter.unusedSimpArgs false
open Go.RowKit
theorem tcat_calls (x y:Int) (w:World):Calls Tryz.prog 31 #[.int .i64 x,.int .i64 y] w (Ret (vecV (x % 1572864-786432) (y % 1572864-786432)) w):=by
 have h1:=Int.emod_nonneg x (show (1572864:Int)≠0 by omega)
 have h2:=Int.emod_lt_of_pos x (show (0:Int)<1572864 by omega)
 have h3:=Int.emod_nonneg y (show (1572864:Int)≠0 by omega)
 have h4:=Int.emod_lt_of_pos y (show (0:Int)<1572864 by omega)
 generalize hx:x % 1572864=x' at *
 generalize hy:y % 1572864=y' at *
 have HX:=hid hx
 have HY:=hid hy
 clear hx hy
 obtain ⟨g,hg⟩:∃ g,g=w.heap.size:=⟨_,rfl⟩
 obtain ⟨W,hW⟩:∃ W,W=w.alloc (.cells #[.int .i64 0,.int .i64 0] 24):=⟨_,rfl⟩
 have hB:Below w.heap.size w W:=by rw [hW];go_grown
 have k0:W.cell? ⟨g,0,none⟩=some (.int .i64 0):=by rw [hW,hg];go_simp
 have k1:W.cell? ⟨g,1,none⟩=some (.int .i64 0):=by rw [hW,hg];go_simp
 have kf:∀ j,W.frozen? ⟨g,j,none⟩=false:=by rw [hW,hg];intro j;go_simp
 have hge:w.heap.size≤g:=by omega
 have HLG:=hid (lt_of_cell k0)
 have hwx:IntKind.i64.wrap (x'-786432)=x'-786432:=IntWalk.i64_in _ (by omega)
 have hwy:IntKind.i64.wrap (y'-786432)=y'-786432:=IntWalk.i64_in _ (by omega)
 go_enter Tryz.func31,Tryz.ntmps31
 go_upto_region 1 with fail
 rw [← hW,← hg]
 clear hW hg
 go_wp2_with fail
 refine (tbelow_calls x 1572864 (by omega) (by omega) _).mono ?_
 rintro e w1 ⟨rfl,hb1⟩
 rw [HX.out]
 replace k0:=keepCell hb1 k0
 replace k1:=keepCell hb1 k1
 have hB1:=keepBelow hb1 hB
 have kf1:∀ j,w1.frozen? ⟨g,j,none⟩=false:=fun j=>(World.frozen?_of_block (hb1.block _ HLG.out)).trans (kf j)
 clear hB hb1 kf
 go_wp2_with fail
 refine (tbelow_calls y 1572864 (by omega) (by omega) _).mono ?_
 rintro e w2 ⟨rfl,hb2⟩
 rw [HY.out]
 have kf2:∀ j,w2.frozen? ⟨g,j,none⟩=false:=fun j=>(World.frozen?_of_block (hb2.block _ (lt_of_cell k0))).trans (kf1 j)
 replace k0:=keepCell hb2 k0
 replace k1:=keepCell hb2 k1
 have HB2:=hid (keepBelow hb2 hB1)
 have lg:=lt_of_cell k0
 clear hB1 hb2 kf1
 go_wp2
 have hB:=HB2.out
 have hBs:=hB.size
 refine bodyPost_ret (v:=vecV (x'-786432) (y'-786432)) (by simp [results,Tryz.results31,go_sem,k0,k1,lg]) rfl ⟨rfl,?_⟩
 go_grown
theorem run_bodiesT (s j k:Value) (gx gy st:Int) (w:World):(Instr.field 33 (.agg #[s,j,k,.int .i64 gx,.int .i64 gy,.int .i64 st]) 0).run Tryz.prog w = .ok s w:=by kernel_rfl

structure Cv (w : World) (g : Nat) (x y : Int) : Prop where
 a:w.cell? ⟨g,0,none⟩=some (.int .i64 x)
 b:w.cell? ⟨g,1,none⟩=some (.int .i64 y)
theorem keepCv {w w':World} {g:Nat} {x y:Int} (hb:Below w.heap.size w w') (h:Cv w g x y):Cv w' g x y:=⟨keepCell hb h.a,keepCell hb h.b⟩
theorem keepSlBT {w w':World} {A:Option Addr} {n c:Nat} {L:List BE} (hb:Below w.heap.size w w') (h:SlB w A n c L):SlB w' A n c L:=h.below hb

theorem SlB.subT {w:World} {b o c a:Nat} {L:List BE} (h:SlB w (some ⟨b,o,none⟩) L.length c L) (ha:a<L.length):SlB w (some ⟨b,o+a*13,none⟩) 1 (c-a) [L[a]]:=by
 have hc:=h.sl.cap
 have hg:=h.sl.big
 refine ⟨⟨rfl,by omega,by omega,fun _=>⟨b,o+a*13,rfl,?_⟩⟩,fun y hy=>by rw [List.mem_singleton.1 hy];exact h.co _ (List.getElem_mem ha)⟩
 obtain ⟨b',o',e,hC⟩:=h.sl.at_ (by intro q;rw [q] at ha;simp at ha)
 cases e
 refine ⟨hC.lt,fun j hj i v hv=>?_⟩
 have hj0:j=0:=by simpa using hj
 subst hj0
 have:=hC.at_ a ha i v hv
 show w.cell? ⟨b,o+a*13+0*13+i,none⟩=some v
 rw [Nat.zero_mul,Nat.add_zero]
 exact this
theorem topCast_walk (A:Option Addr) (n c:Nat) (r:List Int) (x y u v:Int) (w:World) (hS:SlI w A n c r):Calls Tryz.prog 8 #[.slice A n c,.int .i64 x,.int .i64 y,.int .i64 u,.int .i64 v] w (Ret (.bool true) w):=by
 have HSI:=hid hS
 clear hS
 go_enter Tryz.func8,Tryz.ntmps8
 go_wp2_with fail
 refine (scene_calls A n c r _ HSI.out).mono ?_
 rintro e w1 ⟨sv,jv,L,J,gy,st,rfl,hok⟩
 obtain ⟨A1,n1,c1,rfl,hs1,-⟩:=hok.own.sl
 obtain ⟨A8,n8,c8,rfl,-,-⟩:=hok.jown.sl
 obtain rfl:n1=L.length:=hs1.len
 have HV:=hid (made_all (fun x hx=>(hok.co x hx).2))
 have HBE:Hid (bodiesE L=0):=hid (bodiesE_okJ (by have:=hok.len;omega) HV.out)
 have HL:=hid (show SlB w1 A1 L.length c1 L from ⟨hs1,fun x hx=>(hok.co x hx).1⟩)
 have HB:=hid hok.bel
 have hcap:=hs1.cap
 have hbig:=hs1.big
 have hfld:∀ w,(Instr.field 33 (.agg #[.slice A1 L.length c1,.slice A8 n8 c8,.slice none 0 0,.int .i64 0,.int .i64 gy,.int .i64 st]) 0).run Tryz.prog w = .ok (.slice A1 L.length c1) w:=fun w=>run_bodiesT _ _ _ _ _ _ w
 clear hok hs1
 have e1:=Int.emod_nonneg x (show (1572864:Int)≠0 by omega)
 have e2:=Int.emod_lt_of_pos x (show (0:Int)<1572864 by omega)
 have e3:=Int.emod_nonneg y (show (1572864:Int)≠0 by omega)
 have e4:=Int.emod_lt_of_pos y (show (0:Int)<1572864 by omega)
 have e5:=Int.emod_nonneg u (show (1572864:Int)≠0 by omega)
 have e6:=Int.emod_lt_of_pos u (show (0:Int)<1572864 by omega)
 have e7:=Int.emod_nonneg v (show (1572864:Int)≠0 by omega)
 have e8:=Int.emod_lt_of_pos v (show (0:Int)<1572864 by omega)
 obtain ⟨fx,hfx⟩:∃ z,z=x % 1572864-786432:=⟨_,rfl⟩
 obtain ⟨fy,hfy⟩:∃ z,z=y % 1572864-786432:=⟨_,rfl⟩
 obtain ⟨ux,hux⟩:∃ z,z=u % 1572864-786432:=⟨_,rfl⟩
 obtain ⟨uy,huy⟩:∃ z,z=v % 1572864-786432:=⟨_,rfl⟩
 have b1 : -786432≤fx∧fx≤786432:=by omega
 have b2 : -786432≤fy∧fy≤786432:=by omega
 have b3 : -786432≤ux∧ux≤786432:=by omega
 have b4 : -786432≤uy∧uy≤786432:=by omega
 have HA1:Hid (∀ w,Calls Tryz.prog 31 #[.int .i64 x,.int .i64 y] w (Ret (vecV fx fy) w)):=hid (fun w=>by rw [hfx,hfy];exact tcat_calls x y w)
 have HA2:Hid (∀ w,Calls Tryz.prog 31 #[.int .i64 u,.int .i64 v] w (Ret (vecV ux uy) w)):=hid (fun w=>by rw [hux,huy];exact tcat_calls u v w)
 clear e1 e2 e3 e4 e5 e6 e7 e8 hfx hfy hux huy
 go_wp2_with fail
 refine (HA1.out _).mono ?_
 rintro e w2 ⟨rfl,hb2⟩
 replace HL:=hid (HL.out.below hb2)
 replace HB:=hid (keepBelow hb2 HB.out)
 clear hb2 HA1
 go_wp2_with fail
 refine (HA2.out _).mono ?_
 rintro e w3 ⟨rfl,hb3⟩
 replace HL:=hid (HL.out.below hb3)
 replace HB:=hid (keepBelow hb3 HB.out)
 clear hb3 HA2
 obtain ⟨gf,hgf⟩:∃ g,g=w3.heap.size:=⟨_,rfl⟩
 obtain ⟨gw,hgw⟩:∃ g,g=w3.heap.size+1:=⟨_,rfl⟩
 obtain ⟨w4,hw4⟩:∃ z,z=w3.alloc (.cells #[.int .i64 fx,.int .i64 fy] 24):=⟨_,rfl⟩
 obtain ⟨w5,hw5⟩:∃ z,z=w4.alloc (.cells #[.int .i64 ux,.int .i64 uy] 24):=⟨_,rfl⟩
 have hb4:Below w3.heap.size w3 w4:=by rw [hw4];exact (Below.refl _ _).alloc (Nat.le_refl _) _
 have hb5:Below w4.heap.size w4 w5:=by rw [hw5];exact (Below.refl _ _).alloc (Nat.le_refl _) _
 have hs4:w4.heap.size=gw:=by rw [hw4,hgw,World.size_alloc]
 have HF:=hid (keepCv hb5 (show Cv w4 gf fx fy by rw [hw4,hgf];exact ⟨by go_simp,by go_simp⟩))
 have HU:=hid (show Cv w5 gw ux uy by rw [hw5,← hs4];exact ⟨by go_simp,by go_simp⟩)
 replace HL:=hid ((HL.out.below hb4).below hb5)
 replace HB:=hid (keepBelow hb5 (keepBelow hb4 HB.out))
 clear hb4 hb5 hs4
 go_upto_region 4 with fail
 rw [← hgw,← hgf,← hw4,← hw5]
 clear hgf hgw hw4 hw5
 have hwf:withinB 65536000 fx fy=true:=withinB_iff.2 (by omega)
 have hwu:withinB 65536000 ux uy=true:=withinB_iff.2 (by omega)
 obtain ⟨o,ho⟩:∃ o,o=castO L (fx,fy) (ux,uy):=⟨_,rfl⟩
 have HO:=hid ho
 have HC1:Hid (∀ w',SlB w' A1 L.length c1 L→Calls Tryz.prog 32 #[.slice A1 L.length c1,vecV fx fy,vecV ux uy] w' (Ret (.tuple #[.int .i64 (frI o),.int .i64 (beZ o),.int .i64 (frE o)]) w')):=hid (fun w' h=>by
  have h1:=cast_calls A1 L.length c1 L fx fy ux uy w' h
  have e:castV L (fx,fy) (ux,uy) = .tuple #[.int .i64 (frI o),.int .i64 (beZ o),.int .i64 (frE o)]:=by
   unfold castV
   rw [if_neg (by simp [HBE.out]),if_neg (by simp [hwf,hwu]),← ho]
   rfl
  rw [e] at h1
  exact h1)
 have hsp:checkE (spotL fx fy 8)=0:=by
  have e:spotL fx fy 8=movL (spotL 0 0 8) fx fy:=by
   simp only [spotL,movL,List.map_cons,List.map_nil,List.cons.injEq,Prod.mk.injEq,and_true]
   omega
  rw [e]
  exact checkE_movL (by decide) (within_le (within_movL (m:=8) (n:=786432) (by decide) b1 b2) (by omega))
 have HSP:=hid hsp
 obtain ⟨o2,ho2⟩:∃ o2,o2=shapeO L (spotL fx fy 8) (ux,uy):=⟨_,rfl⟩
 have HO2:=hid ho2
 have HSH:Hid (∀ w' B n' c',SlB w' A1 L.length c1 L→Sl w' B n' c' (spotL fx fy 8)→Calls Tryz.prog 33 #[.slice A1 L.length c1,.slice B n' c',vecV ux uy] w' (Ret (.tuple #[.int .i64 (frI o2),.int .i64 (beZ o2),.int .i64 (frE o2)]) w')):=hid (fun w' B n' c' h h2=>by
  have h1:=rayShape_calls A1 B L.length c1 n' c' L (spotL fx fy 8) ux uy w' h h2
  have e:shapeV L (spotL fx fy 8) (ux,uy) = .tuple #[.int .i64 (frI o2),.int .i64 (beZ o2),.int .i64 (frE o2)]:=by
   unfold shapeV
   rw [if_neg (by simp [HBE.out]),if_neg (by simp [hsp]),if_neg (by simp [hwu]),← ho2]
   rfl
  rw [e] at h1
  exact h1)
 clear ho ho2 hsp hwf hwu
 obtain ⟨k0,k1⟩:=HF.out
 obtain ⟨k2,k3⟩:=HU.out
 have l1:=lt_of_cell k0
 have l2:=lt_of_cell k2
 go_wp2_with fail
 refine (HC1.out _ HL.out).mono ?_
 rintro e w6 ⟨rfl,hb6⟩
 replace HF:=hid (keepCv hb6 HF.out)
 replace HU:=hid (keepCv hb6 HU.out)
 replace HL:=hid (HL.out.below hb6)
 replace HB:=hid (keepBelow hb6 HB.out)
 clear hb6 HC1 k0 k1 k2 k3 l1 l2
 have v1:IntKind.i64.wrap (fx-8)=fx-8:=IntWalk.i64_in _ (by omega)
 have v2:IntKind.i64.wrap (fy-8)=fy-8:=IntWalk.i64_in _ (by omega)
 have v3:IntKind.i64.wrap (fx+8)=fx+8:=IntWalk.i64_in _ (by omega)
 have v4:IntKind.i64.wrap (fy+8)=fy+8:=IntWalk.i64_in _ (by omega)
 obtain ⟨k0,k1⟩:=HF.out
 have l1:=lt_of_cell k0
 obtain ⟨gp,hgp⟩:∃ g,g=w6.heap.size:=⟨_,rfl⟩
 obtain ⟨w7,hw7⟩:∃ z,z=w6.alloc (.cells #[.int .i64 (fx-8),.int .i64 (fy-8),.int .i64 (fx+8),.int .i64 (fy-8),.int .i64 (fx+8),.int .i64 (fy+8),.int .i64 (fx-8),.int .i64 (fy+8)] 24):=⟨_,rfl⟩
 have hb7:Below w6.heap.size w6 w7:=by rw [hw7];exact (Below.refl _ _).alloc (Nat.le_refl _) _
 have HP:Hid (Sl w7 (some ⟨gp,0,none⟩) 4 4 (spotL fx fy 8)):=hid (by rw [hw7,hgp];exact Sl.of4 _ _ _ _ _ _ _ _ (by go_simp) (by go_simp) (by go_simp) (by go_simp) (by go_simp) (by go_simp) (by go_simp) (by go_simp) (by omega) (by omega))
 replace HF:=hid (keepCv hb7 HF.out)
 replace HU:=hid (keepCv hb7 HU.out)
 replace HL:=hid (HL.out.below hb7)
 replace HB:=hid (keepBelow hb7 HB.out)
 clear hb7
 go_upto_region 6 with fail
 rw [← hgp,← hw7]
 clear hgp hw7 k0 k1 l1 v1 v2 v3 v4
 obtain ⟨k2,k3⟩:=HU.out
 have l2:=lt_of_cell k2
 go_wp2_with fail
 refine (HSH.out _ _ _ _ HL.out HP.out).mono ?_
 rintro e w8 ⟨rfl,hb8⟩
 replace HF:=hid (keepCv hb8 HF.out)
 replace HU:=hid (keepCv hb8 HU.out)
 replace HL:=hid (HL.out.below hb8)
 replace HB:=hid (keepBelow hb8 HB.out)
 clear hb8 HSH HP k2 k3 l2
 go_wp2_with fail
 refine (h7begun_calls _).mono ?_
 rintro e w9 ⟨rfl,hb9⟩
 replace HF:=hid (keepCv hb9 HF.out)
 replace HU:=hid (keepCv hb9 HU.out)
 replace HL:=hid (HL.out.below hb9)
 replace HB:=hid (keepBelow hb9 HB.out)
 clear hb9
 cases o with
 | none =>
  rw [show frE none=4 from rfl]
  have HBF:=HB
  clear HF HU HL HO HO2
  go_wp2
  go_returns
  exact ret_bool (by simp) HBF.out
 | some ab =>
  obtain ⟨a,b⟩:=ab
  obtain ⟨ha,⟨k,s,hs1,hs2⟩,s2,hs3,hs4⟩:=cast_law HV.out (f:=(fx,fy)) (u:=(ux,uy)) (h:=8) HSP.out HO.out.symm
  obtain ⟨-,N,M,hM,hN0,hN1,hbN,-⟩:=castLaw_some HO.out.symm HV.out
  have hb0:0≤b:=by rw [hbN];exact Int.ediv_nonneg (by omega) (by omega)
  have hb1:b≤65536:=by
   rw [hbN]
   have h1:=Int.ediv_le_ediv hM (show N*65536≤65536*M by omega)
   rwa [Int.mul_ediv_cancel _ (by omega)] at h1
  rw [HO2.out,hs1]
  have HC2:Hid (∀ w' (b' o':Nat),SlB w' (some ⟨b',o',none⟩) 1 (c1-a) [L[a]]→Calls Tryz.prog 32 #[.slice (some ⟨b',o',none⟩) 1 (c1-a),vecV (fx+ux) (fy+uy),vecV (-ux) (-uy)] w' (Ret (.tuple #[.int .i64 0,.int .i64 s2,.int .i64 0]) w')):=hid (fun w' b' o' h=>by
   have h1:=cast_calls (some ⟨b',o',none⟩) 1 (c1-a) [L[a]] (fx+ux) (fy+uy) (-ux) (-uy) w' h
   have e:castV [L[a]] (fx+ux,fy+uy) (-ux,-uy) = .tuple #[.int .i64 0,.int .i64 s2,.int .i64 0]:=by
    have w1:withinB 65536000 (fx+ux) (fy+uy)=true:=withinB_iff.2 (by omega)
    have w2:withinB 65536000 (-ux) (-uy)=true:=withinB_iff.2 (by omega)
    unfold castV
    rw [if_neg (by rw [bodiesE_oneP (HV.out _ (List.getElem_mem ha))];simp),if_neg (by simp [w1,w2]),show castO [L[a]] (fx+ux,fy+uy) (-ux,-uy)=some (0,s2) from hs3]
    rfl
   rw [e] at h1
   exact h1)
  have HAD:Hid (∀ w',Calls Tryz.prog 34 #[vecV fx fy,vecV ux uy] w' (Ret (vecV (fx+ux) (fy+uy)) w')):=hid (fun w'=>by have h:=vadd_calls fx fy ux uy w';rw [addF_smF (by omega) (by omega),addF_smF (by omega) (by omega)] at h;exact h)
  rw [show frI (some (a,b))=(a:Int) from rfl,show beZ (some (a,b))=b from rfl,show frE (some (a,b))=0 from rfl,show beZ (some (k,s))=s from rfl,show frE (some (k,s))=0 from rfl]
  obtain ⟨bL,oL,rfl,hCL⟩:=HL.out.sl.at_ (by intro q;rw [q] at ha;simp at ha)
  have lL:=hCL.lt
  have ha':(a:Int)<(L.length:Int):=by omega
  have hac:a<c1:=by omega
  have hac1:a+1≤c1:=by omega
  have hq1:0≤(a:Int)+1:=by omega
  have hq2:(a:Int)+1≤(c1:Int):=by omega
  have hq3:¬ c1=a:=by omega
  have n1:¬ (a:Int) ≥ (L.length:Int):=by omega
  have n2:¬ s > b:=by omega
  have wa:IntKind.i64.wrap ((a:Int)+1)=(a:Int)+1:=IntWalk.i64_in _ (by omega)
  have wx:IntKind.i64.wrap (-ux) = -ux:=IntWalk.i64_in _ (by omega)
  have wy:IntKind.i64.wrap (-uy) = -uy:=IntWalk.i64_in _ (by omega)
  have wb:IntKind.i64.wrap (65536-b)=65536-b:=IntWalk.i64_in _ (by omega)
  have HL2:=HL
  clear hCL hs1 hs3 hbN hM hN0 hN1 HO HO2 HL
  have HL:=HL2
  clear HL2
  go_upto_region 13 with fail
  refine wp_region_noPanic ?_
  refine wp_region_U (S:=(S2 (fun w'=>Cv w' gf fx fy∧Cv w' gw ux uy∧SlB w' (some ⟨bL,oL,none⟩) L.length c1 L∧Bq w w'))) (T:=(fun _=>0)) (by kernel_rfl) (S2i0 ⟨keepCv (Below.refl _ _).drew HF.out,keepCv (Below.refl _ _).drew HU.out,keepSlBT (Below.refl _ _).drew HL.out,⟨HB.out.drew⟩⟩) (fun hH=>?_)
  have hWr1:Weaker (S2 (fun w'=>Cv w' gf fx fy∧Cv w' gw ux uy∧SlB w' (some ⟨bL,oL,none⟩) L.length c1 L∧Bq w w')):=weaker2 _
  refine Utn [(0,111),(1,112),(2,113),(3,114),(4,115),(5,116),(6,117),(8,119),(9,120),(10,121),(11,122),(12,123),(13,124),(14,125)] 9 0 0 (L':=?Lr1_1) hWr1 hH ?yr1_1 ?_
  case yr1_1=>((iterate 14 apply tkC;rfl;kernel_rfl;intro w' hSw;replace hSw:=S2o0 hSw;(try dsimp only at hSw);have q0:=hSw.1;have q1:=hSw.2.1;have q2:=hSw.2.2.1;have q3:=hSw.2.2.2;obtain ⟨qa0_0,qa0_1⟩:=id q0;obtain ⟨qa1_0,qa1_1⟩:=id q1;(try simp only [sB,sC]);go_simp;(try with_reducible rfl));exact tkN)
  simp only [sB,sC]
  refine U1 7 0 rfl (fun K hK=>?_)
  try clear hb
  go_simp
  (go_at_call 34;refine (HAD.out _).mono ?_;rintro e wn ⟨rfl,hb⟩)
  refine hK.out _ _ (S2i0 (by have hG:=hH;replace hG:=S2o0 hG;(try dsimp only at hG);have q0:=hG.1;have q1:=hG.2.1;have q2:=hG.2.2.1;have q3:=hG.2.2.2;exact ⟨keepCv hb q0,keepCv hb q1,keepSlBT hb q2,keepBq hb q3⟩)) (fun hH2=>?_)
  clear hK K hH
  rename _=>hH
  try simp only [Act.put,sA,sB,sC]
  refine U1 15 0 rfl (fun K hK=>?_)
  try clear hb
  have hG:=hH
  replace hG:=S2o0 hG;(try dsimp only at hG);have fq0:=hG.1;have fq1:=hG.2.1;have fq2:=hG.2.2.1;have fq3:=hG.2.2.2
  go_simp
  (go_at_call 32;refine (HC2.out _ _ _ (fq2.subT ha)).mono ?_;rintro e wm ⟨rfl,hb⟩)
  refine hK.out _ _ (S2i0 (by have hG:=hH;replace hG:=S2o0 hG;(try dsimp only at hG);have q0:=hG.1;have q1:=hG.2.1;have q2:=hG.2.2.1;have q3:=hG.2.2.2;exact ⟨keepCv hb q0,keepCv hb q1,keepSlBT hb q2,keepBq hb q3⟩)) (fun hH2=>?_)
  clear hK K hH
  rename _=>hH
  try simp only [Act.put,sA,sB,sC]
  clear hG fq0 fq1 fq2 fq3
  refine Utn [(16,110),(17,127),(18,128),(19,129),(20,22),(21,23),(22,24)] 0 0 0 (L':=?Lr1_17) hWr1 hH ?yr1_17 ?_
  case yr1_17=>((iterate 7 apply tkC;rfl;kernel_rfl;intro w' hSw;clear hSw;(try simp only [sB,sC]);go_simp;(try with_reducible rfl));exact tkN)
  simp only [sB,sC]
  refine wpAnyU_done (by kernel_rfl) ?_ _ _
  refine NoPanic.normal ?_
  replace hH:=S2o0 hH
  (try dsimp only at hH)
  have q0:=hH.1
  have q1:=hH.2.1
  have q2:=hH.2.2.1
  have q3:=hH.2.2.2
  have HBF:=hid q3.b
  clear q0 q1 q2 q3 hH
  go_wp2
  go_returns
  exact ret_bool (by simp) HBF.out
end
end Go.Proofs.YtodpincpofoiiaaGreat
