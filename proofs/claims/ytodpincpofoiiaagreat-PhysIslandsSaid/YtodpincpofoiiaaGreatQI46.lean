/- Parts of a proof: contracts and laws. -/
import Derived.Test.YtodpincpofoiiaaGreatQI43
import Derived.Test.YtodpincpofoiiaaGreatQI44
import Derived.Test.YtodpincpofoiiaaGreatQILB
import Derived.Test.YtodpincpofoiiaaGreatQI18
import Derived.Test.YtodpincpofoiiaaGreatQI08
import Derived.Test.YtodpincpofoiiaaGreatQI03
set_option maxRecDepth 100000
set_option maxHeartbeats 16000000
namespace Go.Proofs.YtodpincpofoiiaaGreat
section
set_option linter.unusedVariables false
set_option linter.unusedSimpArgs false
open Go.RowKit
theorem bodiesE_oneP {x:BE} (h:bodyE x.b x.l=0):bodiesE [x]=0:=bodiesE_okJ (by simp) (fun y hy=>by rw [List.mem_singleton.1 hy];exact h)
theorem scene_one {x:BE} {gx gy st:Int} (h:bodyE x.b x.l=0) (hg:¬ gravBad gx gy st):sceneE [x] [] [] gx gy st=0:=by
 have hb:=bodiesE_oneP h
 have hc:contactsE [x] []=0:=by unfold contactsE;rw [if_neg (by simp [hb]),if_neg (by simp)];rfl
 have hj:jointsE [x] []=0:=by unfold jointsE;rw [if_neg (by simp [hb]),if_neg (by simp)];rfl
 unfold sceneE
 rw [if_neg (by simp [hc]),if_neg (by simp [hj]),if_neg (by decide),if_neg hg]
theorem pairs_one (b:Bx):pairsL [b]=[]:=List.eq_nil_iff_forall_not_mem.2 fun p hp=>by
 have:=mem_pairs.1 hp
 simp at this
 omega
theorem one_val {L:List BE} {y:Bd} {l:List V} (h:L.map valB=[(y,l)]):∃ z:BE,L=[z]∧z.b=y∧z.l=l:=by
 match L,h with
 | [z],h =>
  simp only [List.map_cons,List.map_nil,List.cons.injEq,and_true] at h
  exact ⟨z,rfl,congrArg Prod.fst h,congrArg Prod.snd h⟩
 | [],h=>cases h
 | a :: b :: r,h=>cases h
theorem wake_one {x:BE} {f:Nat→Nat} (h:x.b.asleep=false):wakeL [x] f=[x]:=by
 unfold wakeL wkB
 simp [h]
theorem pstep1_calls {w : World} {A Aj Ac : Option Addr} {c nj cj nc cc : Nat} (x : BE) (gx gy st : Int) (y : Bd) (hS : SlB w A 1 c [x]) (hJ : SlE layJ w Aj nj cj []) (hC : SlE layC w Ac nc cc [])
  (hE:bodyE x.b x.l=0) (hg:¬ gravBad gx gy st) (ha:x.b.asleep=false) (hy:(fallB gx gy st x).b=y) (hyE:bodyE y x.l=0) (hyc:0≤y.calm∧y.calm≤1000) (hym:0≤y.mass) :
  Calls Tryz.prog 16 #[.agg #[.slice A 1 c,.slice Aj nj cj,.slice Ac nc cc,.int .i64 gx,.int .i64 gy,.int .i64 st]] w (RetStep [(moveB y x.l (mulF st 65536),x.l)] id [] [] gx gy st w):=by
 have hst:1≤st∧st≤65536:=by unfold gravBad at hg;omega
 have hx3:x.l≠[]:=fun e=>by rw [e] at hE;exact absurd (bodyE_zero hE).1 (by decide)
 have hx8:x.l.length≤8:=(checkE_zero (shapeE_zero (bodyE_zero hE).1)).1
 have hfv:((wakeL [x] id).map (fallB gx gy st)).map valB=[(y,x.l)]:=by
  rw [wake_one ha]
  show [valB (fallB gx gy st x)]=_
  unfold valB
  rw [hy,(fallB_same gx gy st x).2]
 have hm := pstep_calls hS hJ hC gx gy st (scene_one hE hg) (by omega) [] [] id rfl [(y, x.l)] [(y, x.l)] [65536] (fun z hz => by cases hz)
  (fun w' h1 h2=>kfindn_calls A Ac 1 c nc cc [x] [] w' h1 h2 (bodiesE_oneP hE) (by unfold nearL;rw [show ([x]:List BE).map bxB=[bxB x] from rfl,pairs_one];rfl))
  (fun w' A' n' c' L1 hs hm hj=>by
   rw [hfv] at hm
   have h:=jrun0_calls A' Aj n' c' nj cj L1 [] st 8 w' hs hj rfl
   obtain ⟨z,rfl,hz1,hz2⟩:=one_val hm
   have he:runE [z] [] st 8=0:=by
    have hj:jointsE [z] []=0:=by unfold jointsE;rw [bodiesE_oneP (by rw [hz1,hz2];exact hyE)];rfl
    unfold runE
    rw [if_neg (by simp [hj]),if_neg (by omega)]
   have hq:runQ [z] [] st 8=[(y,x.l)]:=by unfold runQ;rw [if_pos he,hm];rfl
   rwa [he,hq] at h)
  (fun w' A' n' c' L2 B m d hs hm hk=>by
   have h:=srun0_calls A' B n' c' m d L2 [] st 8 w' hs hk rfl
   obtain ⟨z,rfl,hz1,hz2⟩:=one_val hm
   have he:srunE [z] [] st 8=0:=by
    have hc:contactsE [z] []=0:=by unfold contactsE;rw [bodiesE_oneP (by rw [hz1,hz2];exact hyE)];rfl
    unfold srunE
    rw [if_neg (by simp [hc]),if_neg (by omega)]
   have hq:srunS [z] [] st 8=([(y,x.l)],[]):=by unfold srunS;rw [if_pos he,hm];exact solveQ_nil _ _ _
   rwa [he,hq] at h)
  (fun w' A' n' c' L3 hs hm=>by
   obtain ⟨z,rfl,hz1,hz2⟩:=one_val hm
   have hn:n'=1:=hs.sl.len
   subst hn
   have h := partsn_calls A' 1 c' [z] st w' hs (by omega) (fun q hq bx off e => by rw [List.mem_singleton.1 hq] at e; exact sl_lt (hs.co z (List.mem_singleton.2 rfl)) (by rw [hz2]; exact hx3) bx off e) (fun q hq => by rw [List.mem_singleton.1 hq, hz2]; omega)
    (fun p hp=>by rw [show (([z]:List BE).map valB).map (swB st)=[swB st (valB z)] from rfl,pairs_one] at hp;cases hp)
   refine h.mono ?_
   rintro e w2 ⟨gs,rfl,h1,-,h2,-,h3⟩
   refine ⟨gs,rfl,h1,fun j hj=>?_,h3⟩
   have hj0:j=0:=by simpa using hj
   subst hj0
   exact h2 0 (by omega))
  rfl rfl (fun q hq=>by rw [List.mem_singleton.1 hq];exact ⟨hx3,by show x.l.length≤1000;omega,hym,hyc⟩)
 exact hm
end
end Go.Proofs.YtodpincpofoiiaaGreat
namespace Go.Proofs.YtodpincpofoiiaaGreat
section
set_option linter.unusedVariables false
set_option linter.unusedSimpArgs false
open Go.RowKit
def bdK (x y m:Int):Bd:=⟨x*65536,y*65536,0,0,0,0,m,m,0,0,false,0⟩
def RetBlk (b:Bd) (l:List V) (w:World) (e:Ending) (w':World):Prop:=∃ A n c,e = .returned (bodyV b A n c)∧Sl w' A n c l∧(∀ bx off,A=some ⟨bx,off,none⟩→w.heap.size≤bx)∧Below w.heap.size w w'
theorem squareKV_calls (x y s:Int) (hx : -1048576≤x∧x≤1048576) (hy : -1048576≤y∧y≤1048576) (hs : -1048576≤s∧s≤1048576) (w:World):Calls Tryz.prog 152 #[.int .i64 x,.int .i64 y,.int .i64 s] w (RetVecs (sqK x y s) w):=by
 go_enter Tryz.func152,Tryz.ntmps152
 go_wp2
 go_returns
 exact ⟨_,_,_,rfl,Sl.of4 _ _ _ _ _ _ _ _ (by go_simp) (by go_simp) (by go_simp) (by go_simp) (by go_simp) (by go_simp) (by go_simp) (by go_simp) (by omega) (by omega),fun b off e=>by cases e;simp,by go_grown⟩
theorem Sl.setBdN {w:World} {A:Option Addr} {n c g:Nat} {l:List V} (h:Sl w A n c l) (b:Bd) (A':Option Addr) (n' c':Nat) (hne:l≠[]→∀ bx off,A=some ⟨bx,off,none⟩→bx≠g):Sl (Go.Proofs.YtodpincpofoiiaaGreat.setBd w g b A' n' c') A n c l:=by
 by_cases hl:l=[]
 ·exact ⟨h.len,h.cap,h.big,fun hne=>absurd hl hne⟩
 ·unfold Go.Proofs.YtodpincpofoiiaaGreat.setBd
  iterate 13 refine Sl.setAt ?_ (hne hl)
  exact h
theorem Sl.setAt2 {w:World} {A:Option Addr} {n c g o:Nat} {l:List V} {v:Value} (h:Sl w A n c l) (hne:l≠[]→∀ b off,A=some ⟨b,off,none⟩→b≠g):Sl (w.setCell ⟨g,o,none⟩ v) A n c l:=by
 by_cases hl:l=[]
 ·exact ⟨h.len,h.cap,h.big,fun k=>absurd hl k⟩
 ·exact h.setAt (hne hl)
theorem kblock_calls_mov (x y h:Int) (hx : -1048576≤x∧x≤1048576) (hy : -1048576≤y∧y≤1048576) (hh : -1048576≤h∧h≤1048576) (w:World):Calls Tryz.prog 69 #[.int .i64 x,.int .i64 y,.int .i64 h,.bool true] w (RetBlk (bdK x y 65536) (sqK 0 0 h) w):=by
 have HSQ:=hid (squareKV_calls 0 0 h (by omega) (by omega) hh)
 generalize sqK 0 0 h=q at *
 obtain ⟨W,hW⟩:∃ W,W=w.alloc (.cells #[.int .i64 0,.int .i64 0,.int .i64 0,.int .i64 0,.int .i64 0,.int .i64 0,.int .i64 0,.int .i64 0,.int .i64 0,.int .i64 0,.slice none 0 0,.bool false,.int .i64 0] 27):=⟨_,rfl⟩
 have HZ:=hid (show BdZ W w.heap.size by rw [hW];exact BdZ.of (BdAt.here w (bdK 0 0 0) none 0 0 _))
 have hB0:Below w.heap.size w W:=by rw [hW];go_grown
 go_enter Tryz.func69,Tryz.ntmps69
 go_wp2_with fail
 rw [← hW]
 clear hW
 refine (HSQ.out _).mono ?_
 rintro e w1 ⟨A,n,c,rfl,hs,hf,hb⟩
 have HF:=hid hf
 have hB:=keepBelow hb hB0
 have hlt:w.heap.size<W.heap.size:=HZ.out.lt
 have HLT:=hid hlt
 replace HZ:=hid (keepBdZ hb HZ.out)
 obtain ⟨w2,hw2⟩:∃ w2,w2=w1.alloc (.cells #[.int .i64 (x*65536),.int .i64 (y*65536),.int .i64 0,.int .i64 0,.int .i64 0,.int .i64 0,.int .i64 0,.int .i64 0,.int .i64 0,.int .i64 0,.slice A n c,.bool false,.int .i64 0] 27):=⟨_,rfl⟩
 obtain ⟨g,hg⟩:∃ g,g=w1.heap.size:=⟨_,rfl⟩
 have HK:=hid (show BdAt w2 g (bdK x y 0) A n c by rw [hw2,hg];exact BdAt.here w1 (bdK x y 0) A n c _)
 have HS:=hid (show Sl w2 A n c q by rw [hw2];exact hs.below Ba)
 have HZ2:=hid (show BdZ w2 w.heap.size by rw [hw2];exact HZ.out.alloc _)
 have hB2:Below w.heap.size w w2:=by rw [hw2];exact hB.alloc hB.size _
 have HGF:Hid (q≠[]→∀ bx off,A=some ⟨bx,off,none⟩→bx≠g):=fun hne bx off e=>by
  obtain ⟨b',off',e',hc⟩:=hs.at_ hne
  have:=hc.lt
  rw [e] at e';cases e';rw [hg];omega
 have HNF:Hid (∀ bx off,A=some ⟨bx,off,none⟩→w.heap.size≤bx):=fun bx off e=>by have:=hf bx off e;omega
 have hgw:w.heap.size<g:=by have:=hb.size;rw [hg];omega
 obtain ⟨z0,z1,z2,z3,z4,z5,z6,z7,z8,z9,z10,z11,z12,y0,y1,y2,y3,y4,y5,y6,y7,y8,y9,y10,y11,y12⟩:=HZ2.out.all
 have yf:=HZ2.out.free
 obtain ⟨k0,k1,k2,k3,k4,k5,k6,k7,k8,k9,k10,k11,k12,kf⟩:=HK.out
 have hl1:w.heap.size<w2.heap.size:=HZ2.out.lt
 have hl2:g<w2.heap.size:=HK.out.lt
 clear hs hf hb hB hB0 hlt HZ HSQ HK
 simp only [bdK] at k0 k1 k2 k3 k4 k5 k6 k7 k8 k9 k11 k12
 go_upto_if 18 with fail
 rw [← hw2,← hg]
 clear hw2 hg
 go_wp2
 refine bodyPost_ret (v:=bodyV (bdK x y 65536) A n c) (by simp [results,Tryz.results69,go_sem,y0,y1,y2,y3,y4,y5,y6,y7,y8,y9,y10,y11,y12,hl1,bodyV,bdK]) rfl ⟨A,n,c,rfl,?_,HNF.out,?_⟩
 ·exact Sl.setBdN (Sl.setAt2 (Sl.setAt2 HS.out HGF.out) HGF.out) (bdK x y 65536) A n c (fun hne bx off e=>by have:=HF.out bx off e;have:=HLT.out;omega)
 ·go_grown
end
end Go.Proofs.YtodpincpofoiiaaGreat
namespace Go.Proofs.YtodpincpofoiiaaGreat
section
set_option linter.unusedVariables false
set_option linter.unusedSimpArgs false
open Go.RowKit
def stY:Bd:=⟨0,327680,0,-10240,0,0,65536,65536,0,0,false,0⟩
def stM:Bd:=⟨0,327520,0,-10240,0,0,65536,65536,0,0,false,0⟩
theorem st_y (A:Option Addr) (n c:Nat) (l:List V):(fallB 0 (-655360) 1024 ⟨bdK 0 5 65536,A,n,c,l⟩).b=stY:=by kernel_rfl
theorem st_e:bodyE (bdK 0 5 65536) (sqK 0 0 1)=0∧bodyE stY (sqK 0 0 1)=0:=⟨by kernel_rfl,by kernel_rfl⟩
theorem st_m:moveB stY (sqK 0 0 1) (mulF 1024 65536)=stM:=by kernel_rfl
theorem st_r (A:Option Addr) (n c:Nat) (l:List V):(restL [⟨stM,A,n,c,l⟩] id).map (fun z=>(z.b.py,z.b.vy))=[(327520,-10240)]:=by kernel_rfl
theorem st_g:¬ gravBad 0 (-655360) 1024:=by decide

theorem rest_one {w:World} {A:Option Addr} {n c:Nat} {L':List BE} {l:List V} (hS:SlB w A n c (restL L' id)) (hm:L'.map valB=[(stM,l)]):n=1∧∃ b off,A=some ⟨b,off,none⟩∧w.cell? ⟨b,off+1,none⟩=some (.int .i64 327520)∧w.cell? ⟨b,off+3,none⟩=some (.int .i64 (-10240)):=by
 obtain ⟨⟨zb,zA,zn,zc,zl⟩,rfl,h1,h2⟩:=one_val hm
 dsimp only at h1 h2
 subst h1
 have hr:=st_r zA zn zc zl
 have hl:(restL [(⟨stM,zA,zn,zc,zl⟩:BE)] id).length=1:=by have:=congrArg List.length hr;simpa using this
 obtain ⟨b,off,e,hc⟩:=hS.sl.at_ (by intro h;rw [h] at hl;cases hl)
 have h0:0<(restL [(⟨stM,zA,zn,zc,zl⟩:BE)] id).length:=by omega
 obtain ⟨-,c1,-,c3,-⟩:=cells_bd hc h0 rfl
 have hz:((restL [(⟨stM,zA,zn,zc,zl⟩:BE)] id)[0].b.py,(restL [(⟨stM,zA,zn,zc,zl⟩:BE)] id)[0].b.vy)=((327520:Int),(-10240:Int)):=by
  have h9:((restL [(⟨stM,zA,zn,zc,zl⟩:BE)] id).map (fun z=>(z.b.py,z.b.vy)))[0]? = some (327520,-10240):=by rw [hr];rfl
  rw [List.getElem?_map,List.getElem?_eq_getElem h0] at h9
  exact Option.some.inj h9
 have z1:(restL [(⟨stM,zA,zn,zc,zl⟩:BE)] id)[0].b.py=327520:=congrArg Prod.fst hz
 have z2:(restL [(⟨stM,zA,zn,zc,zl⟩:BE)] id)[0].b.vy = -10240:=congrArg Prod.snd hz
 rw [z1] at c1
 rw [z2] at c3
 refine ⟨by have:=hS.sl.len;omega,b,off,e,?_,?_⟩
 ·simpa using c1
 ·simpa using c3
theorem steps_calls (w:World):Calls Tryz.prog 21 #[] w (Ret (.bool true) w):=by
 have HB1:=hid (kblock_calls_mov 0 5 1 (by omega) (by omega) (by omega))
 obtain ⟨q,hq⟩:∃ q,q=sqK 0 0 1:=⟨_,rfl⟩
 have HST:Hid (∀ (w':World) (g:Nat) (A:Option Addr) (n c:Nat),BdAt w' g (bdK 0 5 65536) A n c→Sl w' A n c q→Calls Tryz.prog 16 #[.agg #[.slice (some ⟨g,0,none⟩) 1 1,.slice none 0 0,.slice none 0 0,.int .i64 0,.int .i64 (-655360),.int .i64 1024]] w' (RetStep [(stM,q)] id [] [] 0 (-655360) 1024 w')):=hid (fun w' g A n c hb hs=>by
  have h:=pstep1_calls ⟨bdK 0 5 65536,A,n,c,q⟩ 0 (-655360) 1024 stY (SlB.one (x:=⟨bdK 0 5 65536,A,n,c,q⟩) hb hs) (SlE.nil layJ w') (SlE.nil layC w') (by rw [hq];exact st_e.1) st_g rfl (st_y A n c q) (by rw [hq];exact st_e.2) (by decide) (by decide)
  rw [hq] at h ⊢
  rwa [st_m] at h)
 rw [← hq] at HB1
 clear hq
 go_enter Tryz.func21,Tryz.ntmps21
 go_wp2_with fail
 refine (HB1.out _).mono ?_
 rintro e w1 ⟨A1,n1,c1,rfl,hs1,hf1,hb1⟩
 have HST2:=hid (HST.out (w1.alloc (.cells #[.int .i64 (bdK 0 5 65536).px,.int .i64 (bdK 0 5 65536).py,.int .i64 (bdK 0 5 65536).vx,.int .i64 (bdK 0 5 65536).vy,.int .i64 (bdK 0 5 65536).ang,.int .i64 (bdK 0 5 65536).spin,.int .i64 (bdK 0 5 65536).mass,.int .i64 (bdK 0 5 65536).iner,.int .i64 (bdK 0 5 65536).bounce,.int .i64 (bdK 0 5 65536).rub,.slice A1 n1 c1,.bool (bdK 0 5 65536).asleep,.int .i64 (bdK 0 5 65536).calm] 27)) w1.heap.size A1 n1 c1 (BdAt.here w1 (bdK 0 5 65536) A1 n1 c1 _) (hs1.below Ba))
 have HB:=hid (keepBelow ((Below.refl _ _).alloc (Nat.le_refl _) (.cells #[.int .i64 (bdK 0 5 65536).px,.int .i64 (bdK 0 5 65536).py,.int .i64 (bdK 0 5 65536).vx,.int .i64 (bdK 0 5 65536).vy,.int .i64 (bdK 0 5 65536).ang,.int .i64 (bdK 0 5 65536).spin,.int .i64 (bdK 0 5 65536).mass,.int .i64 (bdK 0 5 65536).iner,.int .i64 (bdK 0 5 65536).bounce,.int .i64 (bdK 0 5 65536).rub,.slice A1 n1 c1,.bool (bdK 0 5 65536).asleep,.int .i64 (bdK 0 5 65536).calm] 27)) hb1)
 clear hs1 hf1 hb1 HB1 HST
 go_wp2_with fail
 refine HST2.out.mono ?_
 rintro e w2 ⟨A2,n2,c2,Aj,nj,cj,Ac,nc,cc,L',rfl,hs2,hj2,hc2,hm2,hb2⟩
 obtain ⟨rfl,b,off,rfl,k1,k3⟩:=rest_one hs2 hm2
 have HBR:=hid (keepBelow hb2 HB.out)
 have lb:=lt_of_cell k3
 clear hs2 hj2 hc2 hm2 hb2 HB HST2
 go_wp2
 go_returns
 exact ret_bool (by simp) (by have h9:=HBR.out;have h8:=h9.size;go_grown)
end
end Go.Proofs.YtodpincpofoiiaaGreat
