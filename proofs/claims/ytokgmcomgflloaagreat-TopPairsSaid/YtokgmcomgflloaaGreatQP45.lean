/- Parts of a proof: contracts and laws. -/
import Derived.Test.YtokgmcomgflloaaGreatQP44
import Derived.Test.YtokgmcomgflloaaGreatQP03
set_option maxRecDepth 100000
set_option maxHeartbeats 16000000
namespace Go.Proofs.YtokgmcomgflloaaGreat
section
set_option linter.unusedVariables false
set_option linter.unusedSimpArgs false
open Go.RowKit
variable {w0 w w':World}

structure zJ (w0 w : World) (out : List Nat) : Prop where
 own:∃ v,w.cell? ⟨w0.heap.size,0,none⟩=some v∧aN bJ 3 w (w0.heap.size+1) v out
 free:∀ j,w.frozen? ⟨w0.heap.size,j,none⟩=false
 bel:Below w0.heap.size w0 w
theorem zJ.keep {out:List Nat} (hb:Below w.heap.size w w') (h:zJ w0 w out):zJ w0 w' out:=by
 obtain ⟨⟨v,hc,ho⟩,hf,hB⟩:=h;have hl:=lt_of_cell hc;exact ⟨⟨v,keepCell hb hc,ho.below hb⟩,fun j=>(World.frozen?_of_block (hb.block _ hl)).trans (hf j),aj hb hB⟩

def CJ (is : Bx → Bool) : TB → List Nat
 | .lf _ i b=>if is b=true then [i] else []
 | .nd g l r=>if is (oh (.nd g l r))=true then CJ is l ++ CJ is r else []
theorem Fv (is : Bx → Bool) : ∀ t : TB, (CJ is t).length ≤ t.lvs.length
 | .lf _ i b=>by unfold CJ;split <;> simp [TB.lvs]
 | .nd g l r=>by
  have h1:=Fv is l
  have h2:=Fv is r
  unfold CJ
  split
  ·simp only [List.length_append,TB.lvs];omega
  ·simp
theorem AL {is : Bx → Bool} (hm : ∀ x y, is x = true ∨ is y = true → is (fF x y) = true) : ∀ t : TB, is (oh t) = false → t.lvs.filter (fun y => is y.2.2) = []
 | .lf g i b,h=>by
  have h:is b=false:=h
  simp [TB.lvs,h]
 | .nd g l r,h=>by
  rw [za] at h
  have hl:is (oh l)=false:=by
   cases e:is (oh l) with
   | false=>rfl
   | true=>rw [hm _ _ (.inl e)] at h;cases h
  have hr:is (oh r)=false:=by
   cases e:is (oh r) with
   | false=>rfl
   | true=>rw [hm _ _ (.inr e)] at h;cases h
  simp only [TB.lvs,List.filter_append];rw [AL hm l hl,AL hm r hr];rfl
theorem NM {is : Bx → Bool} (hm : ∀ x y, is x = true ∨ is y = true → is (fF x y) = true) : ∀ t : TB, CJ is t = (t.lvs.filter (fun y => is y.2.2)).map (fun y => y.2.1)
 | .lf g i b=>by
  unfold CJ
  cases h:is b with
  | true=>simp [TB.lvs,h]
  | false=>simp [TB.lvs,h]
 | .nd g l r=>by
  unfold CJ
  by_cases h:is (oh (.nd g l r))=true
  ·rw [if_pos h, NM hm l, NM hm r]
   simp only [TB.lvs,List.filter_append,List.map_append]
  ·rw [if_neg h, AL hm (.nd g l r) (by simpa using h)]
   rfl
theorem vP {x b:Bx} (h:dY x b=true):fJ x=true:=by
 unfold dY at h
 cases e:fJ x with
 | true=>rfl
 | false=>rw [e] at h;cases h
theorem IE {x y b:Bx} (h:dY x b=true∨dY y b=true):dY (fF x y) b=true:=by
 have hv:fJ x=true∨fJ y=true:=h.imp vP vP
 cases ex:fJ x with
 | false =>
  have hy:=hv.resolve_left (by rw [ex];simp);have h2:dY y b=true:=h.resolve_left fun q=>by have:=vP q;rw [ex] at this;cases this
  have e:fF x y=y:=by unfold fF;simp [ex,hy]
  rw [e];exact h2
 | true =>
  cases ey:fJ y with
  | false =>
   have h2:dY x b=true:=h.resolve_right fun q=>by have:=vP q;rw [ey] at this;cases this
   have e:fF x y=x:=by unfold fF;simp [ex,ey]
   rw [e];exact h2
  | true =>
   have e:fF x y=((min x.1.1 y.1.1,min x.1.2 y.1.2),(max x.2.1 y.2.1,max x.2.2 y.2.2)):=by unfold fF;simp [ex,ey]
   have vx:x.1.1≤x.2.1∧x.1.2≤x.2.2:=by simpa [fJ] using ex
   have vy:y.1.1≤y.2.1∧y.1.2≤y.2.2:=by simpa [fJ] using ey
   rw [e,jT];rw [jT,jT] at h;simp only;omega
theorem qp {w0 : World} {g : Nat} {s : TS} (h : Mem w0 g s) (F G : Nat) (p1 : Value) (is : Bx → Bool)
  (hcf:∀ (args:Array Value) (w:World),(callFunc F args).run Tryz.prog w = .ok (.enter F args) w) (hcg:∀ (args:Array Value) (w:World),(callFunc G args).run Tryz.prog w = .ok (.enter G args) w)
  (HIS:Hid (∀ b1 b2 b3 b4 w',Below w0.heap.size w0 w'→Calls Tryz.prog F #[pJ ((b1,b2),(b3,b4)),p1] w' (dS (.bool (is ((b1,b2),(b3,b4)))) w')))
  (HLF:Hid (∀ gl i b up w' out,s.nd gl=some ⟨b,((i:Nat):Int),0,up,none,none⟩→zJ w0 w' out→out.length<256→Calls Tryz.prog G #[.pointer (pA gl),.pointer (some ⟨w0.heap.size,0,none⟩)] w' (fun e w''=>e = .returned (.tuple #[])∧zJ w0 w'' (out ++ [i])))) :
  ∀ (t : TB) (up : Option Addr) (w : World) (out : List Nat), t.Rp s up → zJ w0 w out → out.length + t.lvs.length ≤ 256 →
   Calls Tryz.prog 206 #[.pointer (pA t.root),.func (.func F) #[] #[p1],.func (.func G) #[] #[.pointer (some ⟨w0.heap.size,0,none⟩)]] w (fun e w'=>e = .returned (.tuple #[])∧zJ w0 w' (out ++ CJ is t))
 | .lf gl i b,up,w,out,hT,hS,hlen=>by
  have HM:=hid h
  have hT:s.nd gl=some ⟨b,(i:Nat),0,up,none,none⟩:=hT
  have hn:=(h.below hS.bel).nd _ _ hT
  obtain ⟨⟨b1,b2⟩,b3,b4⟩:=b
  have HLC:=hid (fun w' (hw:zJ w0 w' out)=>HLF.out gl i _ up w' out hT hw (by simp [TB.lvs] at hlen;omega))
  have HS:=hid hS
  have HB:=hid (HIS.out b1 b2 b3 b4 w hS.bel)
  have HE:Hid (CJ is (.lf gl i ((b1,b2),(b3,b4)))=if is ((b1,b2),(b3,b4))=true then [i] else []):=rfl
  obtain ⟨c0,c1,c2,c3,c4,c5,c6,c7,c8⟩:=hn.cells
  have lg:=lt_of_cell c0
  generalize CJ is (.lf gl i ((b1,b2),(b3,b4)))=L at *
  generalize is ((b1,b2),(b3,b4))=z at *
  show Calls Tryz.prog 206 #[.pointer (pA gl),_,_] w _
  clear h hT hS hn hlen HM HIS HLF
  go_enter Tryz.func206,Tryz.ntmps206
  go_wp2_with fail
  refine HB.out.mono ?_
  rintro e w1 ⟨rfl,hb⟩
  have HS1:=hid (HS.out.keep hb)
  replace c5:=keepCell hb c5
  have lg1:=lt_of_cell c5
  clear c0 c1 c2 c3 c4 c6 c7 c8 lg hb HB HS
  cases z with
  | false =>
   have HR:Hid (zJ w0 w1 (out ++ L)):=by show zJ _ _ _;rw [HE.out];simpa using HS1.out
   clear HS1 HE HLC
   go_wp2
   go_returns
   exact ⟨rfl,HR.out⟩
  | true =>
   have HR:Hid (out ++ L=out ++ [i]):=by show _=_;rw [HE.out];rfl
   have HC:=hid (HLC.out w1 HS1.out)
   clear HS1 HE HLC
   go_wp2_with fail
   refine HC.out.mono ?_
   rintro e w2 ⟨rfl,hw2⟩
   have HW:=hid hw2
   clear hw2 HC
   go_wp2
   go_returns
   exact ⟨rfl,by rw [HR.out];exact HW.out⟩
 | .nd p l r,up,w,out,hT,hS,hlen=>by
  obtain ⟨h1,h2,h3⟩:=hT
  have hn:=(h.below hS.bel).nd _ _ h1
  rcases hbx:oh (TB.nd p l r) with ⟨⟨b1,b2⟩,b3,b4⟩
  rw [hbx] at hn
  have hl2:out.length+l.lvs.length+r.lvs.length≤256:=by simp only [TB.lvs,List.length_append] at hlen;omega
  have HWL:=hid (fun w' hw=>qp h F G p1 is hcf hcg HIS HLF l (pA p) w' out h2 hw (by omega))
  have hwl:=Fv is l
  have HWR:=hid (fun w' hw=>qp h F G p1 is hcf hcg HIS HLF r (pA p) w' (out ++ CJ is l) h3 hw (by rw [List.length_append];omega))
  have HN:Hid (∀ w',Below w0.heap.size w0 w'→w'.cell? ⟨p,8,none⟩=some (.pointer (pA r.root))):=fun w' hb=>((h.below hb).nd _ _ h1).c8
  have HS:=hid hS
  have HB:=hid (HIS.out b1 b2 b3 b4 w hS.bel)
  have HE:Hid (CJ is (.nd p l r)=if is ((b1,b2),(b3,b4))=true then CJ is l ++ CJ is r else []):=by show _=_;rw [← hbx];rfl
  obtain ⟨zh,hzh⟩:∃ z,z=AY (TB.nd p l r):=⟨_,rfl⟩
  have hz:0<zh:=by rw [hzh,vR];have e1:AY l=((l.tr.ht:Nat):Int):=rfl;have e2:AY r=((r.tr.ht:Nat):Int):=rfl;omega
  have hz0:(zh == 0)=false:=by simp;omega
  have hz1:¬ zh=0:=by omega
  rw [← hzh] at hn
  obtain ⟨c0,c1,c2,c3,c4,c5,c6,c7,c8⟩:=hn.cells
  have lg:=lt_of_cell c0
  generalize CJ is (.nd p l r)=L at *
  generalize is ((b1,b2),(b3,b4))=z at *
  show Calls Tryz.prog 206 #[.pointer (pA p),_,_] w _
  generalize l.root=gl at *
  generalize r.root=gr at *
  clear h h1 h2 h3 hS hn hlen HIS HLF hbx hzh hl2 hwl
  go_enter Tryz.func206,Tryz.ntmps206
  go_wp2_with fail
  refine HB.out.mono ?_
  rintro e w1 ⟨rfl,hb⟩
  have HS1:=hid (HS.out.keep hb)
  replace c5:=keepCell hb c5
  replace c7:=keepCell hb c7
  replace c8:=keepCell hb c8
  have lg1:=lt_of_cell c5
  clear c0 c1 c2 c3 c4 c6 lg hb HB HS
  cases z with
  | false =>
   have HR:Hid (zJ w0 w1 (out ++ L)):=by show zJ _ _ _;rw [HE.out];simpa using HS1.out
   clear HS1 HE HWL HWR
   go_wp2
   go_returns
   exact ⟨rfl,HR.out⟩
  | true =>
   have HR:Hid (out ++ L=(out ++ CJ is l) ++ CJ is r):=by show _=_;rw [HE.out,if_pos rfl,List.append_assoc]
   have HC:=hid (HWL.out w1 HS1.out)
   clear HS1 HE HWL
   go_wp2_with fail
   refine HC.out.mono ?_
   rintro e w2 ⟨rfl,hw2⟩
   have k8:=HN.out w2 hw2.bel
   have kl:=lt_of_cell k8
   have HC2:=hid (HWR.out w2 hw2)
   clear hw2 HC HWR HN c5 c7 c8 lg1
   go_wp2_with fail
   refine HC2.out.mono ?_
   rintro e w3 ⟨rfl,hw3⟩
   have HW:=hid hw3
   clear hw3 HC2 k8 kl
   go_wp2
   go_returns
   exact ⟨rfl,by rw [HR.out];exact HW.out⟩
theorem WF.len {s:TS} {t:TB} (hW:WF s (some t)):t.lvs.length≤256:=by
 have:=rY 256 _ hW.ids (fun x hx=>by
  obtain ⟨y,hy,rfl⟩:=List.mem_map.1 hx
  exact hW.lt y hy)
 rwa [List.length_map] at this
theorem Gs {g:Nat} {s:TS} (h:Mem w g s) {t:TB} (hW:WF s (some t)) {i:Nat} (hi:i<256) {y:Nat × (Nat × Bx)} (hy:y ∈ t.lvs) (hyi:y.2.1=i) :
  Calls Tryz.prog 68 #[.pointer (pA g),.int .i64 (i:Nat)] w (BP g s t i w):=by
 obtain ⟨gl,j,b⟩:=y;have hyi:j=i:=hyi;subst hyi;obtain ⟨hr1,hr2,hr3,hr4⟩:=hW.root;obtain ⟨D,hz,hlT,hlC⟩:=oU t [] hy hr2 ⟨rfl,hr1⟩;have hz:jR D (TB.lf gl j b)=t:=hz;have hnl:s.nd gl=some ⟨b,((j:Nat):Int),0,lU D,none,none⟩:=hlT;have hlC:nR s D (lU D) gl:=hlC;have hlv:s.lv j=pA gl:=hW.lv _ hy;have hln:=hW.len;obtain ⟨cn,hcn⟩:∃ z,z=((t.lvs.length:Nat):Int):=⟨_,rfl⟩;have hcnt:s.cnt=cn:=by rw [hcn];exact hW.cnt
 have hcw:IntKind.i64.wrap (cn-1)=cn-1:=IntWalk.i64_in _ (by omega);have i0:¬ (j:Int)<0:=by omega
 have i1:¬ (j:Int) ≥ 256:=by omega
 have i2:(j:Int)<256:=by omega
 have a_0:=h.lv j hi;rw [hlv] at a_0;have a_2:=h.cnt;rw [hcnt] at a_2;have af:=h.free;have lg:=lt_of_cell a_2;obtain ⟨w1,hw1⟩:∃ x,x=w.setCell ⟨g,1+j,none⟩ (.pointer none):=⟨_,rfl⟩;have m1:=h.setLv hi none;rw [← hw1] at m1;have o1:Out (s.In g) w w1:=by rw [hw1];exact (Out.refl _ w).setCell (p:=⟨g,1+j,none⟩) (.inr (.inl rfl)) _
 have b_2:w1.cell? ⟨g,257,none⟩=some (.int .i64 cn):=by rw [hw1];exact aC a_2 (by omega)
 have bf:=m1.free;have lg1:=lt_of_cell b_2;obtain ⟨w2,hw2⟩:∃ x,x=w1.setCell ⟨g,257,none⟩ (.int .i64 (cn-1)):=⟨_,rfl⟩;have m2:=m1.setCnt (cn-1);rw [← hw2] at m2;have o2:Out (s.In g) w w2:=by rw [hw2];exact o1.setCell (p:=⟨g,257,none⟩) (.inr (.inl rfl)) _
 have hD:S9 s { { s with lv:=fun k=>if k=j then none else s.lv k } with cnt:=cn-1 } t.lvs.length j:=⟨fun _=>rfl,fun _=>rfl,by rw [hcn],rfl⟩;have n2:=m2.nd gl _ hnl
 cases D with
 | nil =>
  have hz:TB.lf gl j b=t:=hz;have e6:w2.cell? ⟨gl,6,none⟩=some (.pointer none):=n2.c6;have l6:=lt_of_cell e6;have r0:=m2.root;have rf:=m2.free;have lg2:=lt_of_cell r0;obtain ⟨w3,hw3⟩:∃ x,x=w2.setCell ⟨g,0,none⟩ (.pointer none):=⟨_,rfl⟩;have m3:=m2.setRoot none;rw [← hw3] at m3;have o3:Out (s.In g) w w3:=by rw [hw3];exact o2.setCell (p:=⟨g,0,none⟩) (.inr (.inl rfl)) _
  have pm:t.lvs.Perm ((gl,(j,b)) :: iG none):=by rw [← hz];exact List.Perm.refl _
  have fin:BP g s t j w (.returned (.int .i64 0)) w3:=⟨_,none,gl,b,rfl,m3,o3,Ih hW hD rfl rfl rfl pm,pm,fun k hk=>hk⟩;have FIN:=hid fin;clear h hW hy hr1 hr2 hr3 hr4 hz hlT hlC hnl hlv hln hcn hcnt m1 m2 m3 o1 o2 o3 hD n2 pm fin
  go_enter Tryz.func68,Tryz.ntmps68
  go_upto_region 7 with fail
  rw [← hw1];clear hw1 a_0 a_2 af lg
  go_upto_region 8 with fail
  rw [← hw2];clear hw2 b_2 bf lg1;go_wp2;rw [← hw3]
  go_returns
  exact FIN.out
 | cons f C =>
  have hC2:nR { { s with lv:=fun k=>if k=j then none else s.lv k } with cnt:=cn-1 } (f :: C) (pA f.p) gl:=nR.same hlC (fun _ _=>rfl) rfl;have HT:=hid (drop_tail hW hD hz hC2 m2 o2);obtain ⟨-,up',e1,e2,e3⟩:=hC2;have n3:=m2.nd f.p _ e1;obtain ⟨rs,hrs,-⟩:=e2.top;have n4:=m2.nd f.sib.root _ hrs
  have hne:f.sib.root≠gl:=by
   have hnd:((TB.lf gl j b).blocks ++ iX (f :: C)).Nodup:=by
    have:=mY (f :: C) (TB.lf gl j b);rw [hz] at this;exact (List.Perm.nodup_iff this).1 hr3
   have hnd:(gl :: f.p :: (f.sib.blocks ++ iX C)).Nodup:=hnd;intro e;have ms:=f.sib.root_mem;exact (List.nodup_cons.1 hnd).1 (by rw [← e];simp [ms])
  have e6:w2.cell? ⟨gl,6,none⟩=some (.pointer (some ⟨f.p,0,none⟩)):=n2.c6;have l6:=lt_of_cell e6;have k7:=n3.c7;have k8:=n3.c8;have l7:=lt_of_cell k7;have hq1:=Dx gl w2;have hq2:=EH n4 n2 hne;clear h hW hy hr1 hr2 hr3 hr4 hz hlT hlC hnl hlv hln hcn hcnt m1 m2 o1 o2 hD n2 n3 n4 hrs hne e1 e2 e3;generalize f.sib.root=gs at *
  generalize f.p=gp at *
  cases hlf:f.left with
  | true =>
   rw [hlf] at k7 k8;have k7:w2.cell? ⟨gp,7,none⟩=some (.pointer (some ⟨gl,0,none⟩)):=k7;have k8:w2.cell? ⟨gp,8,none⟩=some (.pointer (some ⟨gs,0,none⟩)):=k8;clear hlf hq2
   go_enter Tryz.func68,Tryz.ntmps68
   go_upto_region 7 with fail
   rw [← hw1];clear hw1 a_0 a_2 af lg
   go_upto_region 8 with fail
   rw [← hw2];clear hw2 b_2 bf lg1
   go_wp2_with fail
   refine HT.out.mono ?_;rintro e w3 ⟨rfl,k6,hm⟩;have HM:=hid hm;have l3:=lt_of_cell k6;clear hm HT e6 l6 k7 k8 l7 hq1
   go_wp2_with fail
   refine HM.out.mono ?_;rintro e w4 ⟨rfl,hR⟩;have HR:=hid hR;clear hR HM k6 l3;go_wp2
   go_returns
   exact HR.out
  | false =>
   rw [hlf] at k7 k8;have k7:w2.cell? ⟨gp,7,none⟩=some (.pointer (some ⟨gs,0,none⟩)):=k7;have k8:w2.cell? ⟨gp,8,none⟩=some (.pointer (some ⟨gl,0,none⟩)):=k8;clear hlf hq1
   go_enter Tryz.func68,Tryz.ntmps68
   go_upto_region 7 with fail
   rw [← hw1];clear hw1 a_0 a_2 af lg
   go_upto_region 8 with fail
   rw [← hw2];clear hw2 b_2 bf lg1
   go_wp2_with fail
   refine HT.out.mono ?_;rintro e w3 ⟨rfl,k6,hm⟩;have HM:=hid hm;have l3:=lt_of_cell k6;clear hm HT e6 l6 k7 k8 l7 hq2
   go_wp2_with fail
   refine HM.out.mono ?_;rintro e w4 ⟨rfl,hR⟩;have HR:=hid hR;clear hR HM k6 l3;go_wp2
   go_returns
   exact HR.out
theorem MG (a:Option Addr) (w:World):(binOp .neq 109 (.pointer a) (.pointer none)).run Tryz.prog w = .ok (.bool a.isSome) w:=by
 cases a with
 | none=>go_simp
 | some a=>go_simp

structure OX (g gb : Nat) (s : TS) (T : Option TB) (i : Nat) (b1 b2 b3 b4 : Int) (w wx : World) (s1 : TS) (T1 : Option TB) : Prop where
 mem:Mem wx g s1
 out:Out (s.In g) w wx
 wf:WF s1 T1
 no:∀ y ∈ iG T1,y.2.1≠i
 same:∀ j,j≠i→sK T1 j=sK T j
 inn:∀ k,s1.In g k→s.In g k
 c0:wx.cell? ⟨gb,0,none⟩=some (.int .i64 b1)
 c1:wx.cell? ⟨gb,1,none⟩=some (.int .i64 b2)
 c2:wx.cell? ⟨gb,2,none⟩=some (.int .i64 b3)
 c3:wx.cell? ⟨gb,3,none⟩=some (.int .i64 b4)
 gb1:w.heap.size≤gb
 ne:g≠gb
def Iu (g:Nat) (s:TS) (T:Option TB) (i:Nat) (b:Bx) (w:World) (e:Ending) (w':World):Prop:=∃ s' T',e = .returned (.int .i64 0)∧Mem w' g s'∧Out (s.In g) w w'∧WF s' (some T')∧(∀ j,sK (some T') j=if j=i then some b else sK T j)∧(∀ k,s'.In g k→s.In g k∨w.heap.size≤k)
theorem O4 {g gb i:Nat} {s s1:TS} {T T1:Option TB} {b1 b2 b3 b4:Int} {w wx w':World} {e:Ending} (hM:OX g gb s T i b1 b2 b3 b4 w wx s1 T1) (h:FX g s1 T1 i ((b1,b2),(b3,b4)) wx e w'):Iu g s T i ((b1,b2),(b3,b4)) w e w':=by
 obtain ⟨s',T',gl,rfl,m,o,wf,pm,inn⟩:=h;refine ⟨s',T',rfl,m,hM.out.trans o (fun k _ q=>hM.inn k q),wf,fun j=>?_,fun k q=>?_⟩
 ·rw [Pz wf (T := T1) pm]
  by_cases e:j=i
  ·rw [if_pos e,if_pos e]
  ·rw [if_neg e,if_neg e,hM.same j e]
 ·rcases inn k q with q | q
  ·exact .inl (hM.inn k q)
  ·exact .inr (Nat.le_trans hM.out.size q)
theorem Ah {b:Nat} {r:NR} (h:j6 w b r) {n:Nat} (hr:r.ht=((n:Nat):Int)):OC w (.pointer (pA b))=n:=by
 show (intOf ((w.cell? ⟨b,5,none⟩).getD undef)).toNat=n;rw [h.c5,hr];rfl
theorem I8 {g:Nat} {s:TS} (h:Mem w g s) {T:Option TB} (hW:WF s T) {i:Nat} (hi:i<256) (b1 b2 b3 b4:Int) (hb:fJ ((b1,b2),(b3,b4))=true) :
  Calls Tryz.prog 29 #[.pointer (pA g),.int .i64 (i:Nat),pJ ((b1,b2),(b3,b4))] w (Iu g s T i ((b1,b2),(b3,b4)) w):=by
 have HV:=hid (fun w=>iM b1 b2 b3 b4 w);rw [hb] at HV;obtain ⟨W,hWw⟩:∃ W,W=w.alloc (.cells #[.int .i64 b1,.int .i64 b2,.int .i64 b3,.int .i64 b4] 64):=⟨_,rfl⟩;obtain ⟨gb,hgb⟩:∃ x,x=w.heap.size:=⟨_,rfl⟩;have hB:=(show Below w.heap.size w W by rw [hWw];go_grown);have HMW:=hid (h.below hB);have k_0:W.cell? ⟨gb,0,none⟩=some (.int .i64 b1):=by rw [hWw,hgb];go_simp
 have k_1:W.cell? ⟨gb,1,none⟩=some (.int .i64 b2):=by rw [hWw,hgb];go_simp
 have k_2:W.cell? ⟨gb,2,none⟩=some (.int .i64 b3):=by rw [hWw,hgb];go_simp
 have k_3:W.cell? ⟨gb,3,none⟩=some (.int .i64 b4):=by rw [hWw,hgb];go_simp
 have lb:=lt_of_cell k_0;have i0:¬ (i:Int)<0:=by omega
 have i1:¬ (i:Int) ≥ 256:=by omega
 have i2:(i:Int)<256:=by omega
 have HW:=hid hW;have HB0:=hid hB;have hgw:w.heap.size≤gb:=Nat.le_of_eq hgb.symm;have HGW:=hid hgw;have HNE:Hid (g≠gb):=by have:=h.lt;show g≠gb;omega
 have HOLD:Hid (∀ k,s.In g k→k<w.heap.size):=fun k hk=>by
  rcases hk with hk | hk
  ·rw [hk];exact h.lt
  ·rcases hr : s.nd k with _ | r
   ·exact absurd hr hk
   ·exact (h.nd k r hr).lt
 clear hb h hB hW hgw
 go_enter Tryz.func29,Tryz.ntmps29
 go_upto_region 1 with fail
 rw [← hWw,← hgb];clear hWw hgb
 go_wp2_with fail
 refine (HV.out _).mono ?_;rintro e w1 ⟨rfl,hb1⟩;replace k_0:=keepCell hb1 k_0;replace k_1:=keepCell hb1 k_1;replace k_2:=keepCell hb1 k_2;replace k_3:=keepCell hb1 k_3;have hm1:=HMW.out.below hb1;have HB1:=hid (aj hb1 HB0.out);have HM1:=hid hm1;obtain ⟨a,ha⟩:∃ a,a=s.lv i:=⟨_,rfl⟩;have l_0:=hm1.lv i hi;rw [← ha] at l_0;have HA:=hid ha;have hNE:=MG a w1;obtain ⟨z,hz⟩:∃ z,z=a.isSome:=⟨_,rfl⟩;rw [← hz] at hNE;have HZ:=hid hz;have lg:=lt_of_cell l_0;clear hb1 hm1 HMW lb HV HB0 ha hz
 go_upto_if 28 with fail
 go_cut [] from 29 to 31 (fun wx=>∃ s1 T1,OX g gb s T i b1 b2 b3 b4 w wx s1 T1)
 case first =>
  cases z with
  | false =>
   have hno:s.lv i=none:=by
    have:=HZ.out;rw [HA.out] at this
    cases q:s.lv i with
    | none=>rfl
    | some v=>rw [q] at this;cases this
   have hR:∃ s1 T1,OX g gb s T i b1 b2 b3 b4 w w1 s1 T1:=⟨s,T,HM1.out,Out.below HB1.out,HW.out,vK.1 ((vD HW.out hi).2 hno),fun _ _=>rfl,fun _ q=>q,k_0,k_1,k_2,k_3,HGW.out,HNE.out⟩;have HR:=hid hR;clear hR hno HZ HA HM1 HB1 HW k_0 k_1 k_2 k_3 l_0 lg hNE
   go_wp2_with fail
   go_meet
   exact HR.out
  | true =>
   have hsm:sK T i≠none:=fun q=>by
    have h1:=(vD HW.out hi).1 q;have:=HZ.out;rw [HA.out,h1] at this
    cases this
   rcases hbx:sK T i with _ | b0
   ·exact absurd hbx hsm
   ·obtain ⟨g0, t, rfl, hlv, hmem⟩ := Mc HW.out hbx;have HD:=hid (Gs HM1.out HW.out hi hmem rfl);have HM1':=hid hmem;clear hsm hbx hlv hmem l_0 hNE
    go_wp2_with fail
    refine HD.out.mono ?_;rintro e w2 ⟨s',T',gl,b',rfl,m2,o2,wf2,pm,in2⟩;have hgn:¬ s.In g gb:=fun q=>by have:=HOLD.out gb q;have:=HGW.out;omega
    have hR:∃ s1 T1,OX g gb s (some t) i b1 b2 b3 b4 w w2 s1 T1:=⟨s',T',m2,(Out.below HB1.out).trans o2 (fun _ _ q=>q),wf2,fun y hy q=>by
      have hd:(NK ((gl,(i,b')) :: iG T')).Nodup:=(List.Perm.nodup_iff (pm.map _)).1 HW.out.ids
      exact (List.nodup_cons.1 hd).1 (List.mem_map.2 ⟨y,hy,q⟩),fun j hj=>by rw [MS HW.out (T':=T') pm,if_neg hj],in2,o2.cell k_0 hgn,o2.cell k_1 hgn,o2.cell k_2 hgn,o2.cell k_3 hgn,HGW.out,HNE.out⟩
    have HR:=hid hR;clear hR hgn m2 o2 wf2 pm in2 HD HM1' HZ HA HM1 HB1 HW k_0 k_1 k_2 k_3 lg
    go_wp2_with fail
    go_meet
    exact HR.out
 case rest =>
  clear HA HZ HM1 HB1 HW HOLD HGW l_0 hNE lg k_0 k_1 k_2 k_3;obtain ⟨s1,T1,hM⟩:=hcut;obtain ⟨w1,rfl⟩:∃ w1:World,w1=wc:=⟨_,rfl⟩;have HRP:=hid (fun e w'=>O4 (e:=e) (w':=w') hM);have HM1:=hid hM.mem;have hWF:=hM.wf;have HNO:=hid hM.no;have k_0:=hM.c0;have k_1:=hM.c1;have k_2:=hM.c2;have k_3:=hM.c3;have lg:=HM1.out.lt;have HNGB:=hid hM.ne;have lgb:=lt_of_cell k_0;clear hM;have hne:=HNGB.out;obtain ⟨cn,hcn⟩:∃ z,z=(((iG T1).length:Nat):Int):=⟨_,rfl⟩;have hcnt:s1.cnt=cn:=by rw [hcn];exact hWF.cnt
  have hln:(iG T1).length≤256:=by
   have:=rY 256 _ hWF.ids (fun x hx=>by
    obtain ⟨y,hy,rfl⟩:=List.mem_map.1 hx
    exact hWF.lt y hy)
   rwa [List.length_map] at this
  have hcw:IntKind.i64.wrap (cn+1)=cn+1:=IntWalk.i64_in _ (by omega);obtain ⟨w2,hw2⟩:∃ x,x=w1.alloc (.cells (oH b1 b2 b3 b4 (i:Nat) 0 none none none) 117):=⟨_,rfl⟩;obtain ⟨gl,hgl⟩:∃ x,x=w1.heap.size:=⟨_,rfl⟩;have m2:=HM1.out.alloc b1 b2 b3 b4 (i:Nat) 0 none none none 117;rw [← hw2,← hgl] at m2;have hb2:Below w1.heap.size w1 w2:=by rw [hw2];go_grown
  have o2:Out (s1.In g) w1 w2:=Out.below hb2;have e_0:w2.cell? ⟨g,1+i,none⟩=some (.pointer (s1.lv i)):=m2.lv i hi;have e_1:w2.cell? ⟨g,0,none⟩=some (.pointer s1.root):=m2.root;have e_2:w2.cell? ⟨g,257,none⟩=some (.int .i64 cn):=by rw [m2.cnt];show some (Value.int .i64 s1.cnt)=_;rw [hcnt]
  have ef:=m2.free;obtain ⟨w3,hw3⟩:∃ x,x=w2.setCell ⟨g,1+i,none⟩ (.pointer (pA gl)):=⟨_,rfl⟩;have m3:=m2.setLv hi (pA gl);rw [← hw3] at m3;have o3:Out (s1.In g) w1 w3:=by rw [hw3];exact o2.setCell (p:=⟨g,1+i,none⟩) (.inr (.inl rfl)) _
  obtain ⟨w4,hw4⟩:∃ x,x=w3.setCell ⟨g,257,none⟩ (.int .i64 (cn+1)):=⟨_,rfl⟩;have m4:=m3.setCnt (cn+1);rw [← hw4] at m4;have o4:Out (s1.In g) w1 w4:=by rw [hw4];exact o3.setCell (p:=⟨g,257,none⟩) (.inr (.inl rfl)) _
  have f_1:w3.cell? ⟨g,0,none⟩=some (.pointer s1.root):=by rw [hw3];exact aC e_1 (by omega)
  have f_2:w3.cell? ⟨g,257,none⟩=some (.int .i64 cn):=by rw [hw3];exact aC e_2 (by omega)
  have ff:=m3.free;have h_1:w4.cell? ⟨g,0,none⟩=some (.pointer s1.root):=by rw [hw4];exact aC f_1 (by omega)
  have hf:=m4.free;have hsz:w1.heap.size≤gl:=Nat.le_of_eq hgl.symm;have lg2:=lt_of_cell e_1;have lg3:=lt_of_cell f_1;have lg4:=lt_of_cell h_1;have B0:Hid (w4.cell? ⟨gb,0,none⟩=some (.int .i64 b1)):=by show _=_;rw [hw4,hw3];exact aZ hne (aZ hne (keepCell hb2 k_0))
  have B1:Hid (w4.cell? ⟨gb,1,none⟩=some (.int .i64 b2)):=by show _=_;rw [hw4,hw3];exact aZ hne (aZ hne (keepCell hb2 k_1))
  have B2:Hid (w4.cell? ⟨gb,2,none⟩=some (.int .i64 b3)):=by show _=_;rw [hw4,hw3];exact aZ hne (aZ hne (keepCell hb2 k_2))
  have B3:Hid (w4.cell? ⟨gb,3,none⟩=some (.int .i64 b4)):=by show _=_;rw [hw4,hw3];exact aZ hne (aZ hne (keepCell hb2 k_3))
  cases T1 with
  | none =>
   have hrt:s1.root=none:=hWF.root;rw [hrt] at e_1 f_1 h_1;obtain ⟨w5,hw5⟩:∃ x,x=w4.setCell ⟨g,0,none⟩ (.pointer (pA gl)):=⟨_,rfl⟩;have m5:=m4.setRoot (pA gl);rw [← hw5] at m5;have o5:Out (s1.In g) w1 w5:=by rw [hw5];exact o4.setCell (p:=⟨g,0,none⟩) (.inr (.inl rfl)) _
   have hc0:cn=0:=by rw [hcn];rfl
   have fin:FX g s1 none i ((b1,b2),(b3,b4)) w1 (.returned (.int .i64 0)) w5:=by
    refine ⟨_,TB.lf gl i ((b1,b2),(b3,b4)),gl,rfl,m5,o5,⟨⟨rfl,TS.set_eq _ _ _,by simp [TB.blocks],trivial⟩,by simp [iG,TB.lvs],fun x hx=>?_,fun x hx=>?_,fun k hk hn=>?_,by show cn+1=_;rw [hc0];rfl⟩,List.Perm.refl _,fun k hk=>?_⟩
    ·rw [List.mem_singleton.1 hx];exact hi
    ·rw [List.mem_singleton.1 hx];show (if i=i then pA gl else s1.lv i)=pA gl;rw [if_pos rfl]
    ·show (if k = i then pA gl else s1.lv k) = none;have h1:i≠k:=hn (gl,(i,((b1,b2),(b3,b4)))) (by simp [iG,TB.lvs]);rw [if_neg (fun q=>h1 q.symm)];exact hWF.no k hk (fun x hx=>by cases hx)
    ·rcases hk with hk | hk
     ·exact .inl (.inl hk)
     ·by_cases q : k = gl
      ·exact .inr (by omega)
      ·refine .inl (.inr ?_);have e:(s1.set gl ⟨((b1,b2),(b3,b4)),(i:Nat),0,none,none,none⟩).nd k=s1.nd k:=TS.set_ne _ _ q;have hk:(s1.set gl ⟨((b1,b2),(b3,b4)),(i:Nat),0,none,none,none⟩).nd k≠none:=hk;rwa [e] at hk
   have FIN:=hid (HRP.out _ _ fin);clear m2 m3 m4 m5 o2 o3 o4 o5 hcnt hWF fin hsz hb2 HM1 HNO HRP B0 B1 B2 B3 hrt hcn hln hc0 HNGB hne
   go_upto_region 6 with fail
   rw [← hw2,← hgl];clear hw2 hgl k_0 k_1 k_2 k_3 lg lgb
   go_upto_region 7 with fail
   rw [← hw3];clear hw3 e_0 e_1 e_2 ef lg2
   go_upto_region 8 with fail
   rw [← hw4];clear hw4 f_1 f_2 ff lg3;go_wp2;rw [← hw5]
   go_returns
   exact FIN.out
  | some t =>
   obtain ⟨hr1,hr2,hr3,hr4⟩:=hWF.root;rw [hr1] at e_1 f_1 h_1
   have hold:∀ k,s1.nd k≠none→k<w1.heap.size:=fun k hk=>by
    rcases hr:s1.nd k with _ | r
    ·exact absurd hr hk
    ·exact (HM1.out.nd k r hr).lt
   obtain ⟨s4,hs4⟩:∃ s4,s4={ { s1.set gl ⟨((b1,b2),(b3,b4)),(i:Nat),0,none,none,none⟩ with lv:=fun k=>if k=i then pA gl else (s1.set gl ⟨((b1,b2),(b3,b4)),(i:Nat),0,none,none,none⟩).lv k } with cnt:=cn+1 }:=⟨_,rfl⟩
   have HP:Hid (QV g s1 s4 t.lvs.length i gl ((b1,b2),(b3,b4)) w1):=by
    rw [hs4];exact ⟨TS.set_eq _ _ _,fun k hk=>TS.set_ne _ _ hk,fun k=>rfl,by show cn+1=_;rw [hcn];rfl,hsz,hold,lg⟩
   rw [← hs4] at m4;have H0:Hid (Dn s4 g t [] t w4 w4):=⟨rfl,hr2.same (fun k hk=>HP.out.oth k (by obtain ⟨r,hr⟩:=hr2.mem k hk;have:=hold k (by rw [hr];simp);omega)),⟨rfl,by rw [hs4];exact hr1⟩,m4,Below.refl _ _⟩;have HO4:=hid o4;have HWF:=hid hWF;have hgl4:gl<w4.heap.size:=(m4.nd _ _ HP.out.leaf).lt;have HGR:=hid CQ;clear m2 m3 m4 o2 o3 o4 hcnt hcn hln hb2 HM1 hs4 hr1 hr2 hr3 hr4 hold hWF HNGB hsz
   go_upto_region 6 with fail
   rw [← hw2,← hgl];clear hw2 hgl k_0 k_1 k_2 k_3 lg lgb
   go_upto_region 7 with fail
   rw [← hw3];clear hw3 e_0 e_1 e_2 ef lg2
   go_upto_region 8 with fail
   rw [← hw4];clear hw4 f_1 f_2 ff lg3;go_wp2
   go_loopw [8] (fun nv wr=>∃ (C:List dI) (x:TB) (gx:Nat),nv = .pointer (some ⟨gx,0,none⟩)∧Hid (gx=x.root)∧Hid (Dn s4 g t C x w4 wr)) (fun nv wr=>OC wr nv)
   case atStart=>exact ⟨[],t,t.root,rfl,hid rfl,H0⟩
   case round =>
    obtain ⟨C,x,gx,rfl,HGX,HL⟩:=hrel;obtain ⟨wo,rfl⟩:∃ wo:World,wo=wr:=⟨_,rfl⟩;clear H0 h_1 hf lg4
    cases x with
    | lf gq iq bq =>
     have hgx:gx=gq:=HGX.out;subst hgx;clear HGX;have d5:wo.cell? ⟨gx,5,none⟩=some (.int .i64 0):=(HL.out.mem.nd _ _ HL.out.tree).c5;have ld:=lt_of_cell d5;obtain ⟨wn,hwn⟩:∃ x,x=wo.alloc (.cells (oH 0 0 0 0 0 0 none none none) 117):=⟨_,rfl⟩;obtain ⟨gn,hgn⟩:∃ x,x=wo.heap.size:=⟨_,rfl⟩;have mn:=HL.out.mem.alloc 0 0 0 0 0 0 none none none 117;rw [← hwn,← hgn] at mn;have hbn:Below wo.heap.size wo wn:=by rw [hwn];go_grown
     have on:Out (s1.In g) w1 wn:=HO4.out.trans (Out.below (D:=fun _=>False) (aj hbn HL.out.bel)) (fun _ _ q=>q.elim);have hglt:gl<gn:=by have:=HL.out.bel.size;omega
     have HT:=hid (Ld HWF.out hi HNO.out HP.out HL.out.zip rfl HL.out.tree HL.out.cx hglt mn on);clear mn hbn on hglt HL HP HO4 HWF HNO B0 B1 B2 B3 HGR
     go_upto_region 18 with fail
     rw [← hwn,← hgn];clear hwn hgn d5 ld
     go_wp2_with fail
     refine HT.out.mono ?_;rintro e w5 ⟨rfl,hm⟩;have HA:=hid hm;clear hm HT
     go_wp2_with fail
     refine HA.out.mono ?_;rintro e w6 ⟨rfl,k6,hm⟩;have HMD:=hid hm;have l6:=lt_of_cell k6;clear hm HA
     go_wp2_with fail
     refine HMD.out.mono ?_;rintro e w7 ⟨rfl,hR⟩;have HR:=hid (HRP.out _ _ hR);clear hR HMD HRP k6 l6;go_wp2
     go_returns
     exact HR.out
    | nd p l r =>
     have hgx:gx=p:=HGX.out;subst hgx;clear HGX;obtain ⟨p,hp⟩:∃ p,p=gx:=⟨_,rfl⟩;rw [← hp] at HL ⊢;clear hp;have hmo:=HL.out.mem;have htr:=HL.out.tree;have hnp:=hmo.nd _ _ htr.1;obtain ⟨rl,hrl,-,-,hlh⟩:=htr.2.1.top;obtain ⟨rr,hrr,-,-,hrh⟩:=htr.2.2.top;have hnl:=hmo.nd _ _ hrl;have hnr:=hmo.nd _ _ hrr;obtain ⟨⟨⟨p1,p2⟩,p3,p4⟩,lid,lht,lup,lk0,lk1⟩:=rl;obtain ⟨⟨⟨q1,q2⟩,q3,q4⟩,rid,rht,rup,rk0,rk1⟩:=rr;obtain ⟨l0,l1,l2,l3,-⟩:=hnl.cells;obtain ⟨r0,r1,r2,r3,-⟩:=hnr.cells;obtain ⟨lb,hlb⟩:∃ z,z=l.root:=⟨_,rfl⟩;obtain ⟨rb,hrb⟩:∃ z,z=r.root:=⟨_,rfl⟩;have D7:=hid hnp.c7;have D8:=hid hnp.c8;rw [← hlb] at l0 l1 l2 l3 D7;rw [← hrb] at r0 r1 r2 r3 D8;have L0:=hid l0;have L1:=hid l1;have L2:=hid l2;have L3:=hid l3;have R0:=hid r0;have R1:=hid r1;have R2:=hid r2;have R3:=hid r3;have B0':=hid (keepCell HL.out.bel B0.out);have B1':=hid (keepCell HL.out.bel B1.out);have B2':=hid (keepCell HL.out.bel B2.out);have B3':=hid (keepCell HL.out.bel B3.out);have HLB:=hid hlb;have HRB:=hid hrb;obtain ⟨zh,hzh⟩:∃ z,z=AY (TB.nd p l r):=⟨_,rfl⟩;have hz0:zh > 0:=by rw [hzh,vR];have e1:AY l=((l.tr.ht:Nat):Int):=rfl;have e2:AY r=((r.tr.ht:Nat):Int):=rfl;omega
     have HME:=hid (Ah hnp rfl);have HBL:=hid (Below.refl wo.heap.size wo);have d5:wo.cell? ⟨p,5,none⟩=some (.int .i64 zh):=by rw [hzh];exact hnp.c5
     have ld:=lt_of_cell d5;clear hmo htr hnp hrl hrr hlh hrh hnl hnr l0 l1 l2 l3 r0 r1 r2 r3 hlb hrb hzh HP HO4 HWF HNO HRP
     go_upto_region 14 with fail
     refine wp_region_noPanic ?_;refine au (S:=(S2 (fun w'=>w'.cell? ⟨p,7,none⟩=some (.pointer (some ⟨lb,0,none⟩))∧w'.cell? ⟨p,8,none⟩=some (.pointer (some ⟨rb,0,none⟩))∧w'.cell? ⟨lb,0,none⟩=some (.int .i64 p1)∧w'.cell? ⟨lb,1,none⟩=some (.int .i64 p2)∧w'.cell? ⟨lb,2,none⟩=some (.int .i64 p3)∧w'.cell? ⟨lb,3,none⟩=some (.int .i64 p4)∧w'.cell? ⟨rb,0,none⟩=some (.int .i64 q1)∧w'.cell? ⟨rb,1,none⟩=some (.int .i64 q2)∧w'.cell? ⟨rb,2,none⟩=some (.int .i64 q3)∧w'.cell? ⟨rb,3,none⟩=some (.int .i64 q4)∧w'.cell? ⟨gb,0,none⟩=some (.int .i64 b1)∧w'.cell? ⟨gb,1,none⟩=some (.int .i64 b2)∧w'.cell? ⟨gb,2,none⟩=some (.int .i64 b3)∧w'.cell? ⟨gb,3,none⟩=some (.int .i64 b4)∧Below wo.heap.size wo w'))) (T:=(fun _=>0)) (by kernel_rfl) (aK ⟨D7.out,D8.out,L0.out,L1.out,L2.out,L3.out,R0.out,R1.out,R2.out,R3.out,B0'.out,B1'.out,B2'.out,B3'.out,HBL.out.drew⟩) (fun hH=>?_);have hWr1:aG (S2 (fun w'=>w'.cell? ⟨p,7,none⟩=some (.pointer (some ⟨lb,0,none⟩))∧w'.cell? ⟨p,8,none⟩=some (.pointer (some ⟨rb,0,none⟩))∧w'.cell? ⟨lb,0,none⟩=some (.int .i64 p1)∧w'.cell? ⟨lb,1,none⟩=some (.int .i64 p2)∧w'.cell? ⟨lb,2,none⟩=some (.int .i64 p3)∧w'.cell? ⟨lb,3,none⟩=some (.int .i64 p4)∧w'.cell? ⟨rb,0,none⟩=some (.int .i64 q1)∧w'.cell? ⟨rb,1,none⟩=some (.int .i64 q2)∧w'.cell? ⟨rb,2,none⟩=some (.int .i64 q3)∧w'.cell? ⟨rb,3,none⟩=some (.int .i64 q4)∧w'.cell? ⟨gb,0,none⟩=some (.int .i64 b1)∧w'.cell? ⟨gb,1,none⟩=some (.int .i64 b2)∧w'.cell? ⟨gb,2,none⟩=some (.int .i64 b3)∧w'.cell? ⟨gb,3,none⟩=some (.int .i64 b4)∧Below wo.heap.size wo w')):=aI _;refine dG [(0,67),(1,68),(2,69),(3,70),(4,71),(5,72),(6,73),(7,74),(8,75),(10,77),(11,78),(12,79),(13,80),(14,81),(15,82),(16,83),(17,84),(18,85)] 3 0 0 (L':=?Lr1_1) hWr1 hH ?yr1_1 ?_
     case yr1_1=>((iterate 18 apply dF;rfl;kernel_rfl;intro w' hSw;replace hSw:=aB hSw;(try dsimp only at hSw);have q0:=hSw.1;have q1:=hSw.2.1;have q2:=hSw.2.2.1;have q3:=hSw.2.2.2.1;have q4:=hSw.2.2.2.2.1;have q5:=hSw.2.2.2.2.2.1;have q6:=hSw.2.2.2.2.2.2.1;have q7:=hSw.2.2.2.2.2.2.2.1;have q8:=hSw.2.2.2.2.2.2.2.2.1;have q9:=hSw.2.2.2.2.2.2.2.2.2.1;have q10:=hSw.2.2.2.2.2.2.2.2.2.2.1;have q11:=hSw.2.2.2.2.2.2.2.2.2.2.2.1;have q12:=hSw.2.2.2.2.2.2.2.2.2.2.2.2.1;have q13:=hSw.2.2.2.2.2.2.2.2.2.2.2.2.2.1;have q14:=hSw.2.2.2.2.2.2.2.2.2.2.2.2.2.2;(try simp only [sB,sC]);go_simp;(try with_reducible rfl));exact dD)
     simp only [sB,sC];refine U1 9 0 rfl (fun K hK=>?_)
     try clear hb
     go_simp
     (go_at_call 69;refine (HGR.out _ _ _ _ _ _ _ _ _).mono ?_;rintro e wn ⟨⟨z9,rfl⟩,hb⟩)
     refine hK.out _ _ (aK (by have hG:=hH;replace hG:=aB hG;(try dsimp only at hG);have q0:=hG.1;have q1:=hG.2.1;have q2:=hG.2.2.1;have q3:=hG.2.2.2.1;have q4:=hG.2.2.2.2.1;have q5:=hG.2.2.2.2.2.1;have q6:=hG.2.2.2.2.2.2.1;have q7:=hG.2.2.2.2.2.2.2.1;have q8:=hG.2.2.2.2.2.2.2.2.1;have q9:=hG.2.2.2.2.2.2.2.2.2.1;have q10:=hG.2.2.2.2.2.2.2.2.2.2.1;have q11:=hG.2.2.2.2.2.2.2.2.2.2.2.1;have q12:=hG.2.2.2.2.2.2.2.2.2.2.2.2.1;have q13:=hG.2.2.2.2.2.2.2.2.2.2.2.2.2.1;have q14:=hG.2.2.2.2.2.2.2.2.2.2.2.2.2.2;exact ⟨keepCell hb q0,keepCell hb q1,keepCell hb q2,keepCell hb q3,keepCell hb q4,keepCell hb q5,keepCell hb q6,keepCell hb q7,keepCell hb q8,keepCell hb q9,keepCell hb q10,keepCell hb q11,keepCell hb q12,keepCell hb q13,aj hb q14⟩)) (fun hH2=>?_);clear hK K hH
     rename _=>hH
     try simp only [Act.put,sA,sB,sC]
     refine U1 19 0 rfl (fun K hK=>?_)
     try clear hb
     go_simp
     (go_at_call 69;refine (HGR.out _ _ _ _ _ _ _ _ _).mono ?_;rintro e wn ⟨⟨z19,rfl⟩,hb⟩)
     refine hK.out _ _ (aK (by have hG:=hH;replace hG:=aB hG;(try dsimp only at hG);have q0:=hG.1;have q1:=hG.2.1;have q2:=hG.2.2.1;have q3:=hG.2.2.2.1;have q4:=hG.2.2.2.2.1;have q5:=hG.2.2.2.2.2.1;have q6:=hG.2.2.2.2.2.2.1;have q7:=hG.2.2.2.2.2.2.2.1;have q8:=hG.2.2.2.2.2.2.2.2.1;have q9:=hG.2.2.2.2.2.2.2.2.2.1;have q10:=hG.2.2.2.2.2.2.2.2.2.2.1;have q11:=hG.2.2.2.2.2.2.2.2.2.2.2.1;have q12:=hG.2.2.2.2.2.2.2.2.2.2.2.2.1;have q13:=hG.2.2.2.2.2.2.2.2.2.2.2.2.2.1;have q14:=hG.2.2.2.2.2.2.2.2.2.2.2.2.2.2;exact ⟨keepCell hb q0,keepCell hb q1,keepCell hb q2,keepCell hb q3,keepCell hb q4,keepCell hb q5,keepCell hb q6,keepCell hb q7,keepCell hb q8,keepCell hb q9,keepCell hb q10,keepCell hb q11,keepCell hb q12,keepCell hb q13,aj hb q14⟩)) (fun hH2=>?_);clear hK K hH
     rename _=>hH
     try simp only [Act.put,sA,sB,sC]
     refine Ut 20 87 0 0 0 (v:=?vr1_21) rfl hWr1 hH ?yr1_21 ?_
     case yr1_21=>(intro w' hSw;clear hSw;go_simp;try (with_reducible rfl))
     simp only [sB,sC];refine ak (by kernel_rfl) ?_ _ _;refine NoPanic.normal ?_;clear hWr1;replace hH:=aB hH
     (try dsimp only at hH)
     have t0:=hH.1;have t1:=hH.2.1;have t2:=hH.2.2.1;have t3:=hH.2.2.2.1;have t4:=hH.2.2.2.2.1;have t5:=hH.2.2.2.2.2.1;have t6:=hH.2.2.2.2.2.2.1;have t7:=hH.2.2.2.2.2.2.2.1;have t8:=hH.2.2.2.2.2.2.2.2.1;have t9:=hH.2.2.2.2.2.2.2.2.2.1;have t10:=hH.2.2.2.2.2.2.2.2.2.2.1;have t11:=hH.2.2.2.2.2.2.2.2.2.2.2.1;have t12:=hH.2.2.2.2.2.2.2.2.2.2.2.2.1;have t13:=hH.2.2.2.2.2.2.2.2.2.2.2.2.2.1;have t14:=hH.2.2.2.2.2.2.2.2.2.2.2.2.2.2;have HBW:Hid (Below wo.heap.size wo wn):=t14;have HM7:=hid t0;have HM8:=hid t1;clear t0 t1 t2 t3 t4 t5 t6 t7 t8 t9 t10 t11 t12 t13 t14 d5 ld D7 D8 L0 L1 L2 L3 R0 R1 R2 R3 B0' B1' B2' B3' HBL HGR hz0 hH
     by_cases hlt:z9<z19
     ·have hD := hid (HL.out.right HBW.out)
      have HMR:Hid (OC wn (.pointer (some ⟨rb,0,none⟩))=r.tr.ht):=by
       obtain ⟨rx,hrx,-,-,hrh⟩:=hD.out.tree.top;show _=_;rw [HRB.out];exact Ah (hD.out.mem.nd _ _ hrx) hrh
      have hk:=HM8.out;have hkl:=lt_of_cell hk;clear HL HBW HM7 HM8;go_wp2;go_roundw
      case rel=>exact ⟨Sd p l r :: C,r,rb,rfl,HRB,hD⟩
      case measure =>
       rw [HMR.out,HME.out,TB.tr_ht];omega
     ·have hD := hid (HL.out.left HBW.out)
      have HMR:Hid (OC wn (.pointer (some ⟨lb,0,none⟩))=l.tr.ht):=by
       obtain ⟨rx,hrx,-,-,hrh⟩:=hD.out.tree.top;show _=_;rw [HLB.out];exact Ah (hD.out.mem.nd _ _ hrx) hrh
      have hk:=HM7.out;have hkl:=lt_of_cell hk;clear HL HBW HM7 HM8;go_wp2;go_roundw
      case rel=>exact ⟨Sv p l r :: C,l,lb,rfl,HLB,hD⟩
      case measure =>
       rw [HMR.out,HME.out,TB.tr_ht];omega
end
end Go.Proofs.YtokgmcomgflloaaGreat
