/- Parts of a proof: contracts and laws. -/
import Derived.Test.YtiaoandbdgdecaaGreatPK31
import Derived.Test.YtiaoandbdgdecaaGreatPK43
import Derived.Test.YtiaoandbdgdecaaGreatPK17
import Derived.Test.YtiaoandbdgdecaaGreatPK04
set_option maxRecDepth 100000
set_option maxHeartbeats 16000000
namespace Go.Proofs.YtiaoandbdgdecaaGreat
section
set_option linter.unusedVariables false
set_option linter.unusedSimpArgs false
open Go.RowKit
section
variable {w0:World} {gX gW gN gR gS b:Nat} {s:Bool} {e:Nat} {wx wy n1 n2 r1 r2 s1 s2:Int} {t u v:Option Nat} {gT gU gV gG:Nat} {w w':World}

def NB (w0:World) (gX gW b g:Nat) (w:World):Prop:=VZ w g∧w0.heap.size≤g∧g≠gX∧g≠gW∧g≠b
theorem NB.keep (hb:Below w.heap.size w w') (h:NB w0 gX gW b gT w):NB w0 gX gW b gT w':=⟨keepVZ hb h.1,h.2⟩

structure A3 (w0 : World) (gX gW b : Nat) (s : Bool) (e : Nat) (wx wy : Int) (t u v : Option Nat) (w : World) : Prop where
 oa:OA w0 gX gW s e wx wy w
 hb:b<w.heap.size
 pt:∀ g,t=some g→NB w0 gX gW b g w
 pu:∀ g,u=some g→NB w0 gX gW b g w
 pv:∀ g,v=some g→NB w0 gX gW b g w
 tu:∀ g,t=some g→u≠some g
 tv:∀ g,t=some g→v≠some g
 uv:∀ g,u=some g→v≠some g
theorem A3.keep (hb:Below w.heap.size w w') (h:A3 w0 gX gW b s e wx wy t u v w):A3 w0 gX gW b s e wx wy t u v w' :=
 ⟨h.oa.keep hb,Nat.lt_of_lt_of_le h.hb hb.size,fun g hg=>(h.pt g hg).keep hb,fun g hg=>(h.pu g hg).keep hb,fun g hg=>(h.pv g hg).keep hb,h.tu,h.tv,h.uv⟩
theorem A3.drew (h:A3 w0 gX gW b s e wx wy t u v w):A3 w0 gX gW b s e wx wy t u v w.drew:=h.keep (Below.refl _ _).drew
theorem NB.here (h:OA w0 gX gW s e wx wy w) (hb:b<w.heap.size):NB w0 gX gW b w.heap.size (w.alloc (.cells #[.int .i64 0,.int .i64 0] 27)):=by
 have h1:=lt_of_cell h.x0
 have h2:=lt_of_cell h.m0
 exact ⟨VZ.here _ _ _ _,h.bel.size,by omega,by omega,by omega⟩
theorem NB.ne (h:NB w0 gX gW b gT w):gT≠w.heap.size:=by have:=h.1.lt;omega
theorem A3.alT (h:A3 w0 gX gW b s e wx wy none u v w):A3 w0 gX gW b s e wx wy (some w.heap.size) u v (w.alloc (.cells #[.int .i64 0,.int .i64 0] 27)):=by
 have k:=h.keep ((Below.refl _ _).alloc (Nat.le_refl _) (.cells #[.int .i64 0,.int .i64 0] 27))
 exact ⟨k.oa,k.hb,fun g hg=>by cases hg;exact NB.here h.oa h.hb,k.pu,k.pv,fun g hg hu=>by cases hg;exact (h.pu _ hu).ne rfl,fun g hg hu=>by cases hg;exact (h.pv _ hu).ne rfl,k.uv⟩
theorem A3.alU (h:A3 w0 gX gW b s e wx wy t none v w):A3 w0 gX gW b s e wx wy t (some w.heap.size) v (w.alloc (.cells #[.int .i64 0,.int .i64 0] 27)):=by
 have k:=h.keep ((Below.refl _ _).alloc (Nat.le_refl _) (.cells #[.int .i64 0,.int .i64 0] 27))
 exact ⟨k.oa,k.hb,k.pt,fun g hg=>by cases hg;exact NB.here h.oa h.hb,k.pv,fun g hg hu=>by cases hu;exact (h.pt _ hg).ne rfl,k.tv,fun g hg hu=>by cases hg;exact (h.pv _ hu).ne rfl⟩
theorem A3.alV (h:A3 w0 gX gW b s e wx wy t u none w):A3 w0 gX gW b s e wx wy t u (some w.heap.size) (w.alloc (.cells #[.int .i64 0,.int .i64 0] 27)):=by
 have k:=h.keep ((Below.refl _ _).alloc (Nat.le_refl _) (.cells #[.int .i64 0,.int .i64 0] 27))
 exact ⟨k.oa,k.hb,k.pt,k.pu,fun g hg=>by cases hg;exact NB.here h.oa h.hb,k.tu,fun g hg hu=>by cases hu;exact (h.pt _ hg).ne rfl,fun g hg hu=>by cases hu;exact (h.pu _ hg).ne rfl⟩

structure D6 (w0 : World) (gX gW b gT gU gV : Nat) : Prop where
 tX:gT≠gX
 tW:gT≠gW
 tb:gT≠b
 tl:w0.heap.size≤gT
 uX:gU≠gX
 uW:gU≠gW
 ul:w0.heap.size≤gU
 vX:gV≠gX
 vW:gV≠gW
 vl:w0.heap.size≤gV
 tu:gT≠gU
 tv:gT≠gV
 uv:gU≠gV
theorem A3.apart (h:A3 w0 gX gW b s e wx wy (some gT) (some gU) (some gV) w):D6 w0 gX gW b gT gU gV:=by
 obtain ⟨-,t1,t2,t3,t4⟩:=h.pt _ rfl
 obtain ⟨-,u1,u2,u3,-⟩:=h.pu _ rfl
 obtain ⟨-,v1,v2,v3,-⟩:=h.pv _ rfl
 exact ⟨t2,t3,t4,t1,u2,u3,u1,v2,v3,v1,fun e=>h.tu _ rfl (by rw [e]),fun e=>h.tv _ rfl (by rw [e]),fun e=>h.uv _ rfl (by rw [e])⟩
structure A3a (w0 : World) (gX gW b : Nat) (s : Bool) (e : Nat) (wx wy : Int) (gT gU gV : Nat) (r1 r2 : Int) (w : World) : Prop where
 oa:OA w0 gX gW s e wx wy w
 d:D6 w0 gX gW b gT gU gV
 t:Vm w gT r1 r2
 u:VZ w gU
 v:VZ w gV
theorem A3.stT (h:A3 w0 gX gW b s e wx wy (some gT) (some gU) (some gV) w) (r1 r2:Int):A3a w0 gX gW b s e wx wy gT gU gV r1 r2 (put2 w gT r1 r2) :=
 have d:=h.apart
 ⟨h.oa.off2 d.tX d.tW d.tl _ _,d,Vm.new (h.pt _ rfl).1 _ _,(h.pu _ rfl).1.off2 d.tu _ _,(h.pv _ rfl).1.off2 d.tv _ _⟩
structure A3b (w0 : World) (gX gW b : Nat) (s : Bool) (e : Nat) (wx wy : Int) (gT gU gV : Nat) (r1 r2 s1 s2 : Int) (w : World) : Prop where
 oa:OA w0 gX gW s e wx wy w
 d:D6 w0 gX gW b gT gU gV
 t:Vm w gT r1 r2
 u:Vm w gU s1 s2
 v:VZ w gV
theorem A3a.stU (h:A3a w0 gX gW b s e wx wy gT gU gV r1 r2 w) (s1 s2:Int):A3b w0 gX gW b s e wx wy gT gU gV r1 r2 s1 s2 (put2 w gU s1 s2) :=
 ⟨h.oa.off2 h.d.uX h.d.uW h.d.ul _ _,h.d,h.t.off2 (fun e=>h.d.tu e.symm) _ _,Vm.new h.u _ _,h.v.off2 h.d.uv _ _⟩
theorem A3b.stV (h:A3b w0 gX gW b s e wx wy gT gU gV r1 r2 s1 s2 w) (n1 n2:Int):OS w0 gX gW gV gT gU s e wx wy n1 n2 r1 r2 s1 s2 (put2 w gV n1 n2) :=
 have k1:=h.t.off2 (fun e=>h.d.tv e.symm) n1 n2
 have k2:=h.u.off2 (fun e=>h.d.uv e.symm) n1 n2
 have k3:=Vm.new h.v n1 n2
 ⟨⟨h.oa.off2 h.d.vX h.d.vW h.d.vl _ _,k3.a,k3.b⟩,k1.a,k1.b,k2.a,k2.b⟩

structure G5 (w0 : World) (gX gW gN gR gS gG : Nat) (w : World) : Prop where
 z:Vf w gG
 ap:gG≠gX∧gG≠gW∧gG≠gN∧gG≠gR∧gG≠gS
 l:w0.heap.size≤gG
theorem keepG5 (hb:Below w.heap.size w w') (h:G5 w0 gX gW gN gR gS gG w):G5 w0 gX gW gN gR gS gG w':=⟨keepVf hb h.z,h.ap,h.l⟩
theorem G5.drew (h:G5 w0 gX gW gN gR gS gG w):G5 w0 gX gW gN gR gS gG w.drew:=keepG5 (Below.refl _ _).drew h
theorem G5.here (h:OS w0 gX gW gN gR gS s e wx wy n1 n2 r1 r2 s1 s2 w):G5 w0 gX gW gN gR gS w.heap.size (w.alloc (.cells #[.int .i64 0,.int .i64 0,.int .i64 0,.int .i64 0] 141)):=by
 obtain ⟨h1,h2,h3,h4,h5,h6⟩:=h.lts
 exact ⟨⟨⟨⟨.int .i64 0,by go_simp⟩,⟨.int .i64 0,by go_simp⟩,⟨.int .i64 0,by go_simp⟩,⟨.int .i64 0,by go_simp⟩⟩,fun j=>by go_simp⟩,by omega,h6⟩
def putP5 (w:World) (g:Nat) (a b c d:Int):World:=(((w.setCell ⟨g,0,none⟩ (.int .i64 a)).setCell ⟨g,1,none⟩ (.int .i64 b)).setCell ⟨g,2,none⟩ (.int .i64 c)).setCell ⟨g,3,none⟩ (.int .i64 d)
theorem putP5_two (w:World) (g:Nat) (a b c d:Int):putP5 w g a b c d=((put2 w g a b).setCell ⟨g,2,none⟩ (.int .i64 c)).setCell ⟨g,3,none⟩ (.int .i64 d):=rfl

structure OQ (w0 : World) (gX gW gN gR gS : Nat) (s : Bool) (e : Nat) (wx wy n1 n2 r1 r2 s1 s2 : Int) (gG : Nat) (p q : V) (w : World) : Prop where
 os:OS w0 gX gW gN gR gS s e wx wy n1 n2 r1 r2 s1 s2 w
 g:V4 w gG p.1 p.2 q.1 q.2
 ap:gG≠gX∧gG≠gW∧gG≠gN∧gG≠gR∧gG≠gS
 l:w0.heap.size≤gG
theorem OS.offQ (h:OS w0 gX gW gN gR gS s e wx wy n1 n2 r1 r2 s1 s2 w) (hk:gG≠gX∧gG≠gW∧gG≠gN∧gG≠gR∧gG≠gS) (h3:w0.heap.size≤gG) (a b c d:Int):OS w0 gX gW gN gR gS s e wx wy n1 n2 r1 r2 s1 s2 (putP5 w gG a b c d):=by
 have k:=h.off2 hk h3 a b
 rw [putP5_two]
 exact ⟨⟨⟨far1 hk.1 (far1 hk.1 k.ob.oa.x0),far1 hk.1 (far1 hk.1 k.ob.oa.x1),far1 hk.2.1 (far1 hk.2.1 k.ob.oa.m0),far1 hk.2.1 (far1 hk.2.1 k.ob.oa.m1),(k.ob.oa.bel.setCell (p:=⟨gG,2,none⟩) h3 _).setCell (p:=⟨gG,3,none⟩) h3 _⟩,far1 hk.2.2.1 (far1 hk.2.2.1 k.ob.k0),far1 hk.2.2.1 (far1 hk.2.2.1 k.ob.k1)⟩,far1 hk.2.2.2.1 (far1 hk.2.2.2.1 k.a0),far1 hk.2.2.2.1 (far1 hk.2.2.2.1 k.a1),far1 hk.2.2.2.2 (far1 hk.2.2.2.2 k.b0),far1 hk.2.2.2.2 (far1 hk.2.2.2.2 k.b1)⟩
theorem V4.new (h:Vf w gG) (a b c d:Int):V4 (putP5 w gG a b c d) gG a b c d:=by
 obtain ⟨⟨⟨v0,h0⟩,⟨v1,h1⟩,⟨v2,h2⟩,⟨v3,h3⟩⟩,hf⟩:=h
 have hgl:=lt_of_cell h0
 unfold putP5
 exact ⟨by go_simp,by go_simp,by go_simp,by go_simp,fun j=>by go_simp⟩
theorem OQ.start (h:OS w0 gX gW gN gR gS s e wx wy n1 n2 r1 r2 s1 s2 w) (k:G5 w0 gX gW gN gR gS gG w) (p q:V):OQ w0 gX gW gN gR gS s e wx wy n1 n2 r1 r2 s1 s2 gG p q (putP5 w gG p.1 p.2 q.1 q.2):=⟨h.offQ k.ap k.l _ _ _ _,V4.new k.z _ _ _ _,k.ap,k.l⟩
variable {p q:V}
theorem OQ.keep (hb:Below w.heap.size w w') (h:OQ w0 gX gW gN gR gS s e wx wy n1 n2 r1 r2 s1 s2 gG p q w):OQ w0 gX gW gN gR gS s e wx wy n1 n2 r1 r2 s1 s2 gG p q w':=⟨h.os.keep hb,keepV4 hb h.g,h.ap,h.l⟩
theorem OQ.set (h:OQ w0 gX gW gN gR gS s e wx wy n1 n2 r1 r2 s1 s2 gG p q w) (x y:V):OQ w0 gX gW gN gR gS s e wx wy n1 n2 r1 r2 s1 s2 gG x y (putP5 w gG x.1 x.2 y.1 y.2) :=
 ⟨h.os.offQ h.ap h.l _ _ _ _,V4.new ⟨⟨⟨_,h.g.a0⟩,⟨_,h.g.a1⟩,⟨_,h.g.a2⟩,⟨_,h.g.a3⟩⟩,h.g.f⟩ _ _ _ _,h.ap,h.l⟩
theorem OQ.cells (h:OQ w0 gX gW gN gR gS s e wx wy n1 n2 r1 r2 s1 s2 gG p q w):w.cell? ⟨gR,0,none⟩=some (.int .i64 r1)∧w.cell? ⟨gR,1,none⟩=some (.int .i64 r2)∧w.cell? ⟨gS,0,none⟩=some (.int .i64 s1)∧w.cell? ⟨gS,1,none⟩=some (.int .i64 s2)∧w.cell? ⟨gG,0,none⟩=some (.int .i64 p.1)∧w.cell? ⟨gG,1,none⟩=some (.int .i64 p.2)∧w.cell? ⟨gG,2,none⟩=some (.int .i64 q.1)∧w.cell? ⟨gG,3,none⟩=some (.int .i64 q.2) :=
 ⟨h.os.a0,h.os.a1,h.os.b0,h.os.b1,h.g.a0,h.g.a1,h.g.a2,h.g.a3⟩
end
theorem run_ix0 (a b c d:Int) (w:World):(Instr.index 141 (.agg #[.int .i64 a,.int .i64 b,.int .i64 c,.int .i64 d]) (.int .i64 0)).run Tryz.prog w = .ok (.agg #[.int .i64 a,.int .i64 b]) w:=by
 obtain ⟨i0,hi,hz0,hz1,hz2⟩:=info_parts info_vec
 simp [Instr.index,run_underlying Tryz.underlying141,asAgg,asInt,asIntOf,go_sem,sizeOf,typeInfo,Tryz.sizeOf27,Tryz.isAgg27,hi,hz1]
theorem run_ix1 (a b c d:Int) (w:World):(Instr.index 141 (.agg #[.int .i64 a,.int .i64 b,.int .i64 c,.int .i64 d]) (.int .i64 1)).run Tryz.prog w = .ok (.agg #[.int .i64 c,.int .i64 d]) w:=by
 obtain ⟨i0,hi,hz0,hz1,hz2⟩:=info_parts info_vec
 simp [Instr.index,run_underlying Tryz.underlying141,asAgg,asInt,asIntOf,go_sem,sizeOf,typeInfo,Tryz.sizeOf27,Tryz.isAgg27,hi,hz1]
theorem rsub_v (x y u v:Int) (h1 : -131072000≤x-u∧x-u≤131072000) (h2 : -131072000≤y-v∧y-v≤131072000) (w:World):Calls Tryz.prog 101 #[vecV x y,vecV u v] w (Ret (vecV (x-u) (y-v)) w):=by
 have h:=sub_calls x y u v w
 rwa [wrap64_id (by omega) (by omega),wrap64_id (by omega) (by omega)] at h
theorem rpoints_calls (A B:Option Addr) (n c n' c':Nat) (l m:List V) (w:World) (hS:Sl w A n c l) (hM:Sl w B n' c' m) (hmt:meetsB l m=true) :
  Calls Tryz.prog 50 #[.slice A n c,.slice B n' c'] w (RetPt (ptsZ l m) w):=by
 have HS:=hid hS
 have HMM:=hid hM
 have hn:=hS.len
 have hn':=hM.len
 subst hn hn'
 have HLE:=hid (rleast_calls A B _ c _ c' l m w HS.out HMM.out hmt)
 have hE:bothE l m=0:=by unfold meetsB at hmt;exact (of_decide_eq_true hmt).1
 obtain ⟨s,e,d,hso,k1,k2⟩:=least_some hmt
 obtain ⟨hcl,hcm⟩:=bothE_zero.1 hE
 have HWY:Hid (∀ w',Below w.heap.size w w'→Calls Tryz.prog 97 #[.slice A l.length c,.slice B m.length c',.agg #[.bool s,.int .i64 e,.int .i64 d]] w' (Ret (vecV (tstX l m) (tstY l m)) w')):=fun w' h=>by
  have:=rway_calls A B _ c _ c' l m s e d w' (HS.out.below h) (HMM.out.below h) hcl hcm k1 k2
  unfold tstX tstY
  rw [if_pos hmt,if_pos hmt,hso]
  exact this
 obtain ⟨l8,l3,wl,-⟩:=checkE_zero hcl
 obtain ⟨m8,m3,wm,-⟩:=checkE_zero hcm
 have HP:Hid (ptsZ l m=if s=true then ptsR m l e (tstX l m,tstY l m) (8+e) else ptsR l m e (tstX l m,tstY l m) e):=by show _=_;unfold ptsZ;rw [hso]
 rw [hso] at HLE
 clear hmt hso hE hS hM
 generalize tstX l m=wx at *
 generalize tstY l m=wy at *
 generalize ptsZ l m=P at *
 obtain ⟨ref, inc, Ar, Ai, cr, ci, id0, f0, HID, HRS, HF0⟩ : ∃ (ref inc : List V) (Ar Ai : Option Addr) (cr ci : Nat) (id0 f0 : Int), Hid ((s = true → Ar = B ∧ Ai = A ∧ cr = c' ∧ ci = c ∧ ref = m ∧ inc = l ∧ f0 = 1) ∧ (s = false → Ar = A ∧ Ai = B ∧ cr = c ∧ ci = c' ∧ ref = l ∧ inc = m ∧ f0 = 0)) ∧
   Hid (P=ptsR ref inc e (wx,wy) id0∧Sl w Ar ref.length cr ref∧Sl w Ai inc.length ci inc∧(checkE ref=0∧ref.length≤8∧3≤ref.length∧allWithin 65536000 ref=true∧e<ref.length)∧(checkE inc=0∧inc.length≤8∧3≤inc.length∧allWithin 65536000 inc=true)∧(0≤id0∧id0≤16))∧Hid (8*f0+(e:Int)=id0∧0≤f0∧f0≤1):=by
  cases s with
  | true=>exact ⟨m,l,B,A,c',c,8+(e:Int),1,⟨fun _=>⟨rfl,rfl,rfl,rfl,rfl,rfl,rfl⟩,(fun h=>by cases h)⟩,⟨by rw [HP.out,if_pos rfl],HMM.out,HS.out,⟨hcm,m8,m3,wm,k1 rfl⟩,⟨hcl,l8,l3,wl⟩,by have:=k1 rfl;omega⟩,⟨by omega,by omega,by omega⟩⟩
  | false=>exact ⟨l,m,A,B,c,c',(e:Int),0,⟨(fun h=>by cases h),fun _=>⟨rfl,rfl,rfl,rfl,rfl,rfl,rfl⟩⟩,⟨by rw [HP.out,if_neg (by simp)],HS.out,HMM.out,⟨hcl,l8,l3,wl,k2 rfl⟩,⟨hcm,m8,m3,wm⟩,by have:=k2 rfl;omega⟩,⟨by omega,by omega,by omega⟩⟩
 have he8:e<8:=by
  have:=HRS.out.2.2.2.1
  omega
 clear HP k1 k2 hcl hcm l8 l3 wl m8 m3 wm
 go_enter Tryz.func50,Tryz.ntmps50
 go_wp2_with fail
 refine HLE.out.mono ?_
 rintro e0 w1 ⟨rfl,hb1⟩
 simp only [axV,axS,axE,axD]
 clear HLE
 obtain ⟨wX,hwX⟩:∃ W,W=w1.alloc (.cells #[.bool s,.int .i64 e,.int .i64 d] 105):=⟨_,rfl⟩
 obtain ⟨gX,hgX⟩:∃ g,g=w1.heap.size:=⟨_,rfl⟩
 have x0:wX.cell? ⟨gX,0,none⟩=some (.bool s):=by rw [hwX,hgX];go_simp
 have x1:wX.cell? ⟨gX,1,none⟩=some (.int .i64 e):=by rw [hwX,hgX];go_simp
 have hBX:Below w.heap.size w wX:=by rw [hwX];exact hb1.alloc hb1.size _
 go_wp2_with fail
 rw [← hwX]
 try rw [← hgX]
 refine (HWY.out wX hBX).mono ?_
 rintro e0 w2 ⟨rfl,hb2⟩
 clear HWY hwX hgX hb1
 obtain ⟨wN,hwN⟩:∃ W,W=w2.alloc (.cells #[.int .i64 wx,.int .i64 wy] 27):=⟨_,rfl⟩
 obtain ⟨gW,hgW⟩:∃ g,g=w2.heap.size:=⟨_,rfl⟩
 have hba:Below w2.heap.size w2 wN:=by rw [hwN];go_grown
 have hOA:OA w gX gW s e wx wy wN:=⟨keepCell hba (keepCell hb2 x0),keepCell hba (keepCell hb2 x1),by rw [hwN,hgW];go_simp,by rw [hwN,hgW];go_simp,keepBelow hba (keepBelow hb2 hBX)⟩
 clear hba hb2 x0 x1 hBX
 go_upto_region 3 with fail
 rw [← hwN,← hgW]
 clear hwN hgW
 obtain ⟨x0,x1,-,-,-⟩:=id hOA
 go_upto_if 35 with fail
 have HOA:=hid hOA
 clear hOA
 go_cut [7,8,9] from 35 to 37 (fun t u v wx_=>t = .slice Ar ref.length cr∧u = .slice Ai inc.length ci∧v = .int .i64 f0∧OA w gX gW s e wx wy wx_)
 case first =>
  cases s with
  | true =>
   obtain ⟨rfl,rfl,rfl,rfl,rfl,rfl,rfl⟩:=HID.out.1 rfl
   clear HID HRS
   go_wp2_with fail
   go_meet
   exact ⟨rfl,rfl,rfl,HOA.out⟩
  | false =>
   obtain ⟨rfl,rfl,rfl,rfl,rfl,rfl,rfl⟩:=HID.out.2 rfl
   clear HID HRS
   go_wp2_with fail
   go_meet
   exact ⟨rfl,rfl,rfl,HOA.out⟩
 case rest =>
  obtain ⟨rfl,rfl,rfl,hOA⟩:=hcut
  clear HOA HID x0 x1
  obtain ⟨wo,rfl⟩:∃ wo:World,wo=wc:=⟨_,rfl⟩
  obtain ⟨hPR,hsr,hsi,⟨hcr,hr8,hr3,hwr,her⟩,⟨hci,hi8,hi3,hwi⟩,hid0⟩:=HRS.out
  have HNO:=hid (fun w' (h:Below w.heap.size w w')=>out_calls Ar _ cr ref e w' (hsr.below h) hwr hr3 hr8 her)
  have hnb:=nrm_bd hwr her
  have HDE0:Hid (∀ p q,withinB 65536000 p q=true→∀ w',Below w.heap.size w w'→Calls Tryz.prog 102 #[.slice Ar ref.length cr,.int .i64 e,vecV p q] w' (Ret (.tuple #[.int .i64 (rdpZ ref e p q),.bool (decide (0≤dptZ ref e p q))]) w')):=fun p q hpq w' h=>rdepth_calls Ar _ cr ref e p q w' (hsr.below h) hwr hr3 hr8 her hpq
  -- names of numbers
  obtain ⟨n1,hn1⟩:∃ z,z=nrmX ref e:=⟨_,rfl⟩
  obtain ⟨n2,hn2⟩:∃ z,z=nrmY ref e:=⟨_,rfl⟩
  have hlt':(e:Int)<(ref.length:Int):=by omega
  obtain ⟨j,hje⟩:∃ j,j=(e+1) % ref.length:=⟨_,rfl⟩
  have hj:j<ref.length:=by rw [hje];exact Nat.mod_lt _ (by omega)
  have hjl:(j:Int)<(ref.length:Int):=by omega
  have htm:((e:Int)+1).tmod (ref.length:Int)=(j:Int):=by
   rw [Int.tmod_eq_emod_of_nonneg (by omega),hje]
   have:(e:Int)+1=((e+1:Nat):Int):=by omega
   rw [this]
   first | exact (Int.natCast_emod _ _).symm | exact (Int.ofNat_emod _ _).symm | simp
  have hwk:IntKind.i64.wrap ((e:Int)+1)=(e:Int)+1:=IntWalk.i64_in _ (by omega)
  have hl0:¬ ref=[]:=by intro h;rw [h] at her;simp at her
  obtain ⟨r1,hr1⟩:∃ z,z=px ref e:=⟨_,rfl⟩
  obtain ⟨r2,hr2⟩:∃ z,z=py ref e:=⟨_,rfl⟩
  obtain ⟨s1,hs1⟩:∃ z,z=px ref j:=⟨_,rfl⟩
  obtain ⟨s2,hs2⟩:∃ z,z=py ref j:=⟨_,rfl⟩
  have hrw:withinB 65536000 r1 r2=true:=by rw [hr1,hr2];exact allWithin_at hwr her
  have hsw:withinB 65536000 s1 s2=true:=by rw [hs1,hs2];exact allWithin_at hwr hj
  have HSG:Hid (∀ k c,k=facZ inc n1 n2→c=clpZ (cnP inc k) (nxP inc k) (r1,r2) (s1-r1,s2-r2)→segZ ref inc e=if c.2=true then clpZ c.1.1 c.1.2 (s1,s2) (r1-s1,r2-s2) else c):=fun k c h1 h2=>by
   rw [h2,h1,hn1,hn2,hr1,hr2,hs1,hs2,hje];rfl
  have HPR:Hid (∀ k g,k=facZ inc n1 n2→g=segZ ref inc e→P=if ptsG ref e (wx,wy) ((id0*8+k)*2) g 2=[] then [ptA ref e (wx,wy) (cnP inc (fcTo inc n1 n2 inc.length)) ((id0*8+k)*2)] else ptsG ref e (wx,wy) ((id0*8+k)*2) g 2):=fun k g h1 h2=>by
   rw [h2,h1,hPR,hn1,hn2];rfl
  have HDP:Hid (∀ p q,(r1-p)*n1+(r2-q)*n2=dptZ ref e p q∧overQ ((r1-p)*n1+(r2-q)*n2) (lenZ n1 n2)=rdpZ ref e p q):=fun p q=>by
   have e1:(r1-p)*n1+(r2-q)*n2=dptZ ref e p q:=by rw [hr1,hr2,hn1,hn2];unfold dptZ;rw [Int.mul_comm,Int.mul_comm (py ref e-q)]
   refine ⟨e1,?_⟩
   rw [e1,hn1,hn2];rfl
  rw [← hn1,← hn2] at HNO hnb
  obtain ⟨b,off,hAr,hCr⟩:=hsr.at_ hl0
  subst hAr
  have HCr:=hid hCr
  have HSI:=hid hsi
  have HII:=hid (And.intro hci (And.intro hi8 (And.intro hi3 hwi)))
  have hrc:Hid (∀ w',Below w.heap.size w w'→b<w'.heap.size∧w'.cell? ⟨b,off+e*2,none⟩=some (.int .i64 r1)∧w'.cell? ⟨b,off+e*2+1,none⟩=some (.int .i64 r2)∧w'.cell? ⟨b,off+j*2,none⟩=some (.int .i64 s1)∧w'.cell? ⟨b,off+j*2+1,none⟩=some (.int .i64 s2)):=fun w' h=>by
   have hC:=HCr.out.below h
   rw [hr1,hr2,hs1,hs2]
   exact ⟨hC.lt,hC.x e her,hC.y e her,hC.x j hj,hC.y j hj⟩
  clear hPR hsr hsi hcr hwr hci hi8 hi3 hwi HRS hn1 hn2 hr1 hr2 hs1 hs2 hje hCr HCr
  have HOU:=HNO
  clear HNO
  go_upto_region 6 with fail
  obtain ⟨hbl,ri0,ri1,rj0,rj1⟩:=hrc.out _ hOA.bel
  have hA:A3 w gX gW b s e wx wy none none none wo:=⟨hOA,hbl,(fun g h=>by cases h),(fun g h=>by cases h),(fun g h=>by cases h),(fun g h=>by cases h),(fun g h=>by cases h),(fun g h=>by cases h)⟩
  go_cut [10,11,12] from 38 to 55 (fun t u v wx_=>∃ gR gS gN,t = .pointer (some ⟨gR,0,none⟩)∧u = .pointer (some ⟨gS,0,none⟩)∧v = .pointer (some ⟨gN,0,none⟩)∧OS w gX gW gN gR gS s e wx wy n1 n2 r1 r2 s1 s2 wx_)
  case first =>
   clear HSG HPR HDP HSI HII hrc HS HMM hnb hrw hsw hid0 HDE0 HF0
   (have KKr1:Hid (∀ w1 w2:World,Below w1.heap.size w1 w2→(OA w gX gW s e wx wy w1∧w1.cell? ⟨b,off+e*2,none⟩=some (.int .i64 (r1))∧w1.cell? ⟨b,off+e*2+1,none⟩=some (.int .i64 (r2))∧w1.cell? ⟨b,off+j*2,none⟩=some (.int .i64 (s1))∧w1.cell? ⟨b,off+j*2+1,none⟩=some (.int .i64 (s2)))→OA w gX gW s e wx wy w2∧w2.cell? ⟨b,off+e*2,none⟩=some (.int .i64 (r1))∧w2.cell? ⟨b,off+e*2+1,none⟩=some (.int .i64 (r2))∧w2.cell? ⟨b,off+j*2,none⟩=some (.int .i64 (s1))∧w2.cell? ⟨b,off+j*2+1,none⟩=some (.int .i64 (s2))):=fun w1 w2 hb h=>⟨OA.keep hb (h.1),keepCell hb (h.2.1),keepCell hb (h.2.2.1),keepCell hb (h.2.2.2.1),keepCell hb (h.2.2.2.2)⟩);(refine (fun (hNr1:Hid (?Tr1:Prop))=>?mainr1) (hid ?prfr1))
   case mainr1 =>
    (refine wp_region_noPanic ?_);(refine wp_region_U (S:=(S3 (fun w'=>OA w gX gW s e wx wy w'∧w'.cell? ⟨b,off+e*2,none⟩=some (.int .i64 (r1))∧w'.cell? ⟨b,off+e*2+1,none⟩=some (.int .i64 (r2))∧w'.cell? ⟨b,off+j*2,none⟩=some (.int .i64 (s1))∧w'.cell? ⟨b,off+j*2+1,none⟩=some (.int .i64 (s2))) (fun w'=>OA w gX gW s e wx wy w'∧w'.cell? ⟨b,off+j*2,none⟩=some (.int .i64 (s1))∧w'.cell? ⟨b,off+j*2+1,none⟩=some (.int .i64 (s2))))) (T:=(fun j=>[0,0,0,0,0,0,0,0,0,0,0,0,0,0,0,0,0,0,0,0,0,1,2].getD j 0)) (by kernel_rfl) (S3i0 ⟨hOA.drew,ri0,ri1,rj0,rj1⟩) (fun hH=>?_));(have hWr1:Weaker (S3 (fun w'=>OA w gX gW s e wx wy w'∧w'.cell? ⟨b,off+e*2,none⟩=some (.int .i64 (r1))∧w'.cell? ⟨b,off+e*2+1,none⟩=some (.int .i64 (r2))∧w'.cell? ⟨b,off+j*2,none⟩=some (.int .i64 (s1))∧w'.cell? ⟨b,off+j*2+1,none⟩=some (.int .i64 (s2))) (fun w'=>OA w gX gW s e wx wy w'∧w'.cell? ⟨b,off+j*2,none⟩=some (.int .i64 (s1))∧w'.cell? ⟨b,off+j*2+1,none⟩=some (.int .i64 (s2)))):=weaker3 (fun _ ⟨q0,q1,q2,q3,q4⟩=>⟨q0,q3,q4⟩));(refine Utn [(0,38),(1,39),(2,40),(3,41),(4,42),(14,52),(15,53),(16,54)] 16 0 0 (L':=?Lr1_1) hWr1 hH ?yr1_1 ?_);(case yr1_1=>((iterate 8 apply tkC;rfl;kernel_rfl;intro w' hSw;replace hSw:=S3o0 hSw;(try dsimp only at hSw);have q0:=hSw.1;have q1:=hSw.2.1;have q2:=hSw.2.2.1;have q3:=hSw.2.2.2.1;have q4:=hSw.2.2.2.2;obtain ⟨qa0_0,qa0_1,qa0_2,qa0_3,-⟩:=q0;(try simp only [sB,sC]);go_simp;(try with_reducible rfl));exact tkN));(simp only [sB,sC]);(refine Utn [(5,43),(6,44),(7,45),(8,46),(9,47),(10,48),(11,49),(12,50),(13,51)] 7 1 0 (L':=?Lr1_9) hWr1 hH ?yr1_9 ?_);(case yr1_9=>((iterate 9 apply tkC;rfl;kernel_rfl;intro w' hSw;replace hSw:=S3o1 hSw;(try dsimp only at hSw);have q0:=hSw.1;have q3:=hSw.2.1;have q4:=hSw.2.2;obtain ⟨qa0_0,qa0_1,qa0_2,qa0_3,-⟩:=q0;(try simp only [sB,sC]);go_simp;(try with_reducible rfl));exact tkN));(simp only [sB,sC]);(refine Ur [17,18,19,20] ?_);(refine Uc 0 rfl (fun K hK=>?_) ?_)
    ·(try clear hb); (go_simp); ((go_at_call 98; refine (HOU.out _ hA.drew.oa.bel).mono ?_; rintro e wn ⟨rfl, hb⟩)); (refine hK.out _ _ (S3i0 (KKr1.out _ _ hb (S3o0 hH))) ?_); (clear hK K hH); (intro hH); (try simp only [Act.put, sA, sB, sC]); (replace hA := hA.drew.keep hb); (refine Ur [18, 19, 20] ?_); (refine Uc 0 rfl (fun K hK => ?_) ?_)
     ·(try clear hb); (go_simp); (refine hK.out _ _ (S3i0 (KKr1.out _ _ Ba (S3o0 hH))) ?_); (clear hK K hH); (intro hH); (try simp only [Act.put, sA, sB, sC]); (replace hA := (hA.alT)); (obtain ⟨gT, hg⟩ : ∃ g, g = wn.heap.size := ⟨_, rfl⟩); (rw [← hg] at hA); (try rw [← hg]); (clear hg); (generalize wn.alloc (.cells #[.int .i64 0, .int .i64 0] 27) = wx18 at *); (refine Ur [19, 20] ?_); (refine Uc 0 rfl (fun K hK => ?_) ?_)
      ·(try clear hb);(go_simp);(refine hK.out _ _ (S3i0 (KKr1.out _ _ Ba (S3o0 hH))) ?_);(clear hK K hH);(intro hH);(try simp only [Act.put,sA,sB,sC]);(replace hA:=(hA.alU));(obtain ⟨gU,hg⟩:∃ g,g=wx18.heap.size:=⟨_,rfl⟩);(rw [← hg] at hA);(try rw [← hg]);(clear hg);(generalize wx18.alloc (.cells #[.int .i64 0,.int .i64 0] 27)=wx19 at *);(refine U1 20 0 rfl (fun K hK=>?_));(try clear hb);(go_simp);(refine hK.out _ _ (S3i0 (KKr1.out _ _ Ba (S3o0 hH))) ?_);(clear hK K hH);(intro hH);(try simp only [Act.put,sA,sB,sC]);(replace hA:=(hA.alV));(obtain ⟨gV,hg⟩:∃ g,g=wx19.heap.size:=⟨_,rfl⟩);(rw [← hg] at hA);(try rw [← hg]);(clear hg);(generalize wx19.alloc (.cells #[.int .i64 0,.int .i64 0] 27)=wx20 at *);(refine wpAnyU_lst (l':=tf 24 2097151) (by kernel_rfl) ?_);(try clear hb);(revert hH);(revert hA);(revert gV);(revert gU);(revert gT);(revert wx20);(exact hNr1.out)
      refine Uc 0 rfl (fun K hK=>?_) ?_
      ·(try clear hb);(go_simp);(refine hK.out _ _ (S3i0 (KKr1.out _ _ Ba (S3o0 hH))) ?_);(clear hK K hH);(intro hH);(try simp only [Act.put,sA,sB,sC]);(replace hA:=(hA.alV));(obtain ⟨gV,hg⟩:∃ g,g=wx18.heap.size:=⟨_,rfl⟩);(rw [← hg] at hA);(try rw [← hg]);(clear hg);(generalize wx18.alloc (.cells #[.int .i64 0,.int .i64 0] 27)=wx20 at *);(refine U1 19 0 rfl (fun K hK=>?_));(try clear hb);(go_simp);(refine hK.out _ _ (S3i0 (KKr1.out _ _ Ba (S3o0 hH))) ?_);(clear hK K hH);(intro hH);(try simp only [Act.put,sA,sB,sC]);(replace hA:=(hA.alU));(obtain ⟨gU,hg⟩:∃ g,g=wx20.heap.size:=⟨_,rfl⟩);(rw [← hg] at hA);(try rw [← hg]);(clear hg);(generalize wx20.alloc (.cells #[.int .i64 0,.int .i64 0] 27)=wx19 at *);(refine wpAnyU_lst (l':=tf 24 2097151) (by kernel_rfl) ?_);(try clear hb);(revert hH);(revert hA);(revert gV);(revert gU);(revert gT);(revert wx19);(exact hNr1.out)
      exact AllReadyU.nil
     refine Uc 0 rfl (fun K hK=>?_) ?_
     ·(try clear hb); (go_simp); (refine hK.out _ _ (S3i0 (KKr1.out _ _ Ba (S3o0 hH))) ?_); (clear hK K hH); (intro hH); (try simp only [Act.put, sA, sB, sC]); (replace hA := (hA.alU)); (obtain ⟨gU, hg⟩ : ∃ g, g = wn.heap.size := ⟨_, rfl⟩); (rw [← hg] at hA); (try rw [← hg]); (clear hg); (generalize wn.alloc (.cells #[.int .i64 0, .int .i64 0] 27) = wx19 at *); (refine Ur [18, 20] ?_); (refine Uc 0 rfl (fun K hK => ?_) ?_)
      ·(try clear hb);(go_simp);(refine hK.out _ _ (S3i0 (KKr1.out _ _ Ba (S3o0 hH))) ?_);(clear hK K hH);(intro hH);(try simp only [Act.put,sA,sB,sC]);(replace hA:=(hA.alT));(obtain ⟨gT,hg⟩:∃ g,g=wx19.heap.size:=⟨_,rfl⟩);(rw [← hg] at hA);(try rw [← hg]);(clear hg);(generalize wx19.alloc (.cells #[.int .i64 0,.int .i64 0] 27)=wx18 at *);(refine U1 20 0 rfl (fun K hK=>?_));(try clear hb);(go_simp);(refine hK.out _ _ (S3i0 (KKr1.out _ _ Ba (S3o0 hH))) ?_);(clear hK K hH);(intro hH);(try simp only [Act.put,sA,sB,sC]);(replace hA:=(hA.alV));(obtain ⟨gV,hg⟩:∃ g,g=wx18.heap.size:=⟨_,rfl⟩);(rw [← hg] at hA);(try rw [← hg]);(clear hg);(generalize wx18.alloc (.cells #[.int .i64 0,.int .i64 0] 27)=wx20 at *);(refine wpAnyU_lst (l':=tf 24 2097151) (by kernel_rfl) ?_);(try clear hb);(revert hH);(revert hA);(revert gV);(revert gU);(revert gT);(revert wx20);(exact hNr1.out)
      refine Uc 0 rfl (fun K hK=>?_) ?_
      ·(try clear hb);(go_simp);(refine hK.out _ _ (S3i0 (KKr1.out _ _ Ba (S3o0 hH))) ?_);(clear hK K hH);(intro hH);(try simp only [Act.put,sA,sB,sC]);(replace hA:=(hA.alV));(obtain ⟨gV,hg⟩:∃ g,g=wx19.heap.size:=⟨_,rfl⟩);(rw [← hg] at hA);(try rw [← hg]);(clear hg);(generalize wx19.alloc (.cells #[.int .i64 0,.int .i64 0] 27)=wx20 at *);(refine U1 18 0 rfl (fun K hK=>?_));(try clear hb);(go_simp);(refine hK.out _ _ (S3i0 (KKr1.out _ _ Ba (S3o0 hH))) ?_);(clear hK K hH);(intro hH);(try simp only [Act.put,sA,sB,sC]);(replace hA:=(hA.alT));(obtain ⟨gT,hg⟩:∃ g,g=wx20.heap.size:=⟨_,rfl⟩);(rw [← hg] at hA);(try rw [← hg]);(clear hg);(generalize wx20.alloc (.cells #[.int .i64 0,.int .i64 0] 27)=wx18 at *);(refine wpAnyU_lst (l':=tf 24 2097151) (by kernel_rfl) ?_);(try clear hb);(revert hH);(revert hA);(revert gV);(revert gU);(revert gT);(revert wx18);(exact hNr1.out)
      exact AllReadyU.nil
     refine Uc 0 rfl (fun K hK=>?_) ?_
     ·(try clear hb); (go_simp); (refine hK.out _ _ (S3i0 (KKr1.out _ _ Ba (S3o0 hH))) ?_); (clear hK K hH); (intro hH); (try simp only [Act.put, sA, sB, sC]); (replace hA := (hA.alV)); (obtain ⟨gV, hg⟩ : ∃ g, g = wn.heap.size := ⟨_, rfl⟩); (rw [← hg] at hA); (try rw [← hg]); (clear hg); (generalize wn.alloc (.cells #[.int .i64 0, .int .i64 0] 27) = wx20 at *); (refine Ur [18, 19] ?_); (refine Uc 0 rfl (fun K hK => ?_) ?_)
      ·(try clear hb);(go_simp);(refine hK.out _ _ (S3i0 (KKr1.out _ _ Ba (S3o0 hH))) ?_);(clear hK K hH);(intro hH);(try simp only [Act.put,sA,sB,sC]);(replace hA:=(hA.alT));(obtain ⟨gT,hg⟩:∃ g,g=wx20.heap.size:=⟨_,rfl⟩);(rw [← hg] at hA);(try rw [← hg]);(clear hg);(generalize wx20.alloc (.cells #[.int .i64 0,.int .i64 0] 27)=wx18 at *);(refine U1 19 0 rfl (fun K hK=>?_));(try clear hb);(go_simp);(refine hK.out _ _ (S3i0 (KKr1.out _ _ Ba (S3o0 hH))) ?_);(clear hK K hH);(intro hH);(try simp only [Act.put,sA,sB,sC]);(replace hA:=(hA.alU));(obtain ⟨gU,hg⟩:∃ g,g=wx18.heap.size:=⟨_,rfl⟩);(rw [← hg] at hA);(try rw [← hg]);(clear hg);(generalize wx18.alloc (.cells #[.int .i64 0,.int .i64 0] 27)=wx19 at *);(refine wpAnyU_lst (l':=tf 24 2097151) (by kernel_rfl) ?_);(try clear hb);(revert hH);(revert hA);(revert gV);(revert gU);(revert gT);(revert wx19);(exact hNr1.out)
      refine Uc 0 rfl (fun K hK=>?_) ?_
      ·(try clear hb);(go_simp);(refine hK.out _ _ (S3i0 (KKr1.out _ _ Ba (S3o0 hH))) ?_);(clear hK K hH);(intro hH);(try simp only [Act.put,sA,sB,sC]);(replace hA:=(hA.alU));(obtain ⟨gU,hg⟩:∃ g,g=wx20.heap.size:=⟨_,rfl⟩);(rw [← hg] at hA);(try rw [← hg]);(clear hg);(generalize wx20.alloc (.cells #[.int .i64 0,.int .i64 0] 27)=wx19 at *);(refine U1 18 0 rfl (fun K hK=>?_));(try clear hb);(go_simp);(refine hK.out _ _ (S3i0 (KKr1.out _ _ Ba (S3o0 hH))) ?_);(clear hK K hH);(intro hH);(try simp only [Act.put,sA,sB,sC]);(replace hA:=(hA.alT));(obtain ⟨gT,hg⟩:∃ g,g=wx19.heap.size:=⟨_,rfl⟩);(rw [← hg] at hA);(try rw [← hg]);(clear hg);(generalize wx19.alloc (.cells #[.int .i64 0,.int .i64 0] 27)=wx18 at *);(refine wpAnyU_lst (l':=tf 24 2097151) (by kernel_rfl) ?_);(try clear hb);(revert hH);(revert hA);(revert gV);(revert gU);(revert gT);(revert wx18);(exact hNr1.out)
      exact AllReadyU.nil
     exact AllReadyU.nil
    refine Uc 0 rfl (fun K hK=>?_) ?_
    ·(try clear hb); (go_simp); (refine hK.out _ _ (S3i0 (KKr1.out _ _ Ba (S3o0 hH))) ?_); (clear hK K hH); (intro hH); (try simp only [Act.put, sA, sB, sC]); (replace hA := A3.drew (hA.alT)); (obtain ⟨gT, hg⟩ : ∃ g, g = wo.heap.size := ⟨_, rfl⟩); (rw [← hg] at hA); (try rw [← hg]); (clear hg); (generalize (wo.alloc (.cells #[.int .i64 0, .int .i64 0] 27)).drew = wx18 at *); (refine Ur [17, 19, 20] ?_); (refine Uc 0 rfl (fun K hK => ?_) ?_)
     ·(try clear hb); (go_simp); ((go_at_call 98; refine (HOU.out _ hA.oa.bel).mono ?_; rintro e wn ⟨rfl, hb⟩)); (refine hK.out _ _ (S3i0 (KKr1.out _ _ hb (S3o0 hH))) ?_); (clear hK K hH); (intro hH); (try simp only [Act.put, sA, sB, sC]); (replace hA := hA.keep hb); (refine Ur [19, 20] ?_); (refine Uc 0 rfl (fun K hK => ?_) ?_)
      ·(try clear hb);(go_simp);(refine hK.out _ _ (S3i0 (KKr1.out _ _ Ba (S3o0 hH))) ?_);(clear hK K hH);(intro hH);(try simp only [Act.put,sA,sB,sC]);(replace hA:=(hA.alU));(obtain ⟨gU,hg⟩:∃ g,g=wn.heap.size:=⟨_,rfl⟩);(rw [← hg] at hA);(try rw [← hg]);(clear hg);(generalize wn.alloc (.cells #[.int .i64 0,.int .i64 0] 27)=wx19 at *);(refine U1 20 0 rfl (fun K hK=>?_));(try clear hb);(go_simp);(refine hK.out _ _ (S3i0 (KKr1.out _ _ Ba (S3o0 hH))) ?_);(clear hK K hH);(intro hH);(try simp only [Act.put,sA,sB,sC]);(replace hA:=(hA.alV));(obtain ⟨gV,hg⟩:∃ g,g=wx19.heap.size:=⟨_,rfl⟩);(rw [← hg] at hA);(try rw [← hg]);(clear hg);(generalize wx19.alloc (.cells #[.int .i64 0,.int .i64 0] 27)=wx20 at *);(refine wpAnyU_lst (l':=tf 24 2097151) (by kernel_rfl) ?_);(try clear hb);(revert hH);(revert hA);(revert gV);(revert gU);(revert gT);(revert wx20);(exact hNr1.out)
      refine Uc 0 rfl (fun K hK=>?_) ?_
      ·(try clear hb);(go_simp);(refine hK.out _ _ (S3i0 (KKr1.out _ _ Ba (S3o0 hH))) ?_);(clear hK K hH);(intro hH);(try simp only [Act.put,sA,sB,sC]);(replace hA:=(hA.alV));(obtain ⟨gV,hg⟩:∃ g,g=wn.heap.size:=⟨_,rfl⟩);(rw [← hg] at hA);(try rw [← hg]);(clear hg);(generalize wn.alloc (.cells #[.int .i64 0,.int .i64 0] 27)=wx20 at *);(refine U1 19 0 rfl (fun K hK=>?_));(try clear hb);(go_simp);(refine hK.out _ _ (S3i0 (KKr1.out _ _ Ba (S3o0 hH))) ?_);(clear hK K hH);(intro hH);(try simp only [Act.put,sA,sB,sC]);(replace hA:=(hA.alU));(obtain ⟨gU,hg⟩:∃ g,g=wx20.heap.size:=⟨_,rfl⟩);(rw [← hg] at hA);(try rw [← hg]);(clear hg);(generalize wx20.alloc (.cells #[.int .i64 0,.int .i64 0] 27)=wx19 at *);(refine wpAnyU_lst (l':=tf 24 2097151) (by kernel_rfl) ?_);(try clear hb);(revert hH);(revert hA);(revert gV);(revert gU);(revert gT);(revert wx19);(exact hNr1.out)
      exact AllReadyU.nil
     refine Uc 0 rfl (fun K hK=>?_) ?_
     ·(try clear hb); (go_simp); (refine hK.out _ _ (S3i0 (KKr1.out _ _ Ba (S3o0 hH))) ?_); (clear hK K hH); (intro hH); (try simp only [Act.put, sA, sB, sC]); (replace hA := (hA.alU)); (obtain ⟨gU, hg⟩ : ∃ g, g = wx18.heap.size := ⟨_, rfl⟩); (rw [← hg] at hA); (try rw [← hg]); (clear hg); (generalize wx18.alloc (.cells #[.int .i64 0, .int .i64 0] 27) = wx19 at *); (refine Ur [17, 20] ?_); (refine Uc 0 rfl (fun K hK => ?_) ?_)
      ·(try clear hb);(go_simp);((go_at_call 98;refine (HOU.out _ hA.oa.bel).mono ?_;rintro e wn ⟨rfl,hb⟩));(refine hK.out _ _ (S3i0 (KKr1.out _ _ hb (S3o0 hH))) ?_);(clear hK K hH);(intro hH);(try simp only [Act.put,sA,sB,sC]);(replace hA:=hA.keep hb);(refine U1 20 0 rfl (fun K hK=>?_));(try clear hb);(go_simp);(refine hK.out _ _ (S3i0 (KKr1.out _ _ Ba (S3o0 hH))) ?_);(clear hK K hH);(intro hH);(try simp only [Act.put,sA,sB,sC]);(replace hA:=(hA.alV));(obtain ⟨gV,hg⟩:∃ g,g=wn.heap.size:=⟨_,rfl⟩);(rw [← hg] at hA);(try rw [← hg]);(clear hg);(generalize wn.alloc (.cells #[.int .i64 0,.int .i64 0] 27)=wx20 at *);(refine wpAnyU_lst (l':=tf 24 2097151) (by kernel_rfl) ?_);(try clear hb);(revert hH);(revert hA);(revert gV);(revert gU);(revert gT);(revert wx20);(exact hNr1.out)
      refine Uc 0 rfl (fun K hK=>?_) ?_
      ·(try clear hb);(go_simp);(refine hK.out _ _ (S3i0 (KKr1.out _ _ Ba (S3o0 hH))) ?_);(clear hK K hH);(intro hH);(try simp only [Act.put,sA,sB,sC]);(replace hA:=(hA.alV));(obtain ⟨gV,hg⟩:∃ g,g=wx19.heap.size:=⟨_,rfl⟩);(rw [← hg] at hA);(try rw [← hg]);(clear hg);(generalize wx19.alloc (.cells #[.int .i64 0,.int .i64 0] 27)=wx20 at *);(refine U1 17 0 rfl (fun K hK=>?_));(try clear hb);(go_simp);((go_at_call 98;refine (HOU.out _ hA.oa.bel).mono ?_;rintro e wn ⟨rfl,hb⟩));(refine hK.out _ _ (S3i0 (KKr1.out _ _ hb (S3o0 hH))) ?_);(clear hK K hH);(intro hH);(try simp only [Act.put,sA,sB,sC]);(replace hA:=hA.keep hb);(refine wpAnyU_lst (l':=tf 24 2097151) (by kernel_rfl) ?_);(try clear hb);(revert hH);(revert hA);(revert gV);(revert gU);(revert gT);(revert wn);(exact hNr1.out)
      exact AllReadyU.nil
     refine Uc 0 rfl (fun K hK=>?_) ?_
     ·(try clear hb); (go_simp); (refine hK.out _ _ (S3i0 (KKr1.out _ _ Ba (S3o0 hH))) ?_); (clear hK K hH); (intro hH); (try simp only [Act.put, sA, sB, sC]); (replace hA := (hA.alV)); (obtain ⟨gV, hg⟩ : ∃ g, g = wx18.heap.size := ⟨_, rfl⟩); (rw [← hg] at hA); (try rw [← hg]); (clear hg); (generalize wx18.alloc (.cells #[.int .i64 0, .int .i64 0] 27) = wx20 at *); (refine Ur [17, 19] ?_); (refine Uc 0 rfl (fun K hK => ?_) ?_)
      ·(try clear hb);(go_simp);((go_at_call 98;refine (HOU.out _ hA.oa.bel).mono ?_;rintro e wn ⟨rfl,hb⟩));(refine hK.out _ _ (S3i0 (KKr1.out _ _ hb (S3o0 hH))) ?_);(clear hK K hH);(intro hH);(try simp only [Act.put,sA,sB,sC]);(replace hA:=hA.keep hb);(refine U1 19 0 rfl (fun K hK=>?_));(try clear hb);(go_simp);(refine hK.out _ _ (S3i0 (KKr1.out _ _ Ba (S3o0 hH))) ?_);(clear hK K hH);(intro hH);(try simp only [Act.put,sA,sB,sC]);(replace hA:=(hA.alU));(obtain ⟨gU,hg⟩:∃ g,g=wn.heap.size:=⟨_,rfl⟩);(rw [← hg] at hA);(try rw [← hg]);(clear hg);(generalize wn.alloc (.cells #[.int .i64 0,.int .i64 0] 27)=wx19 at *);(refine wpAnyU_lst (l':=tf 24 2097151) (by kernel_rfl) ?_);(try clear hb);(revert hH);(revert hA);(revert gV);(revert gU);(revert gT);(revert wx19);(exact hNr1.out)
      refine Uc 0 rfl (fun K hK=>?_) ?_
      ·(try clear hb);(go_simp);(refine hK.out _ _ (S3i0 (KKr1.out _ _ Ba (S3o0 hH))) ?_);(clear hK K hH);(intro hH);(try simp only [Act.put,sA,sB,sC]);(replace hA:=(hA.alU));(obtain ⟨gU,hg⟩:∃ g,g=wx20.heap.size:=⟨_,rfl⟩);(rw [← hg] at hA);(try rw [← hg]);(clear hg);(generalize wx20.alloc (.cells #[.int .i64 0,.int .i64 0] 27)=wx19 at *);(refine U1 17 0 rfl (fun K hK=>?_));(try clear hb);(go_simp);((go_at_call 98;refine (HOU.out _ hA.oa.bel).mono ?_;rintro e wn ⟨rfl,hb⟩));(refine hK.out _ _ (S3i0 (KKr1.out _ _ hb (S3o0 hH))) ?_);(clear hK K hH);(intro hH);(try simp only [Act.put,sA,sB,sC]);(replace hA:=hA.keep hb);(refine wpAnyU_lst (l':=tf 24 2097151) (by kernel_rfl) ?_);(try clear hb);(revert hH);(revert hA);(revert gV);(revert gU);(revert gT);(revert wn);(exact hNr1.out)
      exact AllReadyU.nil
     exact AllReadyU.nil
    refine Uc 0 rfl (fun K hK=>?_) ?_
    ·(try clear hb); (go_simp); (refine hK.out _ _ (S3i0 (KKr1.out _ _ Ba (S3o0 hH))) ?_); (clear hK K hH); (intro hH); (try simp only [Act.put, sA, sB, sC]); (replace hA := A3.drew (hA.alU)); (obtain ⟨gU, hg⟩ : ∃ g, g = wo.heap.size := ⟨_, rfl⟩); (rw [← hg] at hA); (try rw [← hg]); (clear hg); (generalize (wo.alloc (.cells #[.int .i64 0, .int .i64 0] 27)).drew = wx19 at *); (refine Ur [17, 18, 20] ?_); (refine Uc 0 rfl (fun K hK => ?_) ?_)
     ·(try clear hb); (go_simp); ((go_at_call 98; refine (HOU.out _ hA.oa.bel).mono ?_; rintro e wn ⟨rfl, hb⟩)); (refine hK.out _ _ (S3i0 (KKr1.out _ _ hb (S3o0 hH))) ?_); (clear hK K hH); (intro hH); (try simp only [Act.put, sA, sB, sC]); (replace hA := hA.keep hb); (refine Ur [18, 20] ?_); (refine Uc 0 rfl (fun K hK => ?_) ?_)
      ·(try clear hb);(go_simp);(refine hK.out _ _ (S3i0 (KKr1.out _ _ Ba (S3o0 hH))) ?_);(clear hK K hH);(intro hH);(try simp only [Act.put,sA,sB,sC]);(replace hA:=(hA.alT));(obtain ⟨gT,hg⟩:∃ g,g=wn.heap.size:=⟨_,rfl⟩);(rw [← hg] at hA);(try rw [← hg]);(clear hg);(generalize wn.alloc (.cells #[.int .i64 0,.int .i64 0] 27)=wx18 at *);(refine U1 20 0 rfl (fun K hK=>?_));(try clear hb);(go_simp);(refine hK.out _ _ (S3i0 (KKr1.out _ _ Ba (S3o0 hH))) ?_);(clear hK K hH);(intro hH);(try simp only [Act.put,sA,sB,sC]);(replace hA:=(hA.alV));(obtain ⟨gV,hg⟩:∃ g,g=wx18.heap.size:=⟨_,rfl⟩);(rw [← hg] at hA);(try rw [← hg]);(clear hg);(generalize wx18.alloc (.cells #[.int .i64 0,.int .i64 0] 27)=wx20 at *);(refine wpAnyU_lst (l':=tf 24 2097151) (by kernel_rfl) ?_);(try clear hb);(revert hH);(revert hA);(revert gV);(revert gU);(revert gT);(revert wx20);(exact hNr1.out)
      refine Uc 0 rfl (fun K hK=>?_) ?_
      ·(try clear hb);(go_simp);(refine hK.out _ _ (S3i0 (KKr1.out _ _ Ba (S3o0 hH))) ?_);(clear hK K hH);(intro hH);(try simp only [Act.put,sA,sB,sC]);(replace hA:=(hA.alV));(obtain ⟨gV,hg⟩:∃ g,g=wn.heap.size:=⟨_,rfl⟩);(rw [← hg] at hA);(try rw [← hg]);(clear hg);(generalize wn.alloc (.cells #[.int .i64 0,.int .i64 0] 27)=wx20 at *);(refine U1 18 0 rfl (fun K hK=>?_));(try clear hb);(go_simp);(refine hK.out _ _ (S3i0 (KKr1.out _ _ Ba (S3o0 hH))) ?_);(clear hK K hH);(intro hH);(try simp only [Act.put,sA,sB,sC]);(replace hA:=(hA.alT));(obtain ⟨gT,hg⟩:∃ g,g=wx20.heap.size:=⟨_,rfl⟩);(rw [← hg] at hA);(try rw [← hg]);(clear hg);(generalize wx20.alloc (.cells #[.int .i64 0,.int .i64 0] 27)=wx18 at *);(refine wpAnyU_lst (l':=tf 24 2097151) (by kernel_rfl) ?_);(try clear hb);(revert hH);(revert hA);(revert gV);(revert gU);(revert gT);(revert wx18);(exact hNr1.out)
      exact AllReadyU.nil
     refine Uc 0 rfl (fun K hK=>?_) ?_
     ·(try clear hb); (go_simp); (refine hK.out _ _ (S3i0 (KKr1.out _ _ Ba (S3o0 hH))) ?_); (clear hK K hH); (intro hH); (try simp only [Act.put, sA, sB, sC]); (replace hA := (hA.alT)); (obtain ⟨gT, hg⟩ : ∃ g, g = wx19.heap.size := ⟨_, rfl⟩); (rw [← hg] at hA); (try rw [← hg]); (clear hg); (generalize wx19.alloc (.cells #[.int .i64 0, .int .i64 0] 27) = wx18 at *); (refine Ur [17, 20] ?_); (refine Uc 0 rfl (fun K hK => ?_) ?_)
      ·(try clear hb);(go_simp);((go_at_call 98;refine (HOU.out _ hA.oa.bel).mono ?_;rintro e wn ⟨rfl,hb⟩));(refine hK.out _ _ (S3i0 (KKr1.out _ _ hb (S3o0 hH))) ?_);(clear hK K hH);(intro hH);(try simp only [Act.put,sA,sB,sC]);(replace hA:=hA.keep hb);(refine U1 20 0 rfl (fun K hK=>?_));(try clear hb);(go_simp);(refine hK.out _ _ (S3i0 (KKr1.out _ _ Ba (S3o0 hH))) ?_);(clear hK K hH);(intro hH);(try simp only [Act.put,sA,sB,sC]);(replace hA:=(hA.alV));(obtain ⟨gV,hg⟩:∃ g,g=wn.heap.size:=⟨_,rfl⟩);(rw [← hg] at hA);(try rw [← hg]);(clear hg);(generalize wn.alloc (.cells #[.int .i64 0,.int .i64 0] 27)=wx20 at *);(refine wpAnyU_lst (l':=tf 24 2097151) (by kernel_rfl) ?_);(try clear hb);(revert hH);(revert hA);(revert gV);(revert gU);(revert gT);(revert wx20);(exact hNr1.out)
      refine Uc 0 rfl (fun K hK=>?_) ?_
      ·(try clear hb);(go_simp);(refine hK.out _ _ (S3i0 (KKr1.out _ _ Ba (S3o0 hH))) ?_);(clear hK K hH);(intro hH);(try simp only [Act.put,sA,sB,sC]);(replace hA:=(hA.alV));(obtain ⟨gV,hg⟩:∃ g,g=wx18.heap.size:=⟨_,rfl⟩);(rw [← hg] at hA);(try rw [← hg]);(clear hg);(generalize wx18.alloc (.cells #[.int .i64 0,.int .i64 0] 27)=wx20 at *);(refine U1 17 0 rfl (fun K hK=>?_));(try clear hb);(go_simp);((go_at_call 98;refine (HOU.out _ hA.oa.bel).mono ?_;rintro e wn ⟨rfl,hb⟩));(refine hK.out _ _ (S3i0 (KKr1.out _ _ hb (S3o0 hH))) ?_);(clear hK K hH);(intro hH);(try simp only [Act.put,sA,sB,sC]);(replace hA:=hA.keep hb);(refine wpAnyU_lst (l':=tf 24 2097151) (by kernel_rfl) ?_);(try clear hb);(revert hH);(revert hA);(revert gV);(revert gU);(revert gT);(revert wn);(exact hNr1.out)
      exact AllReadyU.nil
     refine Uc 0 rfl (fun K hK=>?_) ?_
     ·(try clear hb); (go_simp); (refine hK.out _ _ (S3i0 (KKr1.out _ _ Ba (S3o0 hH))) ?_); (clear hK K hH); (intro hH); (try simp only [Act.put, sA, sB, sC]); (replace hA := (hA.alV)); (obtain ⟨gV, hg⟩ : ∃ g, g = wx19.heap.size := ⟨_, rfl⟩); (rw [← hg] at hA); (try rw [← hg]); (clear hg); (generalize wx19.alloc (.cells #[.int .i64 0, .int .i64 0] 27) = wx20 at *); (refine Ur [17, 18] ?_); (refine Uc 0 rfl (fun K hK => ?_) ?_)
      ·(try clear hb);(go_simp);((go_at_call 98;refine (HOU.out _ hA.oa.bel).mono ?_;rintro e wn ⟨rfl,hb⟩));(refine hK.out _ _ (S3i0 (KKr1.out _ _ hb (S3o0 hH))) ?_);(clear hK K hH);(intro hH);(try simp only [Act.put,sA,sB,sC]);(replace hA:=hA.keep hb);(refine U1 18 0 rfl (fun K hK=>?_));(try clear hb);(go_simp);(refine hK.out _ _ (S3i0 (KKr1.out _ _ Ba (S3o0 hH))) ?_);(clear hK K hH);(intro hH);(try simp only [Act.put,sA,sB,sC]);(replace hA:=(hA.alT));(obtain ⟨gT,hg⟩:∃ g,g=wn.heap.size:=⟨_,rfl⟩);(rw [← hg] at hA);(try rw [← hg]);(clear hg);(generalize wn.alloc (.cells #[.int .i64 0,.int .i64 0] 27)=wx18 at *);(refine wpAnyU_lst (l':=tf 24 2097151) (by kernel_rfl) ?_);(try clear hb);(revert hH);(revert hA);(revert gV);(revert gU);(revert gT);(revert wx18);(exact hNr1.out)
      refine Uc 0 rfl (fun K hK=>?_) ?_
      ·(try clear hb);(go_simp);(refine hK.out _ _ (S3i0 (KKr1.out _ _ Ba (S3o0 hH))) ?_);(clear hK K hH);(intro hH);(try simp only [Act.put,sA,sB,sC]);(replace hA:=(hA.alT));(obtain ⟨gT,hg⟩:∃ g,g=wx20.heap.size:=⟨_,rfl⟩);(rw [← hg] at hA);(try rw [← hg]);(clear hg);(generalize wx20.alloc (.cells #[.int .i64 0,.int .i64 0] 27)=wx18 at *);(refine U1 17 0 rfl (fun K hK=>?_));(try clear hb);(go_simp);((go_at_call 98;refine (HOU.out _ hA.oa.bel).mono ?_;rintro e wn ⟨rfl,hb⟩));(refine hK.out _ _ (S3i0 (KKr1.out _ _ hb (S3o0 hH))) ?_);(clear hK K hH);(intro hH);(try simp only [Act.put,sA,sB,sC]);(replace hA:=hA.keep hb);(refine wpAnyU_lst (l':=tf 24 2097151) (by kernel_rfl) ?_);(try clear hb);(revert hH);(revert hA);(revert gV);(revert gU);(revert gT);(revert wn);(exact hNr1.out)
      exact AllReadyU.nil
     exact AllReadyU.nil
    refine Uc 0 rfl (fun K hK=>?_) ?_
    ·(try clear hb); (go_simp); (refine hK.out _ _ (S3i0 (KKr1.out _ _ Ba (S3o0 hH))) ?_); (clear hK K hH); (intro hH); (try simp only [Act.put, sA, sB, sC]); (replace hA := A3.drew (hA.alV)); (obtain ⟨gV, hg⟩ : ∃ g, g = wo.heap.size := ⟨_, rfl⟩); (rw [← hg] at hA); (try rw [← hg]); (clear hg); (generalize (wo.alloc (.cells #[.int .i64 0, .int .i64 0] 27)).drew = wx20 at *); (refine Ur [17, 18, 19] ?_); (refine Uc 0 rfl (fun K hK => ?_) ?_)
     ·(try clear hb); (go_simp); ((go_at_call 98; refine (HOU.out _ hA.oa.bel).mono ?_; rintro e wn ⟨rfl, hb⟩)); (refine hK.out _ _ (S3i0 (KKr1.out _ _ hb (S3o0 hH))) ?_); (clear hK K hH); (intro hH); (try simp only [Act.put, sA, sB, sC]); (replace hA := hA.keep hb); (refine Ur [18, 19] ?_); (refine Uc 0 rfl (fun K hK => ?_) ?_)
      ·(try clear hb);(go_simp);(refine hK.out _ _ (S3i0 (KKr1.out _ _ Ba (S3o0 hH))) ?_);(clear hK K hH);(intro hH);(try simp only [Act.put,sA,sB,sC]);(replace hA:=(hA.alT));(obtain ⟨gT,hg⟩:∃ g,g=wn.heap.size:=⟨_,rfl⟩);(rw [← hg] at hA);(try rw [← hg]);(clear hg);(generalize wn.alloc (.cells #[.int .i64 0,.int .i64 0] 27)=wx18 at *);(refine U1 19 0 rfl (fun K hK=>?_));(try clear hb);(go_simp);(refine hK.out _ _ (S3i0 (KKr1.out _ _ Ba (S3o0 hH))) ?_);(clear hK K hH);(intro hH);(try simp only [Act.put,sA,sB,sC]);(replace hA:=(hA.alU));(obtain ⟨gU,hg⟩:∃ g,g=wx18.heap.size:=⟨_,rfl⟩);(rw [← hg] at hA);(try rw [← hg]);(clear hg);(generalize wx18.alloc (.cells #[.int .i64 0,.int .i64 0] 27)=wx19 at *);(refine wpAnyU_lst (l':=tf 24 2097151) (by kernel_rfl) ?_);(try clear hb);(revert hH);(revert hA);(revert gV);(revert gU);(revert gT);(revert wx19);(exact hNr1.out)
      refine Uc 0 rfl (fun K hK=>?_) ?_
      ·(try clear hb);(go_simp);(refine hK.out _ _ (S3i0 (KKr1.out _ _ Ba (S3o0 hH))) ?_);(clear hK K hH);(intro hH);(try simp only [Act.put,sA,sB,sC]);(replace hA:=(hA.alU));(obtain ⟨gU,hg⟩:∃ g,g=wn.heap.size:=⟨_,rfl⟩);(rw [← hg] at hA);(try rw [← hg]);(clear hg);(generalize wn.alloc (.cells #[.int .i64 0,.int .i64 0] 27)=wx19 at *);(refine U1 18 0 rfl (fun K hK=>?_));(try clear hb);(go_simp);(refine hK.out _ _ (S3i0 (KKr1.out _ _ Ba (S3o0 hH))) ?_);(clear hK K hH);(intro hH);(try simp only [Act.put,sA,sB,sC]);(replace hA:=(hA.alT));(obtain ⟨gT,hg⟩:∃ g,g=wx19.heap.size:=⟨_,rfl⟩);(rw [← hg] at hA);(try rw [← hg]);(clear hg);(generalize wx19.alloc (.cells #[.int .i64 0,.int .i64 0] 27)=wx18 at *);(refine wpAnyU_lst (l':=tf 24 2097151) (by kernel_rfl) ?_);(try clear hb);(revert hH);(revert hA);(revert gV);(revert gU);(revert gT);(revert wx18);(exact hNr1.out)
      exact AllReadyU.nil
     refine Uc 0 rfl (fun K hK=>?_) ?_
     ·(try clear hb); (go_simp); (refine hK.out _ _ (S3i0 (KKr1.out _ _ Ba (S3o0 hH))) ?_); (clear hK K hH); (intro hH); (try simp only [Act.put, sA, sB, sC]); (replace hA := (hA.alT)); (obtain ⟨gT, hg⟩ : ∃ g, g = wx20.heap.size := ⟨_, rfl⟩); (rw [← hg] at hA); (try rw [← hg]); (clear hg); (generalize wx20.alloc (.cells #[.int .i64 0, .int .i64 0] 27) = wx18 at *); (refine Ur [17, 19] ?_); (refine Uc 0 rfl (fun K hK => ?_) ?_)
      ·(try clear hb);(go_simp);((go_at_call 98;refine (HOU.out _ hA.oa.bel).mono ?_;rintro e wn ⟨rfl,hb⟩));(refine hK.out _ _ (S3i0 (KKr1.out _ _ hb (S3o0 hH))) ?_);(clear hK K hH);(intro hH);(try simp only [Act.put,sA,sB,sC]);(replace hA:=hA.keep hb);(refine U1 19 0 rfl (fun K hK=>?_));(try clear hb);(go_simp);(refine hK.out _ _ (S3i0 (KKr1.out _ _ Ba (S3o0 hH))) ?_);(clear hK K hH);(intro hH);(try simp only [Act.put,sA,sB,sC]);(replace hA:=(hA.alU));(obtain ⟨gU,hg⟩:∃ g,g=wn.heap.size:=⟨_,rfl⟩);(rw [← hg] at hA);(try rw [← hg]);(clear hg);(generalize wn.alloc (.cells #[.int .i64 0,.int .i64 0] 27)=wx19 at *);(refine wpAnyU_lst (l':=tf 24 2097151) (by kernel_rfl) ?_);(try clear hb);(revert hH);(revert hA);(revert gV);(revert gU);(revert gT);(revert wx19);(exact hNr1.out)
      refine Uc 0 rfl (fun K hK=>?_) ?_
      ·(try clear hb);(go_simp);(refine hK.out _ _ (S3i0 (KKr1.out _ _ Ba (S3o0 hH))) ?_);(clear hK K hH);(intro hH);(try simp only [Act.put,sA,sB,sC]);(replace hA:=(hA.alU));(obtain ⟨gU,hg⟩:∃ g,g=wx18.heap.size:=⟨_,rfl⟩);(rw [← hg] at hA);(try rw [← hg]);(clear hg);(generalize wx18.alloc (.cells #[.int .i64 0,.int .i64 0] 27)=wx19 at *);(refine U1 17 0 rfl (fun K hK=>?_));(try clear hb);(go_simp);((go_at_call 98;refine (HOU.out _ hA.oa.bel).mono ?_;rintro e wn ⟨rfl,hb⟩));(refine hK.out _ _ (S3i0 (KKr1.out _ _ hb (S3o0 hH))) ?_);(clear hK K hH);(intro hH);(try simp only [Act.put,sA,sB,sC]);(replace hA:=hA.keep hb);(refine wpAnyU_lst (l':=tf 24 2097151) (by kernel_rfl) ?_);(try clear hb);(revert hH);(revert hA);(revert gV);(revert gU);(revert gT);(revert wn);(exact hNr1.out)
      exact AllReadyU.nil
     refine Uc 0 rfl (fun K hK=>?_) ?_
     ·(try clear hb); (go_simp); (refine hK.out _ _ (S3i0 (KKr1.out _ _ Ba (S3o0 hH))) ?_); (clear hK K hH); (intro hH); (try simp only [Act.put, sA, sB, sC]); (replace hA := (hA.alU)); (obtain ⟨gU, hg⟩ : ∃ g, g = wx20.heap.size := ⟨_, rfl⟩); (rw [← hg] at hA); (try rw [← hg]); (clear hg); (generalize wx20.alloc (.cells #[.int .i64 0, .int .i64 0] 27) = wx19 at *); (refine Ur [17, 18] ?_); (refine Uc 0 rfl (fun K hK => ?_) ?_)
      ·(try clear hb);(go_simp);((go_at_call 98;refine (HOU.out _ hA.oa.bel).mono ?_;rintro e wn ⟨rfl,hb⟩));(refine hK.out _ _ (S3i0 (KKr1.out _ _ hb (S3o0 hH))) ?_);(clear hK K hH);(intro hH);(try simp only [Act.put,sA,sB,sC]);(replace hA:=hA.keep hb);(refine U1 18 0 rfl (fun K hK=>?_));(try clear hb);(go_simp);(refine hK.out _ _ (S3i0 (KKr1.out _ _ Ba (S3o0 hH))) ?_);(clear hK K hH);(intro hH);(try simp only [Act.put,sA,sB,sC]);(replace hA:=(hA.alT));(obtain ⟨gT,hg⟩:∃ g,g=wn.heap.size:=⟨_,rfl⟩);(rw [← hg] at hA);(try rw [← hg]);(clear hg);(generalize wn.alloc (.cells #[.int .i64 0,.int .i64 0] 27)=wx18 at *);(refine wpAnyU_lst (l':=tf 24 2097151) (by kernel_rfl) ?_);(try clear hb);(revert hH);(revert hA);(revert gV);(revert gU);(revert gT);(revert wx18);(exact hNr1.out)
      refine Uc 0 rfl (fun K hK=>?_) ?_
      ·(try clear hb);(go_simp);(refine hK.out _ _ (S3i0 (KKr1.out _ _ Ba (S3o0 hH))) ?_);(clear hK K hH);(intro hH);(try simp only [Act.put,sA,sB,sC]);(replace hA:=(hA.alT));(obtain ⟨gT,hg⟩:∃ g,g=wx19.heap.size:=⟨_,rfl⟩);(rw [← hg] at hA);(try rw [← hg]);(clear hg);(generalize wx19.alloc (.cells #[.int .i64 0,.int .i64 0] 27)=wx18 at *);(refine U1 17 0 rfl (fun K hK=>?_));(try clear hb);(go_simp);((go_at_call 98;refine (HOU.out _ hA.oa.bel).mono ?_;rintro e wn ⟨rfl,hb⟩));(refine hK.out _ _ (S3i0 (KKr1.out _ _ hb (S3o0 hH))) ?_);(clear hK K hH);(intro hH);(try simp only [Act.put,sA,sB,sC]);(replace hA:=hA.keep hb);(refine wpAnyU_lst (l':=tf 24 2097151) (by kernel_rfl) ?_);(try clear hb);(revert hH);(revert hA);(revert gV);(revert gU);(revert gT);(revert wn);(exact hNr1.out)
      exact AllReadyU.nil
     exact AllReadyU.nil
    exact AllReadyU.nil
   case prfr1 =>
    (intro wX gT gU gV hA hH);(have hWr1:Weaker (S3 (fun w'=>OA w gX gW s e wx wy w'∧w'.cell? ⟨b,off+e*2,none⟩=some (.int .i64 (r1))∧w'.cell? ⟨b,off+e*2+1,none⟩=some (.int .i64 (r2))∧w'.cell? ⟨b,off+j*2,none⟩=some (.int .i64 (s1))∧w'.cell? ⟨b,off+j*2+1,none⟩=some (.int .i64 (s2))) (fun w'=>OA w gX gW s e wx wy w'∧w'.cell? ⟨b,off+j*2,none⟩=some (.int .i64 (s1))∧w'.cell? ⟨b,off+j*2+1,none⟩=some (.int .i64 (s2)))):=weaker3 (fun _ ⟨q0,q1,q2,q3,q4⟩=>⟨q0,q3,q4⟩));(refine U1 21 1 rfl (fun K hK=>?_));(try clear hb);(have hG:=hH);(replace hG:=S3o0 hG;(try dsimp only at hG);have q0:=hG.1;have q1:=hG.2.1;have q2:=hG.2.2.1;have q3:=hG.2.2.2.1;have q4:=hG.2.2.2.2);(have hV:=(hA.pt _ rfl).1);(obtain ⟨⟨_,_,z0,z1⟩,zf⟩:=hV);(have hgl:=lt_of_cell z0);(have hA2:=hA.stT r1 r2);(go_simp);(refine hK.out _ _ (S3i1 ⟨hA2.oa,far2 hA2.d.tb q3,far2 hA2.d.tb q4⟩) ?_);(clear hK K hH);(intro hH);(try simp only [Act.put,sA,sB,sC]);(obtain ⟨wy1,hwy⟩:∃ w',w'=put2 wX gT r1 r2:=⟨_,rfl⟩);(rw [← hwy] at hA2);(unfold put2 at hwy);(try rw [← hwy] at hH);(rw [← hwy]);(clear hwy hA z0 z1 zf hgl q0 q1 q2 q3 q4);(refine U1 22 2 rfl (fun K hK=>?_));(obtain ⟨⟨_,_,z0,z1⟩,zf⟩:=hA2.u);(have hgl:=lt_of_cell z0);(have hA3:=hA2.stU s1 s2);(go_simp);(refine hK.out _ _ (S3i2) ?_);(clear hK K hH);(intro hH);(try simp only [Act.put,sA,sB,sC]);(obtain ⟨wy2,hwy⟩:∃ w',w'=put2 wy1 gU s1 s2:=⟨_,rfl⟩);(rw [← hwy] at hA3);(unfold put2 at hwy);(try rw [← hwy] at hH);(rw [← hwy]);(clear hwy hA2 z0 z1 zf hgl);(refine U1 23 2 rfl (fun K hK=>?_));(obtain ⟨⟨_,_,z0,z1⟩,zf⟩:=hA3.v);(have hgl:=lt_of_cell z0);(have hA4:=hA3.stV n1 n2);(go_simp);(refine hK.out _ _ (S3i2) ?_);(clear hK K hH);(intro hH);(try simp only [Act.put,sA,sB,sC]);(obtain ⟨wy3,hwy⟩:∃ w',w'=put2 wy2 gV n1 n2:=⟨_,rfl⟩);(rw [← hwy] at hA4);(unfold put2 at hwy);(rw [← hwy]);(clear hwy hA3 z0 z1 zf hgl);(refine wpAnyU_done (by kernel_rfl) ?_ _ _);(refine NoPanic.normal ?_);(go_wp2_with fail);(go_meet);(exact ⟨gT,gU,gV,rfl,rfl,rfl,hA4⟩)
  case rest =>
   obtain ⟨gR,gS,gN,rfl,rfl,rfl,hOS⟩:=hcut
   clear hA hOA ri0 ri1 rj0 rj1 hbl hrc htm hwk hl0 HOU
   obtain ⟨hci,hi8,hi3,hwi⟩:=HII.out
   have HFA:=hid (fun w' (h:Below w.heap.size w w')=>rfacing_calls Ai _ ci inc n1 n2 w' (HSI.out.below h) hwi hi3 hi8 hnb.1 hnb.2)
   have hkl:=facZ_lt (l:=inc) n1 n2 (by omega)
   obtain ⟨k,hk⟩:∃ k,k=facZ inc n1 n2:=⟨_,rfl⟩
   rw [← hk] at HFA hkl
   obtain ⟨j2,hj2e⟩:∃ j,j=(k+1) % inc.length:=⟨_,rfl⟩
   have hj2:j2<inc.length:=by rw [hj2e];exact Nat.mod_lt _ (by omega)
   have hpw:=allWithin_at hwi hkl
   have hqw:=allWithin_at hwi hj2
   have HPQ:Hid (cnP inc k=(px inc k,py inc k)∧nxP inc k=(px inc j2,py inc j2)):=by rw [hj2e];exact ⟨rfl,rfl⟩
   have HIC:Hid (∀ w',Below w.heap.size w w'→∃ bi offi,Ai=some ⟨bi,offi,none⟩∧bi<w'.heap.size∧w'.cell? ⟨bi,offi+k*2,none⟩=some (.int .i64 (px inc k))∧w'.cell? ⟨bi,offi+k*2+1,none⟩=some (.int .i64 (py inc k))∧w'.cell? ⟨bi,offi+j2*2,none⟩=some (.int .i64 (px inc j2))∧w'.cell? ⟨bi,offi+j2*2+1,none⟩=some (.int .i64 (py inc j2))):=fun w' h=>by
    obtain ⟨bi,offi,hA,hC0⟩:=HSI.out.at_ (by intro h;rw [h] at hkl;simp at hkl)
    have hC:=hC0.below h
    exact ⟨bi,offi,hA,hC.lt,hC.x k hkl,hC.y k hkl,hC.x j2 hj2,hC.y j2 hj2⟩
   have htm2:((k:Int)+1).tmod (inc.length:Int)=(j2:Int):=by
    rw [Int.tmod_eq_emod_of_nonneg (by omega),hj2e]
    have:(k:Int)+1=((k+1:Nat):Int):=by omega
    rw [this]
    first | exact (Int.natCast_emod _ _).symm | exact (Int.ofNat_emod _ _).symm | simp
   have hwk2:IntKind.i64.wrap ((k:Int)+1)=(k:Int)+1:=IntWalk.i64_in _ (by omega)
   have hk8:k<8:=by omega
   have hl2:¬ inc=[]:=by intro h;rw [h] at hkl;simp at hkl
   have hkl':(k:Int)<(inc.length:Int):=by omega
   have hj2':(j2:Int)<(inc.length:Int):=by omega
   have hi1:IntKind.i64.wrap (id0*8)=id0*8:=IntWalk.i64_in _ (by omega)
   have hi2:IntKind.i64.wrap (id0*8+(k:Int))=id0*8+(k:Int):=IntWalk.i64_in _ (by omega)
   have hi4:IntKind.i64.wrap ((id0*8+(k:Int))*2)=(id0*8+(k:Int))*2:=IntWalk.i64_in _ (by omega)
   generalize px inc k=p1 at *
   generalize py inc k=p2 at *
   generalize px inc j2=q1_ at *
   generalize py inc j2=q2_ at *
   obtain ⟨_,_,_,_⟩:=withinB_iff.1 hrw
   obtain ⟨_,_,_,_⟩:=withinB_iff.1 hsw
   have HMS:=hid (rsub_v s1 s2 r1 r2 (by omega) (by omega))
   have HMR:=hid (rsub_v r1 r2 s1 s2 (by omega) (by omega))
   have HCL:=hid (rclip_calls p1 p2 q1_ q2_ r1 r2 (s1-r1) (s2-r2) hpw hqw hrw (withinB_iff.2 (by omega)))
   have hcw:=clp_within (p:=(p1,p2)) (q:=(q1_,q2_)) (a:=clpA (p1,p2) (r1,r2) (s1-r1,s2-r2)) (b:=clpA (q1_,q2_) (r1,r2) (s1-r1,s2-r2)) hpw hqw
   change withinB 65536000 (clpZ (p1,p2) (q1_,q2_) (r1,r2) (s1-r1,s2-r2)).1.1.1 (clpZ (p1,p2) (q1_,q2_) (r1,r2) (s1-r1,s2-r2)).1.1.2=true∧withinB 65536000 (clpZ (p1,p2) (q1_,q2_) (r1,r2) (s1-r1,s2-r2)).1.2.1 (clpZ (p1,p2) (q1_,q2_) (r1,r2) (s1-r1,s2-r2)).1.2.2=true at hcw
   have HSG2:=hid (HSG.out k (clpZ (p1,p2) (q1_,q2_) (r1,r2) (s1-r1,s2-r2)) hk (by rw [HPQ.out.1,HPQ.out.2]))
   have HPR2:=hid (HPR.out k _ hk rfl)
   obtain ⟨c1,hc1⟩:∃ c,c=clpZ (p1,p2) (q1_,q2_) (r1,r2) (s1-r1,s2-r2):=⟨_,rfl⟩
   rw [← hc1] at HCL hcw HSG2
   obtain ⟨⟨⟨u1,u2⟩,v1,v2⟩,ok1⟩:=c1
   change Hid (∀ w,Calls _ _ _ w (Ret (.tuple #[.agg #[.int .i64 u1,.int .i64 u2,.int .i64 v1,.int .i64 v2],.bool ok1]) w)) at HCL
   dsimp only at hcw
   have HC2:=hid (rclip_calls u1 u2 v1 v2 s1 s2 (r1-s1) (r2-s2) hcw.1 hcw.2 hsw (withinB_iff.2 (by omega)))
   have HCW:=hid hcw
   have HK:=hid hk
   clear hk hj2e hpw hqw hc1 hcw HSG HPR hci hi8 hi3 hwi
   have hf1:IntKind.i64.wrap (8*f0)=8*f0:=by have:=HF0.out;exact IntWalk.i64_in _ (by omega)
   have hf2:IntKind.i64.wrap (8*f0+(e:Int))=id0:=by have:=HF0.out;rw [this.1];exact IntWalk.i64_in _ (by omega)
   have x1:=hOS.ob.oa.x1
   obtain ⟨kn0,kn1⟩:=And.intro hOS.ob.k0 hOS.ob.k1
   go_wp2_with fail
   refine (HFA.out _ hOS.ob.oa.bel).mono ?_
   rintro e0 w4 ⟨rfl,hb4⟩
   replace hOS:=hOS.keep hb4
   clear hb4 x1 kn0 kn1 HFA
   have x1:=hOS.ob.oa.x1
   go_upto_region 9 with fail
   obtain ⟨bi,offi,hAi,hbil,pi0,pi1,qi0,qi1⟩:=HIC.out _ hOS.ob.oa.bel
   subst hAi
   obtain ⟨wo,rfl⟩:∃ wo:World,wo=w4:=⟨_,rfl⟩
   go_cut [15,16] from 69 to 88 (fun t v wx_=>∃ gG,t = .pointer (some ⟨gG,0,none⟩)∧v = .bool ok1∧OQ w gX gW gN gR gS s e wx wy n1 n2 r1 r2 s1 s2 gG (u1,u2) (v1,v2) wx_)
   case first =>
    clear HSG2 HPR2 HDP HSI HII HIC HS HMM hnb hrw hsw hid0 HC2 HCW HK HPQ HMR hi1 hi2 hi4 HDE0 HF0 hf1 hf2 x1
    (refine wp_region_noPanic ?_);(refine wp_region_U (S:=(S2 (fun w'=>OS w gX gW gN gR gS s e wx wy n1 n2 r1 r2 s1 s2 w'∧w'.cell? ⟨bi,offi+k*2,none⟩=some (.int .i64 (p1))∧w'.cell? ⟨bi,offi+k*2+1,none⟩=some (.int .i64 (p2))∧w'.cell? ⟨bi,offi+j2*2,none⟩=some (.int .i64 (q1_))∧w'.cell? ⟨bi,offi+j2*2+1,none⟩=some (.int .i64 (q2_))))) (T:=(fun j=>[0,0,0,0,0,0,0,0,0,0,0,0,0,0,0,0,0,0,0,0,0,0,1].getD j 0)) (by kernel_rfl) (S2i0 ⟨hOS.drew,pi0,pi1,qi0,qi1⟩) (fun hH=>?_));(have hWr2:Weaker (S2 (fun w'=>OS w gX gW gN gR gS s e wx wy n1 n2 r1 r2 s1 s2 w'∧w'.cell? ⟨bi,offi+k*2,none⟩=some (.int .i64 (p1))∧w'.cell? ⟨bi,offi+k*2+1,none⟩=some (.int .i64 (p2))∧w'.cell? ⟨bi,offi+j2*2,none⟩=some (.int .i64 (q1_))∧w'.cell? ⟨bi,offi+j2*2+1,none⟩=some (.int .i64 (q2_)))):=weaker2 _);(refine Utn [(0,69),(1,70),(2,71),(3,72),(4,73),(5,74),(6,75),(7,76),(8,77),(9,78),(10,79),(11,80),(12,81),(13,82),(14,83),(15,84)] 8 0 0 (L':=?Lr2_1) hWr2 hH ?yr2_1 ?_);(case yr2_1=>((iterate 16 apply tkC;rfl;kernel_rfl;intro w' hSw;replace hSw:=S2o0 hSw;(try dsimp only at hSw);have q0:=hSw.1;have q1:=hSw.2.1;have q2:=hSw.2.2.1;have q3:=hSw.2.2.2.1;have q4:=hSw.2.2.2.2;obtain ⟨-,qa0_4,qa0_5,qa0_6,qa0_7⟩:=q0;(try simp only [sB,sC]);go_simp;(try with_reducible rfl));exact tkN));(simp only [sB,sC]);(refine Ur [16,21] ?_);(refine Uc 0 rfl (fun K hK=>?_) ?_)
    ·(try clear hb); (go_simp); ((go_at_call 101; refine (HMS.out _).mono ?_; rintro e wn ⟨rfl, hb⟩; (try (replace hA := keepG5 hb hA)))); (refine hK.out _ _ (S2i0 (by have hG := hH; replace hG := S2o0 hG; (try dsimp only at hG); have q0 := hG.1; have q1 := hG.2.1; have q2 := hG.2.2.1; have q3 := hG.2.2.2.1; have q4 := hG.2.2.2.2; exact ⟨OS.keep hb q0, keepCell hb q1, keepCell hb q2, keepCell hb q3, keepCell hb q4⟩)) ?_); (clear hK K hH); (intro hH); (try simp only [Act.put, sA, sB, sC]); (refine Ur [17, 21] ?_); (refine Uc 0 rfl (fun K hK => ?_) ?_)
     ·(try clear hb);(go_simp);((go_at_call 100;refine (HCL.out _).mono ?_;rintro e wn ⟨rfl,hb⟩;(try (replace hA:=keepG5 hb hA))));(refine hK.out _ _ (S2i0 (by have hG:=hH;replace hG:=S2o0 hG;(try dsimp only at hG);have q0:=hG.1;have q1:=hG.2.1;have q2:=hG.2.2.1;have q3:=hG.2.2.2.1;have q4:=hG.2.2.2.2;exact ⟨OS.keep hb q0,keepCell hb q1,keepCell hb q2,keepCell hb q3,keepCell hb q4⟩)) ?_);(clear hK K hH);(intro hH);(try simp only [Act.put,sA,sB,sC]);(refine Utn [(18,68),(19,87)] 4 0 0 (L':=?Lr2_19) hWr2 hH ?yr2_19 ?_);(case yr2_19=>((iterate 2 apply tkC;rfl;kernel_rfl;intro w' hSw;clear hSw;(try simp only [sB,sC]);go_simp;(try with_reducible rfl));exact tkN));(simp only [sB,sC]);(refine Ut 20 88 3 1 0 (v:=?vr2_21) rfl hWr2 hH ?yr2_21 ?_);(case yr2_21=>(intro w' hSw;clear hSw;go_simp;try (with_reducible rfl)));(simp only [sB,sC]);(refine U1 21 0 rfl (fun K hK=>?_));(try clear hb);(have hG:=hH);(replace hG:=S2o0 hG;(try dsimp only at hG);have q0:=hG.1;have q1:=hG.2.1;have q2:=hG.2.2.1;have q3:=hG.2.2.2.1;have q4:=hG.2.2.2.2);(go_simp);(refine hK.out _ _ (S2i0 ⟨q0.keep Ba,keepCell Ba q1,keepCell Ba q2,keepCell Ba q3,keepCell Ba q4⟩) ?_);(clear hK K hH);(intro hH);(try simp only [Act.put,sA,sB,sC]);(have hA:G5 w gX gW gN gR gS wn.heap.size (wn.alloc (.cells #[.int .i64 0,.int .i64 0,.int .i64 0,.int .i64 0] 141)):=G5.here q0);(obtain ⟨gG,hg⟩:∃ g,g=wn.heap.size:=⟨_,rfl⟩);(rw [← hg] at hA);(try rw [← hg]);(clear hg q0 q1 q2 q3 q4);(generalize wn.alloc (.cells #[.int .i64 0,.int .i64 0,.int .i64 0,.int .i64 0] 141)=wx21 at *);(refine U1 22 1 rfl (fun K hK=>?_));(try clear hb);(have hG:=hH);(replace hG:=S2o0 hG;(try dsimp only at hG);have q0:=hG.1;have q1:=hG.2.1;have q2:=hG.2.2.1;have q3:=hG.2.2.2.1;have q4:=hG.2.2.2.2);(obtain ⟨⟨⟨_,z0⟩,⟨_,z1⟩,⟨_,z2⟩,⟨_,z3⟩⟩,zf⟩:=hA.z);(have hgl:=lt_of_cell z0);(have hQ:=OQ.start q0 hA (u1,u2) (v1,v2));(go_simp);(refine hK.out _ _ (S2i1) ?_);(clear hK K hH);(intro hH);(try simp only [Act.put,sA,sB,sC]);(obtain ⟨wy1,hwy⟩:∃ w',w'=putP5 wx21 gG u1 u2 v1 v2:=⟨_,rfl⟩);(rw [← hwy] at hQ);(unfold putP5 at hwy);(rw [← hwy]);(clear hwy hA z0 z1 z2 z3 zf hgl q0 q1 q2 q3 q4);(refine Ut 23 16 0 1 1 (v:=?vr2_24) rfl hWr2 hH ?yr2_24 ?_);(case yr2_24=>(intro w' hSw;clear hSw;go_simp;try (with_reducible rfl)));(simp only [sB,sC]);(refine wpAnyU_done (by kernel_rfl) ?_ _ _);(refine NoPanic.normal ?_);(go_wp2_with fail);(go_meet);(exact ⟨gG,rfl,rfl,hQ⟩)
     refine Uc 0 rfl (fun K hK=>?_) ?_
     ·(try clear hb);(have hG:=hH);(replace hG:=S2o0 hG;(try dsimp only at hG);have q0:=hG.1;have q1:=hG.2.1;have q2:=hG.2.2.1;have q3:=hG.2.2.2.1;have q4:=hG.2.2.2.2);(go_simp);(refine hK.out _ _ (S2i0 ⟨q0.keep Ba,keepCell Ba q1,keepCell Ba q2,keepCell Ba q3,keepCell Ba q4⟩) ?_);(clear hK K hH);(intro hH);(try simp only [Act.put,sA,sB,sC]);(have hA:G5 w gX gW gN gR gS wn.heap.size (wn.alloc (.cells #[.int .i64 0,.int .i64 0,.int .i64 0,.int .i64 0] 141)):=G5.here q0);(obtain ⟨gG,hg⟩:∃ g,g=wn.heap.size:=⟨_,rfl⟩);(rw [← hg] at hA);(try rw [← hg]);(clear hg q0 q1 q2 q3 q4);(generalize wn.alloc (.cells #[.int .i64 0,.int .i64 0,.int .i64 0,.int .i64 0] 141)=wx21 at *);(refine U1 17 0 rfl (fun K hK=>?_));(try clear hb);(go_simp);((go_at_call 100;refine (HCL.out _).mono ?_;rintro e wn ⟨rfl,hb⟩;(try (replace hA:=keepG5 hb hA))));(refine hK.out _ _ (S2i0 (by have hG:=hH;replace hG:=S2o0 hG;(try dsimp only at hG);have q0:=hG.1;have q1:=hG.2.1;have q2:=hG.2.2.1;have q3:=hG.2.2.2.1;have q4:=hG.2.2.2.2;exact ⟨OS.keep hb q0,keepCell hb q1,keepCell hb q2,keepCell hb q3,keepCell hb q4⟩)) ?_);(clear hK K hH);(intro hH);(try simp only [Act.put,sA,sB,sC]);(refine Utn [(18,68),(19,87)] 3 0 0 (L':=?Lr2_27) hWr2 hH ?yr2_27 ?_);(case yr2_27=>((iterate 2 apply tkC;rfl;kernel_rfl;intro w' hSw;clear hSw;(try simp only [sB,sC]);go_simp;(try with_reducible rfl));exact tkN));(simp only [sB,sC]);(refine Ut 20 88 2 1 0 (v:=?vr2_29) rfl hWr2 hH ?yr2_29 ?_);(case yr2_29=>(intro w' hSw;clear hSw;go_simp;try (with_reducible rfl)));(simp only [sB,sC]);(refine U1 22 1 rfl (fun K hK=>?_));(try clear hb);(have hG:=hH);(replace hG:=S2o0 hG;(try dsimp only at hG);have q0:=hG.1;have q1:=hG.2.1;have q2:=hG.2.2.1;have q3:=hG.2.2.2.1;have q4:=hG.2.2.2.2);(obtain ⟨⟨⟨_,z0⟩,⟨_,z1⟩,⟨_,z2⟩,⟨_,z3⟩⟩,zf⟩:=hA.z);(have hgl:=lt_of_cell z0);(have hQ:=OQ.start q0 hA (u1,u2) (v1,v2));(go_simp);(refine hK.out _ _ (S2i1) ?_);(clear hK K hH);(intro hH);(try simp only [Act.put,sA,sB,sC]);(obtain ⟨wy1,hwy⟩:∃ w',w'=putP5 wn gG u1 u2 v1 v2:=⟨_,rfl⟩);(rw [← hwy] at hQ);(unfold putP5 at hwy);(rw [← hwy]);(clear hwy hA z0 z1 z2 z3 zf hgl q0 q1 q2 q3 q4);(refine Ut 23 16 0 1 1 (v:=?vr2_31) rfl hWr2 hH ?yr2_31 ?_);(case yr2_31=>(intro w' hSw;clear hSw;go_simp;try (with_reducible rfl)));(simp only [sB,sC]);(refine wpAnyU_done (by kernel_rfl) ?_ _ _);(refine NoPanic.normal ?_);(go_wp2_with fail);(go_meet);(exact ⟨gG,rfl,rfl,hQ⟩)
     exact AllReadyU.nil
    refine Uc 0 rfl (fun K hK=>?_) ?_
    ·(try clear hb);(have hG:=hH);(replace hG:=S2o0 hG;(try dsimp only at hG);have q0:=hG.1;have q1:=hG.2.1;have q2:=hG.2.2.1;have q3:=hG.2.2.2.1;have q4:=hG.2.2.2.2);(go_simp);(refine hK.out _ _ (S2i0 ⟨q0.keep Ba,keepCell Ba q1,keepCell Ba q2,keepCell Ba q3,keepCell Ba q4⟩) ?_);(clear hK K hH);(intro hH);(try simp only [Act.put,sA,sB,sC]);(have hA:G5 w gX gW gN gR gS wo.heap.size ((wo.alloc (.cells #[.int .i64 0,.int .i64 0,.int .i64 0,.int .i64 0] 141)).drew):=G5.drew (G5.here hOS));(obtain ⟨gG,hg⟩:∃ g,g=wo.heap.size:=⟨_,rfl⟩);(rw [← hg] at hA);(try rw [← hg]);(clear hg q0 q1 q2 q3 q4);(generalize (wo.alloc (.cells #[.int .i64 0,.int .i64 0,.int .i64 0,.int .i64 0] 141)).drew=wx21 at *);(refine U1 16 0 rfl (fun K hK=>?_));(try clear hb);(go_simp);((go_at_call 101;refine (HMS.out _).mono ?_;rintro e wn ⟨rfl,hb⟩;(try (replace hA:=keepG5 hb hA))));(refine hK.out _ _ (S2i0 (by have hG:=hH;replace hG:=S2o0 hG;(try dsimp only at hG);have q0:=hG.1;have q1:=hG.2.1;have q2:=hG.2.2.1;have q3:=hG.2.2.2.1;have q4:=hG.2.2.2.2;exact ⟨OS.keep hb q0,keepCell hb q1,keepCell hb q2,keepCell hb q3,keepCell hb q4⟩)) ?_);(clear hK K hH);(intro hH);(try simp only [Act.put,sA,sB,sC]);(refine U1 17 0 rfl (fun K hK=>?_));(try clear hb);(go_simp);((go_at_call 100;refine (HCL.out _).mono ?_;rintro e wn ⟨rfl,hb⟩;(try (replace hA:=keepG5 hb hA))));(refine hK.out _ _ (S2i0 (by have hG:=hH;replace hG:=S2o0 hG;(try dsimp only at hG);have q0:=hG.1;have q1:=hG.2.1;have q2:=hG.2.2.1;have q3:=hG.2.2.2.1;have q4:=hG.2.2.2.2;exact ⟨OS.keep hb q0,keepCell hb q1,keepCell hb q2,keepCell hb q3,keepCell hb q4⟩)) ?_);(clear hK K hH);(intro hH);(try simp only [Act.put,sA,sB,sC]);(refine Utn [(18,68),(19,87)] 3 0 0 (L':=?Lr2_35) hWr2 hH ?yr2_35 ?_);(case yr2_35=>((iterate 2 apply tkC;rfl;kernel_rfl;intro w' hSw;clear hSw;(try simp only [sB,sC]);go_simp;(try with_reducible rfl));exact tkN));(simp only [sB,sC]);(refine Ut 20 88 2 1 0 (v:=?vr2_37) rfl hWr2 hH ?yr2_37 ?_);(case yr2_37=>(intro w' hSw;clear hSw;go_simp;try (with_reducible rfl)));(simp only [sB,sC]);(refine U1 22 1 rfl (fun K hK=>?_));(try clear hb);(have hG:=hH);(replace hG:=S2o0 hG;(try dsimp only at hG);have q0:=hG.1;have q1:=hG.2.1;have q2:=hG.2.2.1;have q3:=hG.2.2.2.1;have q4:=hG.2.2.2.2);(obtain ⟨⟨⟨_,z0⟩,⟨_,z1⟩,⟨_,z2⟩,⟨_,z3⟩⟩,zf⟩:=hA.z);(have hgl:=lt_of_cell z0);(have hQ:=OQ.start q0 hA (u1,u2) (v1,v2));(go_simp);(refine hK.out _ _ (S2i1) ?_);(clear hK K hH);(intro hH);(try simp only [Act.put,sA,sB,sC]);(obtain ⟨wy1,hwy⟩:∃ w',w'=putP5 wn gG u1 u2 v1 v2:=⟨_,rfl⟩);(rw [← hwy] at hQ);(unfold putP5 at hwy);(rw [← hwy]);(clear hwy hA z0 z1 z2 z3 zf hgl q0 q1 q2 q3 q4);(refine Ut 23 16 0 1 1 (v:=?vr2_39) rfl hWr2 hH ?yr2_39 ?_);(case yr2_39=>(intro w' hSw;clear hSw;go_simp;try (with_reducible rfl)));(simp only [sB,sC]);(refine wpAnyU_done (by kernel_rfl) ?_ _ _);(refine NoPanic.normal ?_);(go_wp2_with fail);(go_meet);(exact ⟨gG,rfl,rfl,hQ⟩)
    exact AllReadyU.nil
   case rest =>
    obtain ⟨gG,rfl,rfl,hOQ⟩:=hcut
    clear hOS pi0 pi1 qi0 qi1 hbil HCL HMS htm2 hwk2 hi1 hi2 hi4 HIC hf1 hf2 x1
    go_upto_if 89 with fail
    have HOQ:=hid hOQ
    obtain ⟨seg,hseg⟩:∃ g,g=segZ ref inc e:=⟨_,rfl⟩
    rw [← hseg] at HSG2 HPR2
    clear hseg
    obtain ⟨⟨⟨g1,g2⟩,g3,g4⟩,ok⟩:=seg
    go_cut [16] from 89 to 98 (fun t wx_=>t = .bool ok∧OQ w gX gW gN gR gS s e wx wy n1 n2 r1 r2 s1 s2 gG (g1,g2) (g3,g4) wx_∧withinB 65536000 g1 g2=true∧withinB 65536000 g3 g4=true)
    case first =>
     clear HPR2 HDP HSI HII HS HMM hnb hid0 HK HPQ HDE0
     cases ok1 with
     | true =>
      have hse:=HSG2.out
      rw [if_pos rfl] at hse
      try dsimp only at hse
      have hcw2:=clp_within (p:=(u1,u2)) (q:=(v1,v2)) (a:=clpA (u1,u2) (s1,s2) (r1-s1,r2-s2)) (b:=clpA (v1,v2) (s1,s2) (r1-s1,r2-s2)) HCW.out.1 HCW.out.2
      change withinB 65536000 (clpZ (u1,u2) (v1,v2) (s1,s2) (r1-s1,r2-s2)).1.1.1 (clpZ (u1,u2) (v1,v2) (s1,s2) (r1-s1,r2-s2)).1.1.2=true∧withinB 65536000 (clpZ (u1,u2) (v1,v2) (s1,s2) (r1-s1,r2-s2)).1.2.1 (clpZ (u1,u2) (v1,v2) (s1,s2) (r1-s1,r2-s2)).1.2.2=true at hcw2
      rw [← hse] at HC2 hcw2
      change Hid (∀ w,Calls _ _ _ w (Ret (.tuple #[.agg #[.int .i64 g1,.int .i64 g2,.int .i64 g3,.int .i64 g4],.bool ok]) w)) at HC2
      dsimp only at hcw2
      have HW2:=hid hcw2
      clear hse HSG2 hcw2 HCW hrw hsw HOQ
      obtain ⟨wo,rfl⟩:∃ wo:World,wo=wc:=⟨_,rfl⟩
      go_upto_region 11 with fail
      (refine wp_region_noPanic ?_);(refine wp_region_U (S:=(S2 (fun w'=>OQ w gX gW gN gR gS s e wx wy n1 n2 r1 r2 s1 s2 gG (u1,u2) (v1,v2) w'))) (T:=(fun j=>[0,0,0,0,0,0,0,0,0,1].getD j 0)) (by kernel_rfl) (S2i0 (hOQ.keep (Below.refl _ _).drew)) (fun hH=>?_));(have hWr3:Weaker (S2 (fun w'=>OQ w gX gW gN gR gS s e wx wy n1 n2 r1 r2 s1 s2 gG (u1,u2) (v1,v2) w')):=weaker2 _);(refine Utn [(0,91),(1,92),(2,93),(3,94)] 7 0 0 (L':=?Lr3_1) hWr3 hH ?yr3_1 ?_);(case yr3_1=>((iterate 4 apply tkC;rfl;kernel_rfl;intro w' hSw;replace hSw:=S2o0 hSw;(try dsimp only at hSw);have q0:=hSw;obtain ⟨qa0_0,qa0_1,qa0_2,qa0_3,qa0_4,qa0_5,qa0_6,qa0_7⟩:=OQ.cells q0;(try simp only [sB,sC]);go_simp;(try with_reducible rfl));exact tkN));(simp only [sB,sC]);(refine U1 4 0 rfl (fun K hK=>?_));(try clear hb);(go_simp);((go_at_call 101;refine (HMR.out _).mono ?_;rintro e wn ⟨rfl,hb⟩));(refine hK.out _ _ (S2i0 (by have hG:=hH;replace hG:=S2o0 hG;(try dsimp only at hG);have q0:=hG;exact OQ.keep hb q0)) ?_);(clear hK K hH);(intro hH);(try simp only [Act.put,sA,sB,sC]);(refine U1 5 0 rfl (fun K hK=>?_));(try clear hb);(go_simp);((go_at_call 100;refine (HC2.out _).mono ?_;rintro e wn ⟨rfl,hb⟩));(refine hK.out _ _ (S2i0 (by have hG:=hH;replace hG:=S2o0 hG;(try dsimp only at hG);have q0:=hG;exact OQ.keep hb q0)) ?_);(clear hK K hH);(intro hH);(try simp only [Act.put,sA,sB,sC]);(refine Utn [(6,90),(7,97)] 3 0 0 (L':=?Lr3_7) hWr3 hH ?yr3_7 ?_);(case yr3_7=>((iterate 2 apply tkC;rfl;kernel_rfl;intro w' hSw;clear hSw;(try simp only [sB,sC]);go_simp;(try with_reducible rfl));exact tkN));(simp only [sB,sC]);(refine Ut 8 98 2 1 0 (v:=?vr3_9) rfl hWr3 hH ?yr3_9 ?_);(case yr3_9=>(intro w' hSw;clear hSw;go_simp;try (with_reducible rfl)));(simp only [sB,sC]);(refine U1 9 1 rfl (fun K hK=>?_));(try clear hb);(have hG:=hH);(replace hG:=S2o0 hG;(try dsimp only at hG);have q0:=hG);(obtain ⟨z0,z1,z2,z3,zf⟩:=q0.g);(have hgl:=lt_of_cell z0);(have hQ:=q0.set (g1,g2) (g3,g4));(go_simp);(refine hK.out _ _ (S2i1) ?_);(clear hK K hH);(intro hH);(try simp only [Act.put,sA,sB,sC]);(obtain ⟨wy1,hwy⟩:∃ w',w'=putP5 wn gG g1 g2 g3 g4:=⟨_,rfl⟩);(rw [← hwy] at hQ);(unfold putP5 at hwy);(rw [← hwy]);(clear hwy z0 z1 z2 z3 zf hgl q0);(refine Ut 10 16 0 1 1 (v:=?vr3_11) rfl hWr3 hH ?yr3_11 ?_);(case yr3_11=>(intro w' hSw;clear hSw;go_simp;try (with_reducible rfl)));(simp only [sB,sC]);(refine wpAnyU_done (by kernel_rfl) ?_ _ _);(refine NoPanic.normal ?_)
      go_wp2_with fail
      go_meet
      exact ⟨rfl,hQ,HW2.out.1,HW2.out.2⟩
     | false =>
      have hse:=HSG2.out
      rw [if_neg (by simp)] at hse
      cases hse
      go_wp2_with fail
      go_meet
      exact ⟨rfl,HOQ.out,HCW.out.1,HCW.out.2⟩
    case rest =>
     obtain ⟨rfl,hOQ2,hgw1,hgw2⟩:=hcut
     clear HOQ hOQ HSG2 HCW HC2 HMR
     obtain ⟨ID,hID⟩:∃ z,z=(id0*8+(k:Int))*2:=⟨_,rfl⟩
     have hwI:IntKind.i64.wrap ID=ID:=IntWalk.i64_in _ (by omega)
     have hwI1:IntKind.i64.wrap (ID+1)=ID+1:=IntWalk.i64_in _ (by omega)
     have HFN:Hid (P=if ptsG ref e (wx,wy) ID (((g1,g2),g3,g4),ok) 2=[] then [ptA ref e (wx,wy) (cnP inc (fcTo inc n1 n2 inc.length)) ID] else ptsG ref e (wx,wy) ID (((g1,g2),g3,g4),ok) 2):=by rw [hID];exact HPR2.out
     have HG1:Hid (ptsG ref e (wx,wy) ID (((g1,g2),g3,g4),ok) 1=if ok=true∧0≤dptZ ref e g1 g2 then [((((g1,g2),(wx,wy)),(rdpZ ref e g1 g2,ID)):Pt)] else []):=rfl
     have HG2:Hid (ptsG ref e (wx,wy) ID (((g1,g2),g3,g4),ok) 2=ptsG ref e (wx,wy) ID (((g1,g2),g3,g4),ok) 1 ++ (if ok=true∧0≤dptZ ref e g3 g4∧((g3,g4):V)≠(g1,g2) then [((((g3,g4),(wx,wy)),(rdpZ ref e g3 g4,ID+1)):Pt)] else [])):=rfl
     have HGL:Hid ((ptsG ref e (wx,wy) ID (((g1,g2),g3,g4),ok) 1).length≤1):=by show _≤_;rw [HG1.out];split <;> simp
     rw [← hID]
     generalize ptsG ref e (wx,wy) ID (((g1,g2),g3,g4),ok) 1=G1 at *
     generalize ptsG ref e (wx,wy) ID (((g1,g2),g3,g4),ok) 2=G2 at *
     clear hID HPR2
     obtain ⟨wL,rfl⟩:∃ w',w'=wc:=⟨_,rfl⟩
     have HOPL:=hid hOQ2
     obtain ⟨-,-,-,-,y0,y1,y2,y3⟩:=hOQ2.cells
     clear hOQ2
     dsimp only at y0 y1 y2 y3
     go_wp2
     clear y0 y1 y2 y3
     go_loopw [17,100] (fun s i wr=>((i = .int .i64 0∧OwnE layPt 72 wr wL.heap.size s [])∨(i = .int .i64 1∧OwnE layPt 72 wr wL.heap.size s G1)∨(i = .int .i64 2∧OwnE layPt 72 wr wL.heap.size s G2))∧Below wL.heap.size wL wr) (fun _ i _=>2-(intOf i).toNat)
     case atStart=>exact ⟨.inl ⟨rfl,OwnE.nil _ _ _ _⟩,Below.refl _ _⟩
     case round =>
      obtain ⟨hcase,hB⟩:=hrel
      obtain ⟨wo,rfl⟩:∃ wo:World,wo=wr:=⟨_,rfl⟩
      rcases hcase with ⟨rfl,ho⟩ | ⟨rfl,ho⟩ | ⟨rfl,ho⟩
      ·clear HG2
       have HO:=hid ho
       obtain ⟨wp,hwp⟩:∃ w',w'=wo.alloc (.cells #[.int .i64 g1,.int .i64 g2] 27):=⟨_,rfl⟩
       obtain ⟨gC,hgC⟩:∃ g,g=wo.heap.size:=⟨_,rfl⟩
       have p_0:wp.cell? ⟨gC,0,none⟩=some (.int .i64 g1):=by rw [hwp,hgC];go_simp
       have p_1:wp.cell? ⟨gC,1,none⟩=some (.int .i64 g2):=by rw [hwp,hgC];go_simp
       have hba:Below wo.heap.size wo wp:=by rw [hwp];go_grown
       replace hB:=keepBelow hba hB
       replace HO:=hid (HO.out.below hba)
       have HOPw:=hid (HOPL.out.keep hB)
       have HDE:=hid (HDE0.out g1 g2 hgw1 wp HOPw.out.os.ob.oa.bel)
       have x1:=HOPw.out.os.ob.oa.x1
       clear ho hba HOPw
       generalize dptZ ref e g1 g2=D0 at *
       generalize rdpZ ref e g1 g2=Z0 at *
       have hix:=run_ix0 g1 g2 g3 g4
       go_upto_region 16 with fail
       rw [← hwp,← hgC]
       clear hwp hgC
       go_wp2_with fail
       refine HDE.out.mono ?_
       rintro e0 w5 ⟨rfl,hb5⟩
       replace p_0:=keepCell hb5 p_0
       replace p_1:=keepCell hb5 p_1
       replace hB:=keepBelow hb5 hB
       replace HO:=hid (HO.out.below hb5)
       have HOPw:=hid (HOPL.out.keep hB)
       obtain ⟨-,-,-,-,c_0,c_1,c_2,c_3⟩:=HOPw.out.cells
       dsimp only at c_0 c_1 c_2 c_3
       have m_0:=HOPw.out.os.ob.oa.m0
       have m_1:=HOPw.out.os.ob.oa.m1
       clear hb5 HDE HOPw x1
       cases ok with
       | false =>
        have HO2:Hid (G1=[]):=by show _=_;rw [HG1.out,if_neg (fun h=>by cases h.1)]
        go_wp2
        go_roundw
        case rel=>exact ⟨.inr (.inl ⟨rfl,by rw [HO2.out];exact HO.out⟩),hB⟩
        case measure=>simp [intOf]
       | true =>
        by_cases hd:0≤D0
        ·have HO2 : Hid (G1 = [(((g1, g2), (wx, wy)), (Z0, ID))]) := by show _ = _; rw [HG1.out, if_pos ⟨rfl, hd⟩]
         have HBS:Hid (wL.heap.size≤w5.heap.size):=hB.size
         go_wp2_with (at_builtin;refine wpList_append_E tyPt rfl _ _ rfl wL.heap.size _ _ rfl (HO.out.alloc _) w5.heap.size 0 1 1 [(((g1,g2),(wx,wy)),(Z0,ID))] rfl rfl (cells_pt (by go_simp) (by go_simp) (by go_simp) (by go_simp) (by go_simp) (by go_simp)) (by have:=HGL.out;simp;(try omega)) (by have:=HGL.out;simp;(try omega)) (by have:=HBS.out;simp;omega) ?_;intro v' w7 ho1 hg1 hat;have HO7:=hid ho1;have HB7:=hid ((hB.alloc hB.size _).grown hg1 (by have:=HBS.out;simp;omega) (fun k hk=>(HO.out.lt hk).1));clear ho1 hg1 hat)
         go_roundw
         case rel=>exact ⟨.inr (.inl ⟨rfl,by rw [HO2.out];exact HO7.out⟩),HB7.out⟩
         case measure=>simp [intOf]
        ·have HO2 : Hid (G1 = []) := by show _ = _; rw [HG1.out, if_neg (fun h => hd h.2)]
         go_wp2
         go_roundw
         case rel=>exact ⟨.inr (.inl ⟨rfl,by rw [HO2.out];exact HO.out⟩),hB⟩
         case measure=>simp [intOf]
      ·clear HG1
       have HO:=hid ho
       obtain ⟨wp,hwp⟩:∃ w',w'=wo.alloc (.cells #[.int .i64 g3,.int .i64 g4] 27):=⟨_,rfl⟩
       obtain ⟨gC,hgC⟩:∃ g,g=wo.heap.size:=⟨_,rfl⟩
       have p_0:wp.cell? ⟨gC,0,none⟩=some (.int .i64 g3):=by rw [hwp,hgC];go_simp
       have p_1:wp.cell? ⟨gC,1,none⟩=some (.int .i64 g4):=by rw [hwp,hgC];go_simp
       have hba:Below wo.heap.size wo wp:=by rw [hwp];go_grown
       replace hB:=keepBelow hba hB
       replace HO:=hid (HO.out.below hba)
       have HOPw:=hid (HOPL.out.keep hB)
       have HDE:=hid (HDE0.out g3 g4 hgw2 wp HOPw.out.os.ob.oa.bel)
       have x1:=HOPw.out.os.ob.oa.x1
       clear ho hba HOPw
       generalize dptZ ref e g3 g4=D1 at *
       generalize rdpZ ref e g3 g4=Z1 at *
       have hix:=run_ix1 g1 g2 g3 g4
       go_upto_region 16 with fail
       rw [← hwp,← hgC]
       clear hwp hgC
       go_wp2_with fail
       refine HDE.out.mono ?_
       rintro e0 w5 ⟨rfl,hb5⟩
       replace p_0:=keepCell hb5 p_0
       replace p_1:=keepCell hb5 p_1
       replace hB:=keepBelow hb5 hB
       replace HO:=hid (HO.out.below hb5)
       have HOPw:=hid (HOPL.out.keep hB)
       obtain ⟨-,-,-,-,c_0,c_1,c_2,c_3⟩:=HOPw.out.cells
       dsimp only at c_0 c_1 c_2 c_3
       have m_0:=HOPw.out.os.ob.oa.m0
       have m_1:=HOPw.out.os.ob.oa.m1
       clear hb5 HDE HOPw x1
       cases ok with
       | false =>
        have HO2:Hid (G2=G1):=by show _=_;rw [HG2.out,if_neg (fun h=>by cases h.1),List.append_nil]
        go_wp2
        go_roundw
        case rel=>exact ⟨.inr (.inr ⟨rfl,by rw [HO2.out];exact HO.out⟩),hB⟩
        case measure=>simp [intOf]
       | true =>
        by_cases hd:0≤D1
        ·have HQ := run_eqV' g3 g4 g1 g2
         obtain ⟨eb,heb⟩:∃ e,e=(g3 == g1 && g4 == g2):=⟨_,rfl⟩
         rw [← heb] at HQ
         have HE:Hid (eb=true↔((g3,g4):V)=(g1,g2)):=by show _↔_;rw [heb];simp
         clear heb
         cases eb with
         | true =>
          have HO2:Hid (G2=G1):=by show _=_;rw [HG2.out,if_neg (fun h=>h.2.2 (HE.out.1 rfl)),List.append_nil]
          go_wp2
          go_roundw
          case rel=>exact ⟨.inr (.inr ⟨rfl,by rw [HO2.out];exact HO.out⟩),hB⟩
          case measure=>simp [intOf]
         | false =>
          have HO2:Hid (G2=G1 ++ [(((g3,g4),(wx,wy)),(Z1,ID+1))]):=by show _=_;rw [HG2.out,if_pos ⟨rfl,hd,fun h=>by have:=HE.out.2 h;cases this⟩]
          have HBS:Hid (wL.heap.size≤w5.heap.size):=hB.size
          go_wp2_with (at_builtin;refine wpList_append_E tyPt rfl _ _ rfl wL.heap.size _ _ rfl (HO.out.alloc _) w5.heap.size 0 1 1 [(((g3,g4),(wx,wy)),(Z1,ID+1))] rfl rfl (cells_pt (by go_simp) (by go_simp) (by go_simp) (by go_simp) (by go_simp) (by go_simp)) (by have:=HGL.out;simp;(try omega)) (by have:=HGL.out;simp;(try omega)) (by have:=HBS.out;simp;omega) ?_;intro v' w7 ho1 hg1 hat;have HO7:=hid ho1;have HB7:=hid ((hB.alloc hB.size _).grown hg1 (by have:=HBS.out;simp;omega) (fun k hk=>(HO.out.lt hk).1));clear ho1 hg1 hat)
          go_roundw
          case rel=>exact ⟨.inr (.inr ⟨rfl,by rw [HO2.out];exact HO7.out⟩),HB7.out⟩
          case measure=>simp [intOf]
        ·have HO2 : Hid (G2 = G1) := by show _ = _; rw [HG2.out, if_neg (fun h => hd h.2.1), List.append_nil]
         go_wp2
         go_roundw
         case rel=>exact ⟨.inr (.inr ⟨rfl,by rw [HO2.out];exact HO.out⟩),hB⟩
         case measure=>simp [intOf]
      ·have HO := hid ho
       have HBW:Hid (Below w.heap.size w wo):=HOPL.out.os.ob.oa.bel.trans (hB.mono HOPL.out.os.ob.oa.bel.size)
       have HOPw:=hid (HOPL.out.keep hB)
       have hLs:=HOPL.out.os.ob.oa.bel.size
       obtain ⟨Ao,no,co,rfl,hso,hfo⟩:=ho.sl
       have hno:=hso.len
       by_cases hG:G2=[]
       ·have HFP := hid HFN.out
        subst hG
        simp at hno
        subst hno
        have HPF:=HFP.out
        rw [if_pos rfl] at HPF
        obtain ⟨hci,hi8,hi3,hwi⟩:=HII.out
        have hfl:=fcTo_lt inc n1 n2 inc.length (Nat.le_refl _) (by omega)
        have HSU:Hid (∀ w',Below w.heap.size w w'→Calls Tryz.prog 103 #[.slice (some ⟨bi,offi,none⟩) inc.length ci,vecV (-n1) (-n2)] w' (Ret (.int .i64 (fcTo inc n1 n2 inc.length:Nat)) w')):=fun w' h=>by
         refine (far_calls (some ⟨bi,offi,none⟩) _ ci inc (-n1) (-n2) (by unfold i64;omega) (by unfold i64;omega) w' (HSI.out.below h) hwi hi8 hi3).mono ?_
         rintro e w2 ⟨r,hr,he⟩
         have:=far_eq inc (-n1) (-n2) hi3 r hr
         rw [← this,← fcTo_sup] at he
         exact he
        obtain ⟨f,hf⟩:∃ f,f=fcTo inc n1 n2 inc.length:=⟨_,rfl⟩
        rw [← hf] at HSU hfl HPF
        have hxy:=allWithin_at hwi hfl
        have HFC:Hid (∀ w',Below w.heap.size w w'→bi<w'.heap.size∧w'.cell? ⟨bi,offi+f*2,none⟩=some (.int .i64 (px inc f))∧w'.cell? ⟨bi,offi+f*2+1,none⟩=some (.int .i64 (py inc f))):=fun w' h=>by
         obtain ⟨b3,o3,hA,hC0⟩:=HSI.out.at_ (by intro h;rw [h] at hfl;simp at hfl)
         cases hA
         have hC:=hC0.below h
         exact ⟨hC.lt,hC.x f hfl,hC.y f hfl⟩
        have HPX:Hid (P=[((((px inc f,py inc f),(wx,wy)),(rdpZ ref e (px inc f) (py inc f),ID)):Pt)]):=HPF
        generalize px inc f=xf at *
        generalize py inc f=yf at *
        have hw1:IntKind.i64.wrap (-n1) = -n1:=IntWalk.i64_in _ (by omega)
        have hw2:IntKind.i64.wrap (-n2) = -n2:=IntWalk.i64_in _ (by omega)
        have hfl':(f:Int)<(inc.length:Int):=by omega
        have kn0:=HOPw.out.os.ob.k0
        have kn1:=HOPw.out.os.ob.k1
        clear hci hi8 hi3 hwi hf HPF HFP HFN ho hso hfo HG1 HG2 HGL
        go_wp2_with fail
        refine (HSU.out _ HBW.out).mono ?_
        rintro e0 w5 ⟨rfl,hb5⟩
        replace HOPw:=hid (HOPw.out.keep hb5)
        replace HO:=hid (HO.out.below hb5)
        replace HBW:=hid (keepBelow hb5 HBW.out)
        replace hB:=keepBelow hb5 hB
        obtain ⟨hbi,f_0,f_1⟩:=HFC.out _ HBW.out
        clear hb5 HSU kn0 kn1
        obtain ⟨wp,hwp⟩:∃ w',w'=w5.alloc (.cells #[.int .i64 xf,.int .i64 yf] 27):=⟨_,rfl⟩
        obtain ⟨gC,hgC⟩:∃ g,g=w5.heap.size:=⟨_,rfl⟩
        have p_0:wp.cell? ⟨gC,0,none⟩=some (.int .i64 xf):=by rw [hwp,hgC];go_simp
        have p_1:wp.cell? ⟨gC,1,none⟩=some (.int .i64 yf):=by rw [hwp,hgC];go_simp
        have hba:Below w5.heap.size w5 wp:=by rw [hwp];go_grown
        replace HOPw:=hid (HOPw.out.keep hba)
        replace HO:=hid (HO.out.below hba)
        replace hB:=keepBelow hba hB
        have HDE:=hid (HDE0.out xf yf hxy wp HOPw.out.os.ob.oa.bel)
        have x1:=HOPw.out.os.ob.oa.x1
        clear hba
        generalize dptZ ref e xf yf=D at *
        generalize rdpZ ref e xf yf=Z at *
        go_upto_region 22 with fail
        rw [← hwp,← hgC]
        clear hwp hgC f_0 f_1 hbi
        go_wp2_with fail
        refine HDE.out.mono ?_
        rintro e0 w6 ⟨rfl,hb6⟩
        replace p_0:=keepCell hb6 p_0
        replace p_1:=keepCell hb6 p_1
        replace hB:=keepBelow hb6 hB
        replace HO:=hid (HO.out.below hb6)
        replace HOPw:=hid (HOPw.out.keep hb6)
        have m_0:=HOPw.out.os.ob.oa.m0
        have m_1:=HOPw.out.os.ob.oa.m1
        clear hb6 HDE x1
        have HBS:Hid (wL.heap.size≤w6.heap.size):=hB.size
        go_wp2_with (at_builtin;refine wpList_append_E tyPt rfl _ _ rfl wL.heap.size _ _ rfl (HO.out.alloc _) w6.heap.size 0 1 1 [((((xf,yf),(wx,wy)),(Z,ID)):Pt)] rfl rfl (cells_pt (by go_simp) (by go_simp) (by go_simp) (by go_simp) (by go_simp) (by go_simp)) (by simp) (by simp) (by have:=HBS.out;simp;omega) ?_;intro v' w7 ho1 hg1 hat;have HO7:=hid ho1;have HB7:=hid ((hB.alloc hB.size _).grown hg1 (by have:=HBS.out;simp;omega) (fun k hk=>(HO.out.lt hk).1));clear ho1 hg1 hat)
        obtain ⟨A9,n9,c9,rfl,hs9,hf9⟩:=HO7.out.sl
        refine bodyPost_ret (v:=.slice A9 n9 c9) (by simp [results,Tryz.results50,go_sem]) rfl ⟨A9,n9,c9,rfl,by rw [HPX.out];exact hs9,fun b off h=>Nat.le_trans hLs (hf9 b off h),HOPL.out.os.ob.oa.bel.trans (HB7.out.mono hLs)⟩
       ·have HFP := HFN.out
        rw [if_neg hG] at HFP
        have HR:Hid (RetPt P w (.returned (.slice Ao no co)) wo):=⟨Ao,no,co,rfl,by rw [HFP];exact hso,fun b off h=>Nat.le_trans hLs (hfo b off h),HBW.out⟩
        subst hno
        have hne:((G2.length:Int) == 0)=false:=by simp [hG]
        clear ho hso hfo HFP HFN HG1 HG2 HGL HOPw HO hB
        go_wp2
        refine bodyPost_ret (v:=.slice Ao G2.length co) (by simp [results,Tryz.results50,go_sem]) rfl HR.out
end
end Go.Proofs.YtiaoandbdgdecaaGreat
