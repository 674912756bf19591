/- Parts of a proof: contracts and laws. -/
import Derived.Test.YtodpincpofoiiaaGreatQM26
import Derived.Test.YtodpincpofoiiaaGreatQM09
import Derived.Test.YtodpincpofoiiaaGreatQM03
set_option maxRecDepth 100000
set_option maxHeartbeats 16000000
namespace Go.Proofs.YtodpincpofoiiaaGreat
section
set_option linter.unusedVariables false
set_option linter.unusedSimpArgs false
open Go.RowKit

abbrev Pt:=(V × V) × (Int × Int)
def layPt:Lay Pt:=⟨fun p=>[.int .i64 p.1.1.1,.int .i64 p.1.1.2,.int .i64 p.1.2.1,.int .i64 p.1.2.2,.int .i64 p.2.1,.int .i64 p.2.2],6,fun _=>rfl,fun x v hv=>by simp at hv;rcases hv with rfl | rfl | rfl | rfl | rfl | rfl <;> rfl,by omega⟩
theorem info_pt:(Tryz.prog.info? 114).map (fun i=>(i.zero,i.size,i.bytes))=some (some (.agg #[.int .i64 0,.int .i64 0,.int .i64 0,.int .i64 0,.int .i64 0,.int .i64 0]),6,48):=by kernel_rfl
theorem tyPt:TyE layPt 77 114 48:=⟨Tryz.underlying77,by obtain ⟨i0,hi,hz0,hz1,hz2⟩:=info_parts info_pt;exact ⟨i0,.agg #[.int .i64 0,.int .i64 0,.int .i64 0,.int .i64 0,.int .i64 0,.int .i64 0],hi,hz0,hz1,hz2,rfl⟩⟩
theorem cells_pt {w:World} {b:Nat} {p:Pt} (h0:w.cell? ⟨b,0,none⟩=some (.int .i64 p.1.1.1)) (h1:w.cell? ⟨b,1,none⟩=some (.int .i64 p.1.1.2)) (h2:w.cell? ⟨b,2,none⟩=some (.int .i64 p.1.2.1)) (h3:w.cell? ⟨b,3,none⟩=some (.int .i64 p.1.2.2)) (h4:w.cell? ⟨b,4,none⟩=some (.int .i64 p.2.1)) (h5:w.cell? ⟨b,5,none⟩=some (.int .i64 p.2.2)):CellsE layPt w b 0 [p] :=
 ⟨lt_of_cell h0,fun j hj m v hv=>by
  obtain rfl:j=0:=by simpa using hj
  match m,hv with
  | 0,hv=>have e:some (Value.int .i64 p.1.1.1)=some v:=hv;cases e;simpa [layPt] using h0
  | 1,hv=>have e:some (Value.int .i64 p.1.1.2)=some v:=hv;cases e;simpa [layPt] using h1
  | 2,hv=>have e:some (Value.int .i64 p.1.2.1)=some v:=hv;cases e;simpa [layPt] using h2
  | 3,hv=>have e:some (Value.int .i64 p.1.2.2)=some v:=hv;cases e;simpa [layPt] using h3
  | 4,hv=>have e:some (Value.int .i64 p.2.1)=some v:=hv;cases e;simpa [layPt] using h4
  | 5,hv=>have e:some (Value.int .i64 p.2.2)=some v:=hv;cases e;simpa [layPt] using h5
  | m+6,hv=>simp [layPt] at hv⟩
theorem run_eqV' (x y u v:Int) (w:World):(Op.equalIn 10000 24 (.agg #[.int .i64 x,.int .i64 y]) (.agg #[.int .i64 u,.int .i64 v])).run Tryz.prog w = .ok (x == u && y == v) w:=by
 have hS:Tryz.prog.underlying 24=some (.struct (Tryz.prog.fieldsOf 24)):=by kernel_rfl
 have hp:Tryz.prog.stoodInHeld 24=false:=by kernel_rfl
 rw [show (10000:Nat)=9999+1 from rfl,run_equalIn_agg w 9999 24 _ _ hS hp]
 simp only [Program.fieldsOf,Tryz.underlying24]
 go_simp
 by_cases h1:x=u <;> by_cases h2:y=v <;> simp [h1,h2]

def cnP (l:List V) (i:Nat):V:=(px l i,py l i)
def nxP (l:List V) (i:Nat):V:=(px l ((i+1) % l.length),py l ((i+1) % l.length))

def segZ (ref inc:List V) (e:Nat):(V × V) × Bool :=
 if (clpZ (cnP inc (facZ inc (nrmX ref e) (nrmY ref e))) (nxP inc (facZ inc (nrmX ref e) (nrmY ref e))) (cnP ref e) ((nxP ref e).1-(cnP ref e).1,(nxP ref e).2-(cnP ref e).2)).2=true
 then clpZ (clpZ (cnP inc (facZ inc (nrmX ref e) (nrmY ref e))) (nxP inc (facZ inc (nrmX ref e) (nrmY ref e))) (cnP ref e) ((nxP ref e).1 - (cnP ref e).1, (nxP ref e).2 - (cnP ref e).2)).1.1
   (clpZ (cnP inc (facZ inc (nrmX ref e) (nrmY ref e))) (nxP inc (facZ inc (nrmX ref e) (nrmY ref e))) (cnP ref e) ((nxP ref e).1-(cnP ref e).1,(nxP ref e).2-(cnP ref e).2)).1.2 (nxP ref e) ((cnP ref e).1-(nxP ref e).1,(cnP ref e).2-(nxP ref e).2)
 else clpZ (cnP inc (facZ inc (nrmX ref e) (nrmY ref e))) (nxP inc (facZ inc (nrmX ref e) (nrmY ref e))) (cnP ref e) ((nxP ref e).1-(cnP ref e).1,(nxP ref e).2-(cnP ref e).2)
def ptA (ref:List V) (e:Nat) (way p:V) (id:Int):Pt:=((p,way),(rdpZ ref e p.1 p.2,id))

def ptsG (ref : List V) (e : Nat) (way : V) (id : Int) (g : (V × V) × Bool) : Nat → List Pt
 | 0=>[]
 | 1=>if g.2=true∧0≤dptZ ref e g.1.1.1 g.1.1.2 then [ptA ref e way g.1.1 id] else []
 | _=>(if g.2=true∧0≤dptZ ref e g.1.1.1 g.1.1.2 then [ptA ref e way g.1.1 id] else []) ++ (if g.2=true∧0≤dptZ ref e g.1.2.1 g.1.2.2∧g.1.2≠g.1.1 then [ptA ref e way g.1.2 (id+1)] else [])

def ptsR (ref inc:List V) (e:Nat) (way:V) (id0:Int):List Pt :=
 if ptsG ref e way ((id0*8+facZ inc (nrmX ref e) (nrmY ref e))*2) (segZ ref inc e) 2=[] then [ptA ref e way (cnP inc (fcTo inc (nrmX ref e) (nrmY ref e) inc.length)) ((id0*8+facZ inc (nrmX ref e) (nrmY ref e))*2)]
 else ptsG ref e way ((id0*8+facZ inc (nrmX ref e) (nrmY ref e))*2) (segZ ref inc e) 2

def ptsZ (l m:List V):List Pt:=match leastO l m with
 | none=>[]
 | some (s,e,_)=>if s=true then ptsR m l e (tstX l m,tstY l m) (8+e) else ptsR l m e (tstX l m,tstY l m) e
def RetPt (l:List Pt) (w:World) (e:Ending) (w':World):Prop:=∃ A n c,e = .returned (.slice A n c)∧SlE layPt w' A n c l∧(∀ b off,A=some ⟨b,off,none⟩→w.heap.size≤b)∧Below w.heap.size w w'

structure OA (w0 : World) (gX gW : Nat) (s : Bool) (e : Nat) (wx wy : Int) (w : World) : Prop where
 x0:w.cell? ⟨gX,0,none⟩=some (.bool s)
 x1:w.cell? ⟨gX,1,none⟩=some (.int .i64 e)
 m0:w.cell? ⟨gW,0,none⟩=some (.int .i64 wx)
 m1:w.cell? ⟨gW,1,none⟩=some (.int .i64 wy)
 bel:Below w0.heap.size w0 w
theorem OA.keep {w0:World} {gX gW:Nat} {s:Bool} {e:Nat} {wx wy:Int} {w w':World} (hb:Below w.heap.size w w') (h:OA w0 gX gW s e wx wy w):OA w0 gX gW s e wx wy w' :=
 ⟨keepCell hb h.x0,keepCell hb h.x1,keepCell hb h.m0,keepCell hb h.m1,keepBelow hb h.bel⟩
theorem OA.drew {w0:World} {gX gW:Nat} {s:Bool} {e:Nat} {wx wy:Int} {w:World} (h:OA w0 gX gW s e wx wy w):OA w0 gX gW s e wx wy w.drew:=h.keep (Below.refl _ _).drew
structure OB (w0 : World) (gX gW gN : Nat) (s : Bool) (e : Nat) (wx wy n1 n2 : Int) (w : World) : Prop where
 oa:OA w0 gX gW s e wx wy w
 k0:w.cell? ⟨gN,0,none⟩=some (.int .i64 n1)
 k1:w.cell? ⟨gN,1,none⟩=some (.int .i64 n2)
theorem OB.keep {w0:World} {gX gW gN:Nat} {s:Bool} {e:Nat} {wx wy n1 n2:Int} {w w':World} (hb:Below w.heap.size w w') (h:OB w0 gX gW gN s e wx wy n1 n2 w):OB w0 gX gW gN s e wx wy n1 n2 w':=⟨h.oa.keep hb,keepCell hb h.k0,keepCell hb h.k1⟩
theorem OB.drew {w0:World} {gX gW gN:Nat} {s:Bool} {e:Nat} {wx wy n1 n2:Int} {w:World} (h:OB w0 gX gW gN s e wx wy n1 n2 w):OB w0 gX gW gN s e wx wy n1 n2 w.drew:=h.keep (Below.refl _ _).drew
theorem OA.off2 {w0:World} {gX gW:Nat} {s:Bool} {e:Nat} {wx wy:Int} {w:World} (h:OA w0 gX gW s e wx wy w) {k:Nat} (h1:k≠gX) (h2:k≠gW) (h3:w0.heap.size≤k) (x y:Int):OA w0 gX gW s e wx wy (put2 w k x y) :=
 ⟨far2 h1 h.x0,far2 h1 h.x1,far2 h2 h.m0,far2 h2 h.m1,below_two h.bel h3 x y⟩
theorem OB.off2 {w0:World} {gX gW gN:Nat} {s:Bool} {e:Nat} {wx wy n1 n2:Int} {w:World} (h:OB w0 gX gW gN s e wx wy n1 n2 w) {k:Nat} (h1:k≠gX) (h2:k≠gW) (h4:k≠gN) (h3:w0.heap.size≤k) (x y:Int):OB w0 gX gW gN s e wx wy n1 n2 (put2 w k x y) :=
 ⟨h.oa.off2 h1 h2 h3 x y,far2 h4 h.k0,far2 h4 h.k1⟩
structure OS (w0 : World) (gX gW gN gR gS : Nat) (s : Bool) (e : Nat) (wx wy n1 n2 r1 r2 s1 s2 : Int) (w : World) : Prop where
 ob:OB w0 gX gW gN s e wx wy n1 n2 w
 a0:w.cell? ⟨gR,0,none⟩=some (.int .i64 r1)
 a1:w.cell? ⟨gR,1,none⟩=some (.int .i64 r2)
 b0:w.cell? ⟨gS,0,none⟩=some (.int .i64 s1)
 b1:w.cell? ⟨gS,1,none⟩=some (.int .i64 s2)
theorem OS.keep {w0:World} {gX gW gN gR gS:Nat} {s:Bool} {e:Nat} {wx wy n1 n2 r1 r2 s1 s2:Int} {w w':World} (hb:Below w.heap.size w w') (h:OS w0 gX gW gN gR gS s e wx wy n1 n2 r1 r2 s1 s2 w):OS w0 gX gW gN gR gS s e wx wy n1 n2 r1 r2 s1 s2 w' :=
 ⟨h.ob.keep hb,keepCell hb h.a0,keepCell hb h.a1,keepCell hb h.b0,keepCell hb h.b1⟩
theorem OS.drew {w0:World} {gX gW gN gR gS:Nat} {s:Bool} {e:Nat} {wx wy n1 n2 r1 r2 s1 s2:Int} {w:World} (h:OS w0 gX gW gN gR gS s e wx wy n1 n2 r1 r2 s1 s2 w):OS w0 gX gW gN gR gS s e wx wy n1 n2 r1 r2 s1 s2 w.drew:=h.keep (Below.refl _ _).drew
theorem OS.off2 {w0:World} {gX gW gN gR gS:Nat} {s:Bool} {e:Nat} {wx wy n1 n2 r1 r2 s1 s2:Int} {w:World} (h:OS w0 gX gW gN gR gS s e wx wy n1 n2 r1 r2 s1 s2 w) {k:Nat} (hk:k≠gX∧k≠gW∧k≠gN∧k≠gR∧k≠gS) (h3:w0.heap.size≤k) (x y:Int):OS w0 gX gW gN gR gS s e wx wy n1 n2 r1 r2 s1 s2 (put2 w k x y) :=
 ⟨h.ob.off2 hk.1 hk.2.1 hk.2.2.1 h3 x y,far2 hk.2.2.2.1 h.a0,far2 hk.2.2.2.1 h.a1,far2 hk.2.2.2.2 h.b0,far2 hk.2.2.2.2 h.b1⟩
theorem OS.lts {w0:World} {gX gW gN gR gS:Nat} {s:Bool} {e:Nat} {wx wy n1 n2 r1 r2 s1 s2:Int} {w:World} (h:OS w0 gX gW gN gR gS s e wx wy n1 n2 r1 r2 s1 s2 w):gX<w.heap.size∧gW<w.heap.size∧gN<w.heap.size∧gR<w.heap.size∧gS<w.heap.size∧w0.heap.size≤w.heap.size :=
 ⟨lt_of_cell h.ob.oa.x0,lt_of_cell h.ob.oa.m0,lt_of_cell h.ob.k0,lt_of_cell h.a0,lt_of_cell h.b0,h.ob.oa.bel.size⟩

structure OP (w0 : World) (gX gW gN gR gS : Nat) (s : Bool) (e : Nat) (wx wy n1 n2 r1 r2 s1 s2 : Int) (gP gQ : Nat) (p q : V) (w : World) : Prop where
 os:OS w0 gX gW gN gR gS s e wx wy n1 n2 r1 r2 s1 s2 w
 vp:Vm w gP p.1 p.2
 vq:Vm w gQ q.1 q.2
 ne:gP≠gQ
 ap:gP≠gX∧gP≠gW∧gP≠gN∧gP≠gR∧gP≠gS
 aq:gQ≠gX∧gQ≠gW∧gQ≠gN∧gQ≠gR∧gQ≠gS
 lp:w0.heap.size≤gP
 lq:w0.heap.size≤gQ
section
variable {w0:World} {gX gW gN gR gS:Nat} {s:Bool} {e:Nat} {wx wy n1 n2 r1 r2 s1 s2:Int} {gP gQ:Nat} {p q:V} {w w':World}
theorem OP.keep (hb:Below w.heap.size w w') (h:OP w0 gX gW gN gR gS s e wx wy n1 n2 r1 r2 s1 s2 gP gQ p q w):OP w0 gX gW gN gR gS s e wx wy n1 n2 r1 r2 s1 s2 gP gQ p q w' :=
 ⟨h.os.keep hb,keepVm hb h.vp,keepVm hb h.vq,h.ne,h.ap,h.aq,h.lp,h.lq⟩
theorem OP.setP (h:OP w0 gX gW gN gR gS s e wx wy n1 n2 r1 r2 s1 s2 gP gQ p q w) (x y:Int):OP w0 gX gW gN gR gS s e wx wy n1 n2 r1 r2 s1 s2 gP gQ (x,y) q (put2 w gP x y) :=
 ⟨h.os.off2 h.ap h.lp _ _,h.vp.set _ _,h.vq.off2 h.ne _ _,h.ne,h.ap,h.aq,h.lp,h.lq⟩
theorem OP.setQ (h:OP w0 gX gW gN gR gS s e wx wy n1 n2 r1 r2 s1 s2 gP gQ p q w) (x y:Int):OP w0 gX gW gN gR gS s e wx wy n1 n2 r1 r2 s1 s2 gP gQ p (x,y) (put2 w gQ x y) :=
 ⟨h.os.off2 h.aq h.lq _ _,h.vp.off2 (fun e=>h.ne e.symm) _ _,h.vq.set _ _,h.ne,h.ap,h.aq,h.lp,h.lq⟩
theorem OP.cells (h:OP w0 gX gW gN gR gS s e wx wy n1 n2 r1 r2 s1 s2 gP gQ p q w):w.cell? ⟨gR,0,none⟩=some (.int .i64 r1)∧w.cell? ⟨gR,1,none⟩=some (.int .i64 r2)∧w.cell? ⟨gS,0,none⟩=some (.int .i64 s1)∧w.cell? ⟨gS,1,none⟩=some (.int .i64 s2)∧w.cell? ⟨gP,0,none⟩=some (.int .i64 p.1)∧w.cell? ⟨gP,1,none⟩=some (.int .i64 p.2)∧w.cell? ⟨gQ,0,none⟩=some (.int .i64 q.1)∧w.cell? ⟨gQ,1,none⟩=some (.int .i64 q.2) :=
 ⟨h.os.a0,h.os.a1,h.os.b0,h.os.b1,h.vp.a,h.vp.b,h.vq.a,h.vq.b⟩
end
theorem cof_calls (A B:Option Addr) (n c n' c':Nat) (l m:List V) (w:World) (hS:Sl w A n c l) (hM:Sl w B n' c' m) :
    Calls Tryz.prog 41 #[.slice A n c,.slice B n' c'] w (RetPt (ptsZ l m) w):=by
  have HS:=hid hS
  have HMM:=hid hM
  have hn:=hS.len
  have hn':=hM.len
  subst hn hn'
  clear hS hM
  have HLE:=hid (least_calls A B _ c _ c' l m w HS.out HMM.out)
  have HTE:Hid (∀ w',Below w.heap.size w w'→Calls Tryz.prog 37 #[.slice A l.length c,.slice B m.length c'] w' (Ret (.tuple #[.bool (meetsB l m),.int .i64 (tstD l m),vecV (tstX l m) (tstY l m)]) w')):=fun w' h=>test_calls A B _ c _ c' l m w' (HS.out.below h) (HMM.out.below h)
  by_cases hmt:meetsB l m=true
  case neg =>
    have hf : meetsB l m = false := by cases h : meetsB l m; · rfl
                                       · exact absurd h hmt
    have hln:leastO l m=none:=by unfold leastO;rw [if_neg hmt]
    have HP:Hid (ptsZ l m=[]):=by show _=_;unfold ptsZ;rw [hln]
    rw [hln,hf] at HLE
    clear HTE hf hln hmt
    generalize bothE l m=E at *
    generalize ptsZ l m=P at *
    by_cases hE:E=0
    · subst hE
      go_enter Tryz.func41,Tryz.ntmps41
      go_wp2_with fail
      refine HLE.out.mono ?_
      rintro e w1 ⟨rfl,hb1⟩
      simp only [axV,axS,axE,axD]
      clear HLE
      go_wp2
      refine bodyPost_ret (v:=.slice none 0 0) (by simp [results,Tryz.results41,go_sem]) rfl ⟨none,0,0,rfl,by rw [HP.out];exact SlE.nil _ _,by simp,hb1.alloc hb1.size _⟩
    · have hne : (E != 0) = true := by simp [hE]
      go_enter Tryz.func41,Tryz.ntmps41
      go_wp2_with fail
      refine HLE.out.mono ?_
      rintro e w1 ⟨rfl,hb1⟩
      simp only [axV,axS,axE,axD]
      clear HLE
      go_wp2
      refine bodyPost_ret (v:=.slice none 0 0) (by simp [results,Tryz.results41,go_sem]) rfl ⟨none,0,0,rfl,by rw [HP.out];exact SlE.nil _ _,by simp,hb1.alloc hb1.size _⟩
  have hE:bothE l m=0:=by unfold meetsB at hmt;exact (of_decide_eq_true hmt).1
  obtain ⟨s,e,d,hso,k1,k2⟩:=least_some hmt
  obtain ⟨hcl,hcm⟩:=bothE_zero.1 hE
  obtain ⟨l8,l3,wl,-⟩:=checkE_zero hcl
  obtain ⟨m8,m3,wm,-⟩:=checkE_zero hcm
  have HP:Hid (ptsZ l m=if s=true then ptsR m l e (tstX l m,tstY l m) (8+e) else ptsR l m e (tstX l m,tstY l m) e):=by show _=_;unfold ptsZ;rw [hso]
  rw [hso,hmt,hE] at HLE
  rw [hmt] at HTE
  clear hmt hso hE
  generalize tstX l m=wx at *
  generalize tstY l m=wy at *
  generalize tstD l m=td at *
  generalize ptsZ l m=P at *
  -- the reference polygon and the other one
  obtain ⟨ref, inc, Ar, Ai, cr, ci, id0, HID, HRS⟩ : ∃ (ref inc : List V) (Ar Ai : Option Addr) (cr ci : Nat) (id0 : Int), Hid ((s = true → Ar = B ∧ Ai = A ∧ cr = c' ∧ ci = c ∧ ref = m ∧ inc = l ∧ id0 = 8 + (e : Int)) ∧ (s = false → Ar = A ∧ Ai = B ∧ cr = c ∧ ci = c' ∧ ref = l ∧ inc = m ∧ id0 = (e : Int))) ∧
      Hid (P=ptsR ref inc e (wx,wy) id0∧Sl w Ar ref.length cr ref∧Sl w Ai inc.length ci inc∧(checkE ref=0∧ref.length≤8∧3≤ref.length∧allWithin 65536000 ref=true∧e<ref.length)∧(checkE inc=0∧inc.length≤8∧3≤inc.length∧allWithin 65536000 inc=true)∧(0≤id0∧id0≤16)):=by
    cases s with
    | true=>exact ⟨m,l,B,A,c',c,8+(e:Int),⟨fun _=>⟨rfl,rfl,rfl,rfl,rfl,rfl,rfl⟩,(fun h=>by cases h)⟩,⟨by rw [HP.out,if_pos rfl],HMM.out,HS.out,⟨hcm,m8,m3,wm,k1 rfl⟩,⟨hcl,l8,l3,wl⟩,by have:=k1 rfl;omega⟩⟩
    | false=>exact ⟨l,m,A,B,c,c',(e:Int),⟨(fun h=>by cases h),fun _=>⟨rfl,rfl,rfl,rfl,rfl,rfl,rfl⟩⟩,⟨by rw [HP.out,if_neg (by simp)],HS.out,HMM.out,⟨hcl,l8,l3,wl,k2 rfl⟩,⟨hcm,m8,m3,wm⟩,by have:=k2 rfl;omega⟩⟩
  have he8:e<8:=by
    have:=HRS.out.2.2.2.1
    omega
  clear HP k1 k2 hcl hcm l8 l3 wl m8 m3 wm
  go_enter Tryz.func41,Tryz.ntmps41
  go_wp2_with fail
  refine HLE.out.mono ?_
  rintro e0 w1 ⟨rfl,hb1⟩
  simp only [axV,axS,axE,axD]
  clear HLE
  obtain ⟨wX,hwX⟩:∃ W,W=w1.alloc (.cells #[.bool s,.int .i64 e,.int .i64 d] 134):=⟨_,rfl⟩
  obtain ⟨gX,hgX⟩:∃ g,g=w1.heap.size:=⟨_,rfl⟩
  have x0:wX.cell? ⟨gX,0,none⟩=some (.bool s):=by rw [hwX,hgX];go_simp
  have x1:wX.cell? ⟨gX,1,none⟩=some (.int .i64 e):=by rw [hwX,hgX];go_simp
  have hBX:Below w.heap.size w wX:=by rw [hwX];exact hb1.alloc hb1.size _
  go_wp2_with fail
  rw [← hwX,← hgX]
  refine (HTE.out wX hBX).mono ?_
  rintro e0 w2 ⟨rfl,hb2⟩
  clear HTE hwX hgX hb1
  obtain ⟨wN,hwN⟩:∃ W,W=w2.alloc (.cells #[.int .i64 wx,.int .i64 wy] 24):=⟨_,rfl⟩
  obtain ⟨gW,hgW⟩:∃ g,g=w2.heap.size:=⟨_,rfl⟩
  have hba:Below w2.heap.size w2 wN:=by rw [hwN];go_grown
  have hOA:OA w gX gW s e wx wy wN:=⟨keepCell hba (keepCell hb2 x0),keepCell hba (keepCell hb2 x1),by rw [hwN,hgW];go_simp,by rw [hwN,hgW];go_simp,keepBelow hba (keepBelow hb2 hBX)⟩
  clear hba hb2 x0 x1 hBX
  go_upto_region 5 with fail
  rw [← hwN,← hgW]
  clear hwN hgW
  refine wp_region_noPanic ?_
  refine wp_region_U (S:=(S2 (fun w'=>OA w gX gW s e wx wy w'))) (T:=(fun _=>0)) (by kernel_rfl) (S2i0 hOA.drew) (fun hH=>?_)
  have hWr4:Weaker (S2 (fun w'=>OA w gX gW s e wx wy w')):=weaker2 _
  refine Utn [(0,50),(1,51),(2,52),(3,53),(4,11),(5,12),(6,13)] 0 0 0 (L':=?Lr4_1) hWr4 hH ?yr4_1 ?_
  case yr4_1=>((iterate 7 apply tkC;rfl;kernel_rfl;intro w' hSw;replace hSw:=S2o0 hSw;(try dsimp only at hSw);have q0:=hSw;obtain ⟨qa0_0,qa0_1,qa0_2,qa0_3,-⟩:=q0;(try simp only [sB,sC]);go_simp;(try with_reducible rfl));exact tkN)
  simp only [sB,sC]
  refine wpAnyU_done (by kernel_rfl) ?_ _ _
  refine NoPanic.normal ?_
  clear hWr4
  replace hH:=S2o0 hH
  (try dsimp only at hH)
  have k0:=hH
  clear hH
  clear hOA
  have hOA:=k0
  clear k0
  obtain ⟨x0,x1,-,-,-⟩:=id hOA
  go_upto_if 55 with fail
  have HOA:=hid hOA
  clear hOA
  go_cut [11,12,13] from 55 to 60 (fun t u v wx_=>t = .slice Ar ref.length cr∧u = .slice Ai inc.length ci∧v = .int .i64 id0∧OA w gX gW s e wx wy wx_)
  case first =>
    cases s with
    | true =>
      obtain ⟨rfl,rfl,rfl,rfl,rfl,rfl,rfl⟩:=HID.out.1 rfl
      have hOA:=HOA.out
      have hwe:IntKind.i64.wrap (8+(e:Int))=8+(e:Int):=IntWalk.i64_in _ (by omega)
      clear HOA HID HRS
      go_upto_region 7 with fail
      refine wp_region_noPanic ?_
      refine wp_region_U (S:=(S2 (fun w'=>OA w gX gW true e wx wy w'))) (T:=(fun _=>0)) (by kernel_rfl) (S2i0 hOA.drew) (fun hH=>?_)
      have hWr5:Weaker (S2 (fun w'=>OA w gX gW true e wx wy w')):=weaker2 _
      refine Utn [(0,56),(1,57),(2,58),(3,59),(4,60),(5,11),(6,12),(7,13)] 0 0 0 (L':=?Lr5_1) hWr5 hH ?yr5_1 ?_
      case yr5_1=>((iterate 8 apply tkC;rfl;kernel_rfl;intro w' hSw;replace hSw:=S2o0 hSw;(try dsimp only at hSw);have q0:=hSw;obtain ⟨qa0_0,qa0_1,qa0_2,qa0_3,-⟩:=q0;(try simp only [sB,sC]);go_simp;(try with_reducible rfl));exact tkN)
      simp only [sB,sC]
      refine wpAnyU_done (by kernel_rfl) ?_ _ _
      refine NoPanic.normal ?_
      clear hWr5
      replace hH:=S2o0 hH
      (try dsimp only at hH)
      have k0:=hH
      clear hH
      go_wp2_with fail
      go_meet
      exact ⟨rfl,rfl,rfl,k0⟩
    | false =>
      obtain ⟨rfl,rfl,rfl,rfl,rfl,rfl,rfl⟩:=HID.out.2 rfl
      clear HID HRS
      go_wp2_with fail
      go_meet
      exact ⟨rfl,rfl,rfl,HOA.out⟩
  case rest =>
    obtain ⟨rfl,rfl,rfl,hOA⟩:=hcut
    clear HOA HID x0 x1
    obtain ⟨wo,rfl⟩:∃ wo:World,wo=wc:=⟨_,rfl⟩
    obtain ⟨hPR,hsr,hsi,⟨hcr,hr8,hr3,hwr,her⟩,⟨hci,hi8,hi3,hwi⟩,hid0⟩:=HRS.out
    have HNO:=hid (fun w' (h:Below w.heap.size w w')=>normal_calls Ar _ cr ref e w' (hsr.below h) hwr hr3 hr8 her)
    have hnb:=nrm_bd hwr her
    -- names of numbers
    obtain ⟨n1,hn1⟩:∃ z,z=nrmX ref e:=⟨_,rfl⟩
    obtain ⟨n2,hn2⟩:∃ z,z=nrmY ref e:=⟨_,rfl⟩
    have hlt':(e:Int)<(ref.length:Int):=by omega
    obtain ⟨j,hje⟩:∃ j,j=(e+1) % ref.length:=⟨_,rfl⟩
    have hj:j<ref.length:=by rw [hje];exact Nat.mod_lt _ (by omega)
    have hjl:(j:Int)<(ref.length:Int):=by omega
    have htm:((e:Int)+1).tmod (ref.length:Int)=(j:Int):=by
      rw [Int.tmod_eq_emod_of_nonneg (by omega),hje]
      have:(e:Int)+1=((e+1:Nat):Int):=by omega
      rw [this]
      first | exact (Int.natCast_emod _ _).symm | exact (Int.ofNat_emod _ _).symm | simp
    have hwk:IntKind.i64.wrap ((e:Int)+1)=(e:Int)+1:=IntWalk.i64_in _ (by omega)
    have hl0:¬ ref=[]:=by intro h;rw [h] at her;simp at her
    obtain ⟨r1,hr1⟩:∃ z,z=px ref e:=⟨_,rfl⟩
    obtain ⟨r2,hr2⟩:∃ z,z=py ref e:=⟨_,rfl⟩
    obtain ⟨s1,hs1⟩:∃ z,z=px ref j:=⟨_,rfl⟩
    obtain ⟨s2,hs2⟩:∃ z,z=py ref j:=⟨_,rfl⟩
    have hrw:withinB 65536000 r1 r2=true:=by rw [hr1,hr2];exact allWithin_at hwr her
    have hsw:withinB 65536000 s1 s2=true:=by rw [hs1,hs2];exact allWithin_at hwr hj
    have HSG:Hid (∀ k c,k=facZ inc n1 n2→c=clpZ (cnP inc k) (nxP inc k) (r1,r2) (s1-r1,s2-r2)→segZ ref inc e=if c.2=true then clpZ c.1.1 c.1.2 (s1,s2) (r1-s1,r2-s2) else c):=fun k c h1 h2=>by
      rw [h2,h1,hn1,hn2,hr1,hr2,hs1,hs2,hje];rfl
    have HPR:Hid (∀ k g,k=facZ inc n1 n2→g=segZ ref inc e→P=if ptsG ref e (wx,wy) ((id0*8+k)*2) g 2=[] then [ptA ref e (wx,wy) (cnP inc (fcTo inc n1 n2 inc.length)) ((id0*8+k)*2)] else ptsG ref e (wx,wy) ((id0*8+k)*2) g 2):=fun k g h1 h2=>by
      rw [h2,h1,hPR,hn1,hn2];rfl
    have HDP:Hid (∀ p q,(r1-p)*n1+(r2-q)*n2=dptZ ref e p q∧overQ ((r1-p)*n1+(r2-q)*n2) (lenZ n1 n2)=rdpZ ref e p q):=fun p q=>by
      have e1:(r1-p)*n1+(r2-q)*n2=dptZ ref e p q:=by rw [hr1,hr2,hn1,hn2];unfold dptZ;rw [Int.mul_comm,Int.mul_comm (py ref e-q)]
      refine ⟨e1,?_⟩
      rw [e1,hn1,hn2];rfl
    rw [← hn1,← hn2] at HNO hnb
    obtain ⟨b,off,hAr,hCr⟩:=hsr.at_ hl0
    subst hAr
    have HCr:=hid hCr
    have HSI:=hid hsi
    have HII:=hid (And.intro hci (And.intro hi8 (And.intro hi3 hwi)))
    have hrc:Hid (∀ w',Below w.heap.size w w'→b<w'.heap.size∧w'.cell? ⟨b,off+e*2,none⟩=some (.int .i64 r1)∧w'.cell? ⟨b,off+e*2+1,none⟩=some (.int .i64 r2)∧w'.cell? ⟨b,off+j*2,none⟩=some (.int .i64 s1)∧w'.cell? ⟨b,off+j*2+1,none⟩=some (.int .i64 s2)):=fun w' h=>by
      have hC:=HCr.out.below h
      rw [hr1,hr2,hs1,hs2]
      exact ⟨hC.lt,hC.x e her,hC.y e her,hC.x j hj,hC.y j hj⟩
    clear hPR hsr hsi hcr hwr hci hi8 hi3 hwi HRS hn1 hn2 hr1 hr2 hs1 hs2 hje hCr HCr
    obtain ⟨x0,x1,-,-,-⟩:=id hOA
    go_wp2_with fail
    refine (HNO.out _ hOA.bel).mono ?_
    rintro e0 w3 ⟨rfl,hb3⟩
    replace hOA:=hOA.keep hb3
    clear hb3 x0 x1 HNO
    obtain ⟨wM,hwM⟩:∃ W,W=w3.alloc (.cells #[.int .i64 n1,.int .i64 n2] 24):=⟨_,rfl⟩
    obtain ⟨gN,hgN⟩:∃ g,g=w3.heap.size:=⟨_,rfl⟩
    have hba:Below w3.heap.size w3 wM:=by rw [hwM];go_grown
    have hOB:OB w gX gW gN s e wx wy n1 n2 wM:=⟨hOA.keep hba,by rw [hwM,hgN];go_simp,by rw [hwM,hgN];go_simp⟩
    clear hba hOA
    go_upto_region 9 with fail
    rw [← hwM,← hgN]
    clear hwM hgN
    obtain ⟨wo,rfl⟩:∃ wo:World,wo=wM:=⟨_,rfl⟩
    obtain ⟨hbl,ri0,ri1,rj0,rj1⟩:=hrc.out _ hOB.oa.bel
    go_cut [15,16] from 65 to 78 (fun t u wx_=>∃ gR gS,t = .pointer (some ⟨gR,0,none⟩)∧u = .pointer (some ⟨gS,0,none⟩)∧OB w gX gW gN s e wx wy n1 n2 wx_∧wx_.cell? ⟨gR,0,none⟩=some (.int .i64 r1)∧wx_.cell? ⟨gR,1,none⟩=some (.int .i64 r2)∧wx_.cell? ⟨gS,0,none⟩=some (.int .i64 s1)∧wx_.cell? ⟨gS,1,none⟩=some (.int .i64 s2))
    case first =>
      clear HSG HPR HDP HSI HII hrc HS HMM hnb hrw hsw hid0
      (have KKr1:Hid (∀ w1 w2:World,Below w1.heap.size w1 w2→(OB w gX gW gN s e wx wy n1 n2 w1∧w1.cell? ⟨b,off+e*2,none⟩=some (.int .i64 (r1))∧w1.cell? ⟨b,off+e*2+1,none⟩=some (.int .i64 (r2))∧w1.cell? ⟨b,off+j*2,none⟩=some (.int .i64 (s1))∧w1.cell? ⟨b,off+j*2+1,none⟩=some (.int .i64 (s2)))→OB w gX gW gN s e wx wy n1 n2 w2∧w2.cell? ⟨b,off+e*2,none⟩=some (.int .i64 (r1))∧w2.cell? ⟨b,off+e*2+1,none⟩=some (.int .i64 (r2))∧w2.cell? ⟨b,off+j*2,none⟩=some (.int .i64 (s1))∧w2.cell? ⟨b,off+j*2+1,none⟩=some (.int .i64 (s2))):=fun w1 w2 hb h=>⟨OB.keep hb (h.1),keepCell hb (h.2.1),keepCell hb (h.2.2.1),keepCell hb (h.2.2.2.1),keepCell hb (h.2.2.2.2)⟩);(refine (fun (hNr1:Hid (?Tr1:Prop))=>?mainr1) (hid ?prfr1))
      case mainr1 =>
        (refine wp_region_noPanic ?_);(refine wp_region_U (S:=(S3 (fun w'=>OB w gX gW gN s e wx wy n1 n2 w'∧w'.cell? ⟨b,off+e*2,none⟩=some (.int .i64 (r1))∧w'.cell? ⟨b,off+e*2+1,none⟩=some (.int .i64 (r2))∧w'.cell? ⟨b,off+j*2,none⟩=some (.int .i64 (s1))∧w'.cell? ⟨b,off+j*2+1,none⟩=some (.int .i64 (s2))) (fun w'=>OB w gX gW gN s e wx wy n1 n2 w'∧w'.cell? ⟨b,off+j*2,none⟩=some (.int .i64 (s1))∧w'.cell? ⟨b,off+j*2+1,none⟩=some (.int .i64 (s2))))) (T:=(fun j=>[0,0,0,0,0,0,0,0,0,0,0,0,0,0,0,0,1,2].getD j 0)) (by kernel_rfl) (S3i0 ⟨hOB.drew,ri0,ri1,rj0,rj1⟩) (fun hH=>?_));(have hWr1:Weaker (S3 (fun w'=>OB w gX gW gN s e wx wy n1 n2 w'∧w'.cell? ⟨b,off+e*2,none⟩=some (.int .i64 (r1))∧w'.cell? ⟨b,off+e*2+1,none⟩=some (.int .i64 (r2))∧w'.cell? ⟨b,off+j*2,none⟩=some (.int .i64 (s1))∧w'.cell? ⟨b,off+j*2+1,none⟩=some (.int .i64 (s2))) (fun w'=>OB w gX gW gN s e wx wy n1 n2 w'∧w'.cell? ⟨b,off+j*2,none⟩=some (.int .i64 (s1))∧w'.cell? ⟨b,off+j*2+1,none⟩=some (.int .i64 (s2)))):=weaker3 (fun _ ⟨q0,q1,q2,q3,q4⟩=>⟨q0,q3,q4⟩));(refine Utn [(0,65),(1,66),(2,67),(3,68),(4,69)] 13 0 0 (L':=?Lr1_1) hWr1 hH ?yr1_1 ?_);(case yr1_1=>((iterate 5 apply tkC;rfl;kernel_rfl;intro w' hSw;replace hSw:=S3o0 hSw;(try dsimp only at hSw);have q0:=hSw.1;have q1:=hSw.2.1;have q2:=hSw.2.2.1;have q3:=hSw.2.2.2.1;have q4:=hSw.2.2.2.2;obtain ⟨⟨qa0_0,qa0_1,-,-,-⟩,qa0_2,qa0_3⟩:=q0;(try simp only [sB,sC]);go_simp;(try with_reducible rfl));exact tkN));(simp only [sB,sC]);(refine Utn [(5,70),(6,71),(7,72),(8,73),(9,74),(10,75),(11,76),(12,77),(13,78)] 4 1 0 (L':=?Lr1_6) hWr1 hH ?yr1_6 ?_);(case yr1_6=>((iterate 9 apply tkC;rfl;kernel_rfl;intro w' hSw;replace hSw:=S3o1 hSw;(try dsimp only at hSw);have q0:=hSw.1;have q3:=hSw.2.1;have q4:=hSw.2.2;obtain ⟨⟨qa0_0,qa0_1,-,-,-⟩,qa0_2,qa0_3⟩:=q0;(try simp only [sB,sC]);go_simp;(try with_reducible rfl));exact tkN));(simp only [sB,sC]);(refine Ur [14,15] ?_);(refine Uc 0 rfl (fun K hK=>?_) ?_)
        · (try clear hb);(have hG:=hH);(replace hG:=S3o0 hG;(try dsimp only at hG);have q0:=hG.1;have q1:=hG.2.1;have q2:=hG.2.2.1;have q3:=hG.2.2.2.1;have q4:=hG.2.2.2.2);(go_simp);(refine hK.out _ _ (S3i0 (KKr1.out _ _ Ba (S3o0 hH))) ?_);(clear hK K hH);(intro hH);(try simp only [Act.put,sA,sB,sC]);(have hT:VZ ((wo.alloc (.cells #[.int .i64 0,.int .i64 0] 24)).drew) wo.heap.size:=VZ.drew (VZ.here _ _ _ _));(obtain ⟨gT,hgT⟩:∃ g,g=wo.heap.size:=⟨_,rfl⟩);(have hlT:w.heap.size≤gT∧gX<gT∧gW<gT∧gN<gT∧b<gT:=by rw [hgT];exact ⟨q0.oa.bel.size,lt_of_cell q0.oa.x0,lt_of_cell q0.oa.m0,lt_of_cell q0.k0,lt_of_cell q1⟩);(rw [← hgT] at hT);(try rw [← hgT]);(clear hgT q0 q1 q2 q3 q4);(generalize (wo.alloc (.cells #[.int .i64 0,.int .i64 0] 24)).drew=wx14 at *);(refine U1 15 0 rfl (fun K hK=>?_));(try clear hb);(have hG:=hH);(replace hG:=S3o0 hG;(try dsimp only at hG);have q0:=hG.1;have q1:=hG.2.1;have q2:=hG.2.2.1;have q3:=hG.2.2.2.1;have q4:=hG.2.2.2.2);(have hZT:=VZ.lt hT);(go_simp);(refine hK.out _ _ (S3i0 (KKr1.out _ _ Ba (S3o0 hH))) ?_);(clear hK K hH);(intro hH);(try simp only [Act.put,sA,sB,sC]);(have hU:VZ (wx14.alloc (.cells #[.int .i64 0,.int .i64 0] 24)) wx14.heap.size:=VZ.here _ _ _ _);(replace hT:=keepVZ ((Below.refl _ _).alloc (Nat.le_refl _) (.cells #[.int .i64 0,.int .i64 0] 24)) hT);(obtain ⟨gU,hgU⟩:∃ g,g=wx14.heap.size:=⟨_,rfl⟩);(have hlU:w.heap.size≤gU∧gX<gU∧gW<gU∧gN<gU∧b<gU∧gT<gU:=by rw [hgU];exact ⟨q0.oa.bel.size,lt_of_cell q0.oa.x0,lt_of_cell q0.oa.m0,lt_of_cell q0.k0,lt_of_cell q1,hZT⟩);(rw [← hgU] at hU);(try rw [← hgU]);(clear hgU q0 q1 q2 q3 q4);(generalize wx14.alloc (.cells #[.int .i64 0,.int .i64 0] 24)=wx15 at *);(refine wpAnyU_lst (l':=tf 18 65535) (by kernel_rfl) ?_);(try clear hb);(have hd0:gT≠gX∧gT≠gW∧gT≠gN∧gT≠b∧gT≠gU:=by omega);(have hd1:gU≠gX∧gU≠gW∧gU≠gN∧gU≠b∧gU≠gT:=by omega);(have hd2:w.heap.size≤gT∧w.heap.size≤gU:=by omega);(clear hlT hlU);(try clear hZT);(try clear hZU);(revert hH);(revert hd2);(revert hd1);(revert hd0);(revert hU);(revert hT);(revert gU);(revert gT);(revert wx15);(exact hNr1.out)
        refine Uc 0 rfl (fun K hK=>?_) ?_
        · (try clear hb);(have hG:=hH);(replace hG:=S3o0 hG;(try dsimp only at hG);have q0:=hG.1;have q1:=hG.2.1;have q2:=hG.2.2.1;have q3:=hG.2.2.2.1;have q4:=hG.2.2.2.2);(go_simp);(refine hK.out _ _ (S3i0 (KKr1.out _ _ Ba (S3o0 hH))) ?_);(clear hK K hH);(intro hH);(try simp only [Act.put,sA,sB,sC]);(have hU:VZ ((wo.alloc (.cells #[.int .i64 0,.int .i64 0] 24)).drew) wo.heap.size:=VZ.drew (VZ.here _ _ _ _));(obtain ⟨gU,hgU⟩:∃ g,g=wo.heap.size:=⟨_,rfl⟩);(have hlU:w.heap.size≤gU∧gX<gU∧gW<gU∧gN<gU∧b<gU:=by rw [hgU];exact ⟨q0.oa.bel.size,lt_of_cell q0.oa.x0,lt_of_cell q0.oa.m0,lt_of_cell q0.k0,lt_of_cell q1⟩);(rw [← hgU] at hU);(try rw [← hgU]);(clear hgU q0 q1 q2 q3 q4);(generalize (wo.alloc (.cells #[.int .i64 0,.int .i64 0] 24)).drew=wx15 at *);(refine U1 14 0 rfl (fun K hK=>?_));(try clear hb);(have hG:=hH);(replace hG:=S3o0 hG;(try dsimp only at hG);have q0:=hG.1;have q1:=hG.2.1;have q2:=hG.2.2.1;have q3:=hG.2.2.2.1;have q4:=hG.2.2.2.2);(have hZU:=VZ.lt hU);(go_simp);(refine hK.out _ _ (S3i0 (KKr1.out _ _ Ba (S3o0 hH))) ?_);(clear hK K hH);(intro hH);(try simp only [Act.put,sA,sB,sC]);(have hT:VZ (wx15.alloc (.cells #[.int .i64 0,.int .i64 0] 24)) wx15.heap.size:=VZ.here _ _ _ _);(replace hU:=keepVZ ((Below.refl _ _).alloc (Nat.le_refl _) (.cells #[.int .i64 0,.int .i64 0] 24)) hU);(obtain ⟨gT,hgT⟩:∃ g,g=wx15.heap.size:=⟨_,rfl⟩);(have hlT:w.heap.size≤gT∧gX<gT∧gW<gT∧gN<gT∧b<gT∧gU<gT:=by rw [hgT];exact ⟨q0.oa.bel.size,lt_of_cell q0.oa.x0,lt_of_cell q0.oa.m0,lt_of_cell q0.k0,lt_of_cell q1,hZU⟩);(rw [← hgT] at hT);(try rw [← hgT]);(clear hgT q0 q1 q2 q3 q4);(generalize wx15.alloc (.cells #[.int .i64 0,.int .i64 0] 24)=wx14 at *);(refine wpAnyU_lst (l':=tf 18 65535) (by kernel_rfl) ?_);(try clear hb);(have hd0:gT≠gX∧gT≠gW∧gT≠gN∧gT≠b∧gT≠gU:=by omega);(have hd1:gU≠gX∧gU≠gW∧gU≠gN∧gU≠b∧gU≠gT:=by omega);(have hd2:w.heap.size≤gT∧w.heap.size≤gU:=by omega);(clear hlT hlU);(try clear hZT);(try clear hZU);(revert hH);(revert hd2);(revert hd1);(revert hd0);(revert hU);(revert hT);(revert gU);(revert gT);(revert wx14);(exact hNr1.out)
        exact AllReadyU.nil
      case prfr1 =>
        (intro wX gT gU hT hU hd0 hd1 hd2 hH);(have hWr1:Weaker (S3 (fun w'=>OB w gX gW gN s e wx wy n1 n2 w'∧w'.cell? ⟨b,off+e*2,none⟩=some (.int .i64 (r1))∧w'.cell? ⟨b,off+e*2+1,none⟩=some (.int .i64 (r2))∧w'.cell? ⟨b,off+j*2,none⟩=some (.int .i64 (s1))∧w'.cell? ⟨b,off+j*2+1,none⟩=some (.int .i64 (s2))) (fun w'=>OB w gX gW gN s e wx wy n1 n2 w'∧w'.cell? ⟨b,off+j*2,none⟩=some (.int .i64 (s1))∧w'.cell? ⟨b,off+j*2+1,none⟩=some (.int .i64 (s2)))):=weaker3 (fun _ ⟨q0,q1,q2,q3,q4⟩=>⟨q0,q3,q4⟩));(refine U1 16 1 rfl (fun K hK=>?_));(have hG:=hH);(replace hG:=S3o0 hG;(try dsimp only at hG);have q0:=hG.1;have q1:=hG.2.1;have q2:=hG.2.2.1;have q3:=hG.2.2.2.1;have q4:=hG.2.2.2.2);(have HO:=hid q0);(have HT:=hid hT);(have HU:=hid hU);(clear hT hU q0 q1 q2);(obtain ⟨⟨_,_,z0,z1⟩,zf⟩:=HT.out);(have hgl:=lt_of_cell z0);(go_simp);(refine hK.out _ _ (S3i1 ⟨HO.out.off2 hd0.1 hd0.2.1 hd0.2.2.1 hd2.1 _ _,far2 hd0.2.2.2.1 q3,far2 hd0.2.2.2.1 q4⟩) ?_);(clear hK K hH);(intro hH);(try simp only [Act.put,sA,sB,sC]);(obtain ⟨wy1,hwy⟩:∃ w',w'=(wX.setCell ⟨gT,0,none⟩ (.int .i64 r1)).setCell ⟨gT,1,none⟩ (.int .i64 r2):=⟨_,rfl⟩);(have KO:Hid (OB w gX gW gN s e wx wy n1 n2 wy1):=by show OB _ _ _ _ _ _ _ _ _ _ _;rw [hwy];exact HO.out.off2 hd0.1 hd0.2.1 hd0.2.2.1 hd2.1 _ _);(have KT:Hid (Vm wy1 gT r1 r2):=by show Vm _ _ _ _;rw [hwy];exact Vm.new HT.out _ _);(have KU:Hid (VZ wy1 gU):=by show VZ _ _;rw [hwy];exact HU.out.off2 hd0.2.2.2.2 _ _);(try rw [← hwy] at hH);(rw [← hwy]);(clear hwy HO HT HU z0 z1 zf hgl q3 q4);(refine U1 17 2 rfl (fun K hK=>?_));(obtain ⟨⟨_,_,z0,z1⟩,zf⟩:=KU.out);(have hgl:=lt_of_cell z0);(go_simp);(refine hK.out _ _ (S3i2) ?_);(clear hK K hH);(intro hH);(try simp only [Act.put,sA,sB,sC]);(obtain ⟨wy2,hwy⟩:∃ w',w'=(wy1.setCell ⟨gU,0,none⟩ (.int .i64 s1)).setCell ⟨gU,1,none⟩ (.int .i64 s2):=⟨_,rfl⟩);(have LO:Hid (OB w gX gW gN s e wx wy n1 n2 wy2):=by show OB _ _ _ _ _ _ _ _ _ _ _;rw [hwy];exact KO.out.off2 hd1.1 hd1.2.1 hd1.2.2.1 hd2.2 _ _);(have LT:Hid (Vm wy2 gT r1 r2):=by show Vm _ _ _ _;rw [hwy];exact KT.out.off2 hd1.2.2.2.2 _ _);(have LU:Hid (Vm wy2 gU s1 s2):=by show Vm _ _ _ _;rw [hwy];exact Vm.new KU.out _ _);(rw [← hwy]);(clear hwy KO KT KU z0 z1 zf hgl);(refine wpAnyU_done (by kernel_rfl) ?_ _ _);(refine NoPanic.normal ?_);(go_wp2_with fail);(go_meet);(exact ⟨gT,gU,rfl,rfl,LO.out,LT.out.a,LT.out.b,LU.out.a,LU.out.b⟩)
    case rest =>
      obtain ⟨gR,gS,rfl,rfl,hob,ha0,ha1,hb0,hb1⟩:=hcut
      have hOS:OS w gX gW gN gR gS s e wx wy n1 n2 r1 r2 s1 s2 wc:=⟨hob,ha0,ha1,hb0,hb1⟩
      clear hob ha0 ha1 hb0 hb1 hOB ri0 ri1 rj0 rj1 hbl hrc htm hwk hl0
      obtain ⟨hci,hi8,hi3,hwi⟩:=HII.out
      have HFA:=hid (fun w' (h:Below w.heap.size w w')=>facing_calls Ai _ ci inc n1 n2 w' (HSI.out.below h) hwi hi3 hi8 hnb.1 hnb.2)
      have hkl:=facZ_lt (l:=inc) n1 n2 (by omega)
      obtain ⟨k,hk⟩:∃ k,k=facZ inc n1 n2:=⟨_,rfl⟩
      rw [← hk] at HFA hkl
      obtain ⟨j2,hj2e⟩:∃ j,j=(k+1) % inc.length:=⟨_,rfl⟩
      have hj2:j2<inc.length:=by rw [hj2e];exact Nat.mod_lt _ (by omega)
      have hpw:=allWithin_at hwi hkl
      have hqw:=allWithin_at hwi hj2
      have HPQ:Hid (cnP inc k=(px inc k,py inc k)∧nxP inc k=(px inc j2,py inc j2)):=by rw [hj2e];exact ⟨rfl,rfl⟩
      have HIC:Hid (∀ w',Below w.heap.size w w'→∃ bi offi,Ai=some ⟨bi,offi,none⟩∧bi<w'.heap.size∧w'.cell? ⟨bi,offi+k*2,none⟩=some (.int .i64 (px inc k))∧w'.cell? ⟨bi,offi+k*2+1,none⟩=some (.int .i64 (py inc k))∧w'.cell? ⟨bi,offi+j2*2,none⟩=some (.int .i64 (px inc j2))∧w'.cell? ⟨bi,offi+j2*2+1,none⟩=some (.int .i64 (py inc j2))):=fun w' h=>by
        obtain ⟨bi,offi,hA,hC0⟩:=HSI.out.at_ (by intro h;rw [h] at hkl;simp at hkl)
        have hC:=hC0.below h
        exact ⟨bi,offi,hA,hC.lt,hC.x k hkl,hC.y k hkl,hC.x j2 hj2,hC.y j2 hj2⟩
      have htm2:((k:Int)+1).tmod (inc.length:Int)=(j2:Int):=by
        rw [Int.tmod_eq_emod_of_nonneg (by omega),hj2e]
        have:(k:Int)+1=((k+1:Nat):Int):=by omega
        rw [this]
        first | exact (Int.natCast_emod _ _).symm | exact (Int.ofNat_emod _ _).symm | simp
      have hwk2:IntKind.i64.wrap ((k:Int)+1)=(k:Int)+1:=IntWalk.i64_in _ (by omega)
      have hk8:k<8:=by omega
      have hl2:¬ inc=[]:=by intro h;rw [h] at hkl;simp at hkl
      have hkl':(k:Int)<(inc.length:Int):=by omega
      have hj2':(j2:Int)<(inc.length:Int):=by omega
      have hi1:IntKind.i64.wrap (id0*8)=id0*8:=IntWalk.i64_in _ (by omega)
      have hi2:IntKind.i64.wrap (id0*8+(k:Int))=id0*8+(k:Int):=IntWalk.i64_in _ (by omega)
      have hi4:IntKind.i64.wrap ((id0*8+(k:Int))*2)=(id0*8+(k:Int))*2:=IntWalk.i64_in _ (by omega)
      generalize px inc k=p1 at *
      generalize py inc k=p2 at *
      generalize px inc j2=q1_ at *
      generalize py inc j2=q2_ at *
      obtain ⟨_,_,_,_⟩:=withinB_iff.1 hrw
      obtain ⟨_,_,_,_⟩:=withinB_iff.1 hsw
      have HMS:=hid (cminus_calls s1 s2 r1 r2 (by omega) (by omega))
      have HMR:=hid (cminus_calls r1 r2 s1 s2 (by omega) (by omega))
      have HCL:=hid (cclip_calls p1 p2 q1_ q2_ r1 r2 (s1-r1) (s2-r2) hpw hqw hrw (withinB_iff.2 (by omega)))
      have hcw:=clp_within (p:=(p1,p2)) (q:=(q1_,q2_)) (a:=clpA (p1,p2) (r1,r2) (s1-r1,s2-r2)) (b:=clpA (q1_,q2_) (r1,r2) (s1-r1,s2-r2)) hpw hqw
      change withinB 65536000 (clpZ (p1,p2) (q1_,q2_) (r1,r2) (s1-r1,s2-r2)).1.1.1 (clpZ (p1,p2) (q1_,q2_) (r1,r2) (s1-r1,s2-r2)).1.1.2=true∧withinB 65536000 (clpZ (p1,p2) (q1_,q2_) (r1,r2) (s1-r1,s2-r2)).1.2.1 (clpZ (p1,p2) (q1_,q2_) (r1,r2) (s1-r1,s2-r2)).1.2.2=true at hcw
      have HSG2:=hid (HSG.out k (clpZ (p1,p2) (q1_,q2_) (r1,r2) (s1-r1,s2-r2)) hk (by rw [HPQ.out.1,HPQ.out.2]))
      have HPR2:=hid (HPR.out k _ hk rfl)
      obtain ⟨c1,hc1⟩:∃ c,c=clpZ (p1,p2) (q1_,q2_) (r1,r2) (s1-r1,s2-r2):=⟨_,rfl⟩
      rw [← hc1] at HCL hcw HSG2
      obtain ⟨⟨⟨u1,u2⟩,v1,v2⟩,ok1⟩:=c1
      change Hid (∀ w,Calls _ _ _ w (Ret (.tuple #[vecV u1 u2,vecV v1 v2,.bool ok1]) w)) at HCL
      dsimp only at hcw
      have HC2:=hid (cclip_calls u1 u2 v1 v2 s1 s2 (r1-s1) (r2-s2) hcw.1 hcw.2 hsw (withinB_iff.2 (by omega)))
      have HCW:=hid hcw
      have HK:=hid hk
      clear hk hj2e hpw hqw hc1 hcw HSG HPR hci hi8 hi3 hwi
      obtain ⟨x0,x1⟩:=And.intro hOS.ob.k0 hOS.ob.k1
      go_wp2_with fail
      refine (HFA.out _ hOS.ob.oa.bel).mono ?_
      rintro e0 w4 ⟨rfl,hb4⟩
      replace hOS:=hOS.keep hb4
      clear hb4 x0 x1 HFA
      go_upto_region 13 with fail
      obtain ⟨bi,offi,hAi,hbil,pi0,pi1,qi0,qi1⟩:=HIC.out _ hOS.ob.oa.bel
      subst hAi
      obtain ⟨wo,rfl⟩:∃ wo:World,wo=w4:=⟨_,rfl⟩
      go_cut [19,20,21] from 89 to 108 (fun t u v wx_=>∃ gP gQ,t = .pointer (some ⟨gP,0,none⟩)∧u = .pointer (some ⟨gQ,0,none⟩)∧v = .bool ok1∧OS w gX gW gN gR gS s e wx wy n1 n2 r1 r2 s1 s2 wx_∧Vm wx_ gP u1 u2∧Vm wx_ gQ v1 v2∧gP≠gQ∧(gP≠gX∧gP≠gW∧gP≠gN∧gP≠gR∧gP≠gS)∧(gQ≠gX∧gQ≠gW∧gQ≠gN∧gQ≠gR∧gQ≠gS)∧w.heap.size≤gP∧w.heap.size≤gQ)
      case first =>
        clear HSG2 HPR2 HDP HSI HII HIC HS HMM hnb hrw hsw hid0 HC2 HCW HK HPQ HMR hi1 hi2 hi4
        (have KKr2:Hid (∀ w1 w2:World,Below w1.heap.size w1 w2→(OS w gX gW gN gR gS s e wx wy n1 n2 r1 r2 s1 s2 w1∧w1.cell? ⟨bi,offi+k*2,none⟩=some (.int .i64 (p1))∧w1.cell? ⟨bi,offi+k*2+1,none⟩=some (.int .i64 (p2))∧w1.cell? ⟨bi,offi+j2*2,none⟩=some (.int .i64 (q1_))∧w1.cell? ⟨bi,offi+j2*2+1,none⟩=some (.int .i64 (q2_)))→OS w gX gW gN gR gS s e wx wy n1 n2 r1 r2 s1 s2 w2∧w2.cell? ⟨bi,offi+k*2,none⟩=some (.int .i64 (p1))∧w2.cell? ⟨bi,offi+k*2+1,none⟩=some (.int .i64 (p2))∧w2.cell? ⟨bi,offi+j2*2,none⟩=some (.int .i64 (q1_))∧w2.cell? ⟨bi,offi+j2*2+1,none⟩=some (.int .i64 (q2_))):=fun w1 w2 hb h=>⟨OS.keep hb (h.1),keepCell hb (h.2.1),keepCell hb (h.2.2.1),keepCell hb (h.2.2.2.1),keepCell hb (h.2.2.2.2)⟩);(refine (fun (hNr2:Hid (?Tr2:Prop))=>?mainr2) (hid ?prfr2))
        case mainr2 =>
          (refine wp_region_noPanic ?_);(refine wp_region_U (S:=(S2 (fun w'=>OS w gX gW gN gR gS s e wx wy n1 n2 r1 r2 s1 s2 w'∧w'.cell? ⟨bi,offi+k*2,none⟩=some (.int .i64 (p1))∧w'.cell? ⟨bi,offi+k*2+1,none⟩=some (.int .i64 (p2))∧w'.cell? ⟨bi,offi+j2*2,none⟩=some (.int .i64 (q1_))∧w'.cell? ⟨bi,offi+j2*2+1,none⟩=some (.int .i64 (q2_))))) (T:=(fun j=>[0,0,0,0,0,0,0,0,0,0,0,0,0,0,0,0,0,0,0,0,0,0,0,1].getD j 0)) (by kernel_rfl) (S2i0 ⟨hOS.drew,pi0,pi1,qi0,qi1⟩) (fun hH=>?_));(have hWr2:Weaker (S2 (fun w'=>OS w gX gW gN gR gS s e wx wy n1 n2 r1 r2 s1 s2 w'∧w'.cell? ⟨bi,offi+k*2,none⟩=some (.int .i64 (p1))∧w'.cell? ⟨bi,offi+k*2+1,none⟩=some (.int .i64 (p2))∧w'.cell? ⟨bi,offi+j2*2,none⟩=some (.int .i64 (q1_))∧w'.cell? ⟨bi,offi+j2*2+1,none⟩=some (.int .i64 (q2_)))):=weaker2 _);(refine Utn [(0,89),(1,90),(2,91),(3,92),(4,93),(5,94),(6,95),(7,96),(8,97),(9,98),(10,99),(11,100),(12,101),(13,102),(14,103)] 11 0 0 (L':=?Lr2_1) hWr2 hH ?yr2_1 ?_);(case yr2_1=>((iterate 15 apply tkC;rfl;kernel_rfl;intro w' hSw;replace hSw:=S2o0 hSw;(try dsimp only at hSw);have q0:=hSw.1;have q1:=hSw.2.1;have q2:=hSw.2.2.1;have q3:=hSw.2.2.2.1;have q4:=hSw.2.2.2.2;obtain ⟨-,qa0_4,qa0_5,qa0_6,qa0_7⟩:=q0;(try simp only [sB,sC]);go_simp;(try with_reducible rfl));exact tkN));(simp only [sB,sC]);(refine Ur [15,21,22] ?_);(refine Uc 0 rfl (fun K hK=>?_) ?_)
          · (try clear hb); (go_simp); ((go_at_call 98; refine (HMS.out _).mono ?_; rintro e wn ⟨rfl, hb⟩; (try (replace hT := keepVZ hb hT)); (try (replace hU := keepVZ hb hU)))); (refine hK.out _ _ (S2i0 (KKr2.out _ _ hb (S2o0 hH))) ?_); (clear hK K hH); (intro hH); (try simp only [Act.put, sA, sB, sC]); (refine Ur [16, 21, 22] ?_); (refine Uc 0 rfl (fun K hK => ?_) ?_)
            · (try clear hb); (go_simp); ((go_at_call 102; refine (HCL.out _).mono ?_; rintro e wn ⟨rfl, hb⟩; (try (replace hT := keepVZ hb hT)); (try (replace hU := keepVZ hb hU)))); (refine hK.out _ _ (S2i0 (KKr2.out _ _ hb (S2o0 hH))) ?_); (clear hK K hH); (intro hH); (try simp only [Act.put, sA, sB, sC]); (refine Utn [(17, 88), (18, 106)] 7 0 0 (L' := ?Lr2_18) hWr2 hH ?yr2_18 ?_); (case yr2_18 => ((iterate 2 apply tkC; rfl; kernel_rfl; intro w' hSw; clear hSw; (try simp only [sB, sC]); go_simp; (try with_reducible rfl)); exact tkN)); (simp only [sB, sC]); (refine Utn [(19, 107), (20, 108)] 5 1 0 (L' := ?Lr2_20) hWr2 hH ?yr2_20 ?_); (case yr2_20 => ((iterate 2 apply tkC; rfl; kernel_rfl; intro w' hSw; clear hSw; (try simp only [sB, sC]); go_simp; (try with_reducible rfl)); exact tkN)); (simp only [sB, sC]); (refine Ur [21, 22] ?_); (refine Uc 0 rfl (fun K hK => ?_) ?_)
              · (try clear hb);(have hG:=hH);(replace hG:=S2o0 hG;(try dsimp only at hG);have q0:=hG.1;have q1:=hG.2.1;have q2:=hG.2.2.1;have q3:=hG.2.2.2.1;have q4:=hG.2.2.2.2);(go_simp);(refine hK.out _ _ (S2i0 (KKr2.out _ _ Ba (S2o0 hH))) ?_);(clear hK K hH);(intro hH);(try simp only [Act.put,sA,sB,sC]);(have hT:VZ (wn.alloc (.cells #[.int .i64 0,.int .i64 0] 24)) wn.heap.size:=VZ.here _ _ _ _);(obtain ⟨gT,hgT⟩:∃ g,g=wn.heap.size:=⟨_,rfl⟩);(have hlT:gX<gT∧gW<gT∧gN<gT∧gR<gT∧gS<gT∧w.heap.size≤gT:=by rw [hgT];exact ⟨q0.lts.1,q0.lts.2.1,q0.lts.2.2.1,q0.lts.2.2.2.1,q0.lts.2.2.2.2.1,q0.lts.2.2.2.2.2⟩);(rw [← hgT] at hT);(try rw [← hgT]);(clear hgT q0 q1 q2 q3 q4);(generalize wn.alloc (.cells #[.int .i64 0,.int .i64 0] 24)=wx21 at *);(refine U1 22 0 rfl (fun K hK=>?_));(try clear hb);(have hG:=hH);(replace hG:=S2o0 hG;(try dsimp only at hG);have q0:=hG.1;have q1:=hG.2.1;have q2:=hG.2.2.1;have q3:=hG.2.2.2.1;have q4:=hG.2.2.2.2);(have hZT:=VZ.lt hT);(go_simp);(refine hK.out _ _ (S2i0 (KKr2.out _ _ Ba (S2o0 hH))) ?_);(clear hK K hH);(intro hH);(try simp only [Act.put,sA,sB,sC]);(have hU:VZ (wx21.alloc (.cells #[.int .i64 0,.int .i64 0] 24)) wx21.heap.size:=VZ.here _ _ _ _);(replace hT:=keepVZ ((Below.refl _ _).alloc (Nat.le_refl _) (.cells #[.int .i64 0,.int .i64 0] 24)) hT);(obtain ⟨gU,hgU⟩:∃ g,g=wx21.heap.size:=⟨_,rfl⟩);(have hlU:gX<gU∧gW<gU∧gN<gU∧gR<gU∧gS<gU∧w.heap.size≤gU∧gT<gU:=by rw [hgU];exact ⟨q0.lts.1,q0.lts.2.1,q0.lts.2.2.1,q0.lts.2.2.2.1,q0.lts.2.2.2.2.1,q0.lts.2.2.2.2.2,hZT⟩);(rw [← hgU] at hU);(try rw [← hgU]);(clear hgU q0 q1 q2 q3 q4);(generalize wx21.alloc (.cells #[.int .i64 0,.int .i64 0] 24)=wx22 at *);(refine wpAnyU_lst (l':=tf 26 8388607) (by kernel_rfl) ?_);(try clear hb);(have hd0:(gT≠gX∧gT≠gW∧gT≠gN∧gT≠gR∧gT≠gS):=by omega);(have hd1:(gU≠gX∧gU≠gW∧gU≠gN∧gU≠gR∧gU≠gS):=by omega);(have hd2:w.heap.size≤gT∧w.heap.size≤gU∧gT≠gU∧gU≠gT:=by omega);(clear hlT hlU);(try clear hZT);(try clear hZU);(revert hH);(revert hd2);(revert hd1);(revert hd0);(revert hU);(revert hT);(revert gU);(revert gT);(revert wx22);(exact hNr2.out)
              refine Uc 0 rfl (fun K hK=>?_) ?_
              · (try clear hb);(have hG:=hH);(replace hG:=S2o0 hG;(try dsimp only at hG);have q0:=hG.1;have q1:=hG.2.1;have q2:=hG.2.2.1;have q3:=hG.2.2.2.1;have q4:=hG.2.2.2.2);(go_simp);(refine hK.out _ _ (S2i0 (KKr2.out _ _ Ba (S2o0 hH))) ?_);(clear hK K hH);(intro hH);(try simp only [Act.put,sA,sB,sC]);(have hU:VZ (wn.alloc (.cells #[.int .i64 0,.int .i64 0] 24)) wn.heap.size:=VZ.here _ _ _ _);(obtain ⟨gU,hgU⟩:∃ g,g=wn.heap.size:=⟨_,rfl⟩);(have hlU:gX<gU∧gW<gU∧gN<gU∧gR<gU∧gS<gU∧w.heap.size≤gU:=by rw [hgU];exact ⟨q0.lts.1,q0.lts.2.1,q0.lts.2.2.1,q0.lts.2.2.2.1,q0.lts.2.2.2.2.1,q0.lts.2.2.2.2.2⟩);(rw [← hgU] at hU);(try rw [← hgU]);(clear hgU q0 q1 q2 q3 q4);(generalize wn.alloc (.cells #[.int .i64 0,.int .i64 0] 24)=wx22 at *);(refine U1 21 0 rfl (fun K hK=>?_));(try clear hb);(have hG:=hH);(replace hG:=S2o0 hG;(try dsimp only at hG);have q0:=hG.1;have q1:=hG.2.1;have q2:=hG.2.2.1;have q3:=hG.2.2.2.1;have q4:=hG.2.2.2.2);(have hZU:=VZ.lt hU);(go_simp);(refine hK.out _ _ (S2i0 (KKr2.out _ _ Ba (S2o0 hH))) ?_);(clear hK K hH);(intro hH);(try simp only [Act.put,sA,sB,sC]);(have hT:VZ (wx22.alloc (.cells #[.int .i64 0,.int .i64 0] 24)) wx22.heap.size:=VZ.here _ _ _ _);(replace hU:=keepVZ ((Below.refl _ _).alloc (Nat.le_refl _) (.cells #[.int .i64 0,.int .i64 0] 24)) hU);(obtain ⟨gT,hgT⟩:∃ g,g=wx22.heap.size:=⟨_,rfl⟩);(have hlT:gX<gT∧gW<gT∧gN<gT∧gR<gT∧gS<gT∧w.heap.size≤gT∧gU<gT:=by rw [hgT];exact ⟨q0.lts.1,q0.lts.2.1,q0.lts.2.2.1,q0.lts.2.2.2.1,q0.lts.2.2.2.2.1,q0.lts.2.2.2.2.2,hZU⟩);(rw [← hgT] at hT);(try rw [← hgT]);(clear hgT q0 q1 q2 q3 q4);(generalize wx22.alloc (.cells #[.int .i64 0,.int .i64 0] 24)=wx21 at *);(refine wpAnyU_lst (l':=tf 26 8388607) (by kernel_rfl) ?_);(try clear hb);(have hd0:(gT≠gX∧gT≠gW∧gT≠gN∧gT≠gR∧gT≠gS):=by omega);(have hd1:(gU≠gX∧gU≠gW∧gU≠gN∧gU≠gR∧gU≠gS):=by omega);(have hd2:w.heap.size≤gT∧w.heap.size≤gU∧gT≠gU∧gU≠gT:=by omega);(clear hlT hlU);(try clear hZT);(try clear hZU);(revert hH);(revert hd2);(revert hd1);(revert hd0);(revert hU);(revert hT);(revert gU);(revert gT);(revert wx21);(exact hNr2.out)
              exact AllReadyU.nil
            refine Uc 0 rfl (fun K hK=>?_) ?_
            · (try clear hb); (have hG := hH); (replace hG := S2o0 hG; (try dsimp only at hG); have q0 := hG.1; have q1 := hG.2.1; have q2 := hG.2.2.1; have q3 := hG.2.2.2.1; have q4 := hG.2.2.2.2); (go_simp); (refine hK.out _ _ (S2i0 (KKr2.out _ _ Ba (S2o0 hH))) ?_); (clear hK K hH); (intro hH); (try simp only [Act.put, sA, sB, sC]); (have hT : VZ (wn.alloc (.cells #[.int .i64 0, .int .i64 0] 24)) wn.heap.size := VZ.here _ _ _ _); (obtain ⟨gT, hgT⟩ : ∃ g, g = wn.heap.size := ⟨_, rfl⟩); (have hlT : gX < gT ∧ gW < gT ∧ gN < gT ∧ gR < gT ∧ gS < gT ∧ w.heap.size ≤ gT := by rw [hgT]; exact ⟨q0.lts.1, q0.lts.2.1, q0.lts.2.2.1, q0.lts.2.2.2.1, q0.lts.2.2.2.2.1, q0.lts.2.2.2.2.2⟩); (rw [← hgT] at hT); (try rw [← hgT]); (clear hgT q0 q1 q2 q3 q4); (generalize wn.alloc (.cells #[.int .i64 0, .int .i64 0] 24) = wx21 at *); (refine Ur [16, 22] ?_); (refine Uc 0 rfl (fun K hK => ?_) ?_)
              · (try clear hb);(go_simp);((go_at_call 102;refine (HCL.out _).mono ?_;rintro e wn ⟨rfl,hb⟩;(try (replace hT:=keepVZ hb hT));(try (replace hU:=keepVZ hb hU))));(refine hK.out _ _ (S2i0 (KKr2.out _ _ hb (S2o0 hH))) ?_);(clear hK K hH);(intro hH);(try simp only [Act.put,sA,sB,sC]);(refine Utn [(17,88),(18,106)] 6 0 0 (L':=?Lr2_31) hWr2 hH ?yr2_31 ?_);(case yr2_31=>((iterate 2 apply tkC;rfl;kernel_rfl;intro w' hSw;clear hSw;(try simp only [sB,sC]);go_simp;(try with_reducible rfl));exact tkN));(simp only [sB,sC]);(refine Utn [(19,107),(20,108)] 4 1 0 (L':=?Lr2_33) hWr2 hH ?yr2_33 ?_);(case yr2_33=>((iterate 2 apply tkC;rfl;kernel_rfl;intro w' hSw;clear hSw;(try simp only [sB,sC]);go_simp;(try with_reducible rfl));exact tkN));(simp only [sB,sC]);(refine U1 22 0 rfl (fun K hK=>?_));(try clear hb);(have hG:=hH);(replace hG:=S2o0 hG;(try dsimp only at hG);have q0:=hG.1;have q1:=hG.2.1;have q2:=hG.2.2.1;have q3:=hG.2.2.2.1;have q4:=hG.2.2.2.2);(have hZT:=VZ.lt hT);(go_simp);(refine hK.out _ _ (S2i0 (KKr2.out _ _ Ba (S2o0 hH))) ?_);(clear hK K hH);(intro hH);(try simp only [Act.put,sA,sB,sC]);(have hU:VZ (wn.alloc (.cells #[.int .i64 0,.int .i64 0] 24)) wn.heap.size:=VZ.here _ _ _ _);(replace hT:=keepVZ ((Below.refl _ _).alloc (Nat.le_refl _) (.cells #[.int .i64 0,.int .i64 0] 24)) hT);(obtain ⟨gU,hgU⟩:∃ g,g=wn.heap.size:=⟨_,rfl⟩);(have hlU:gX<gU∧gW<gU∧gN<gU∧gR<gU∧gS<gU∧w.heap.size≤gU∧gT<gU:=by rw [hgU];exact ⟨q0.lts.1,q0.lts.2.1,q0.lts.2.2.1,q0.lts.2.2.2.1,q0.lts.2.2.2.2.1,q0.lts.2.2.2.2.2,hZT⟩);(rw [← hgU] at hU);(try rw [← hgU]);(clear hgU q0 q1 q2 q3 q4);(generalize wn.alloc (.cells #[.int .i64 0,.int .i64 0] 24)=wx22 at *);(refine wpAnyU_lst (l':=tf 26 8388607) (by kernel_rfl) ?_);(try clear hb);(have hd0:(gT≠gX∧gT≠gW∧gT≠gN∧gT≠gR∧gT≠gS):=by omega);(have hd1:(gU≠gX∧gU≠gW∧gU≠gN∧gU≠gR∧gU≠gS):=by omega);(have hd2:w.heap.size≤gT∧w.heap.size≤gU∧gT≠gU∧gU≠gT:=by omega);(clear hlT hlU);(try clear hZT);(try clear hZU);(revert hH);(revert hd2);(revert hd1);(revert hd0);(revert hU);(revert hT);(revert gU);(revert gT);(revert wx22);(exact hNr2.out)
              refine Uc 0 rfl (fun K hK=>?_) ?_
              · (try clear hb);(have hG:=hH);(replace hG:=S2o0 hG;(try dsimp only at hG);have q0:=hG.1;have q1:=hG.2.1;have q2:=hG.2.2.1;have q3:=hG.2.2.2.1;have q4:=hG.2.2.2.2);(have hZT:=VZ.lt hT);(go_simp);(refine hK.out _ _ (S2i0 (KKr2.out _ _ Ba (S2o0 hH))) ?_);(clear hK K hH);(intro hH);(try simp only [Act.put,sA,sB,sC]);(have hU:VZ (wx21.alloc (.cells #[.int .i64 0,.int .i64 0] 24)) wx21.heap.size:=VZ.here _ _ _ _);(replace hT:=keepVZ ((Below.refl _ _).alloc (Nat.le_refl _) (.cells #[.int .i64 0,.int .i64 0] 24)) hT);(obtain ⟨gU,hgU⟩:∃ g,g=wx21.heap.size:=⟨_,rfl⟩);(have hlU:gX<gU∧gW<gU∧gN<gU∧gR<gU∧gS<gU∧w.heap.size≤gU∧gT<gU:=by rw [hgU];exact ⟨q0.lts.1,q0.lts.2.1,q0.lts.2.2.1,q0.lts.2.2.2.1,q0.lts.2.2.2.2.1,q0.lts.2.2.2.2.2,hZT⟩);(rw [← hgU] at hU);(try rw [← hgU]);(clear hgU q0 q1 q2 q3 q4);(generalize wx21.alloc (.cells #[.int .i64 0,.int .i64 0] 24)=wx22 at *);(refine U1 16 0 rfl (fun K hK=>?_));(try clear hb);(go_simp);((go_at_call 102;refine (HCL.out _).mono ?_;rintro e wn ⟨rfl,hb⟩;(try (replace hT:=keepVZ hb hT));(try (replace hU:=keepVZ hb hU))));(refine hK.out _ _ (S2i0 (KKr2.out _ _ hb (S2o0 hH))) ?_);(clear hK K hH);(intro hH);(try simp only [Act.put,sA,sB,sC]);(refine Utn [(17,88),(18,106)] 5 0 0 (L':=?Lr2_38) hWr2 hH ?yr2_38 ?_);(case yr2_38=>((iterate 2 apply tkC;rfl;kernel_rfl;intro w' hSw;clear hSw;(try simp only [sB,sC]);go_simp;(try with_reducible rfl));exact tkN));(simp only [sB,sC]);(refine Utn [(19,107),(20,108)] 3 1 0 (L':=?Lr2_40) hWr2 hH ?yr2_40 ?_);(case yr2_40=>((iterate 2 apply tkC;rfl;kernel_rfl;intro w' hSw;clear hSw;(try simp only [sB,sC]);go_simp;(try with_reducible rfl));exact tkN));(simp only [sB,sC]);(refine wpAnyU_lst (l':=tf 26 8388607) (by kernel_rfl) ?_);(try clear hb);(have hd0:(gT≠gX∧gT≠gW∧gT≠gN∧gT≠gR∧gT≠gS):=by omega);(have hd1:(gU≠gX∧gU≠gW∧gU≠gN∧gU≠gR∧gU≠gS):=by omega);(have hd2:w.heap.size≤gT∧w.heap.size≤gU∧gT≠gU∧gU≠gT:=by omega);(clear hlT hlU);(try clear hZT);(try clear hZU);(revert hH);(revert hd2);(revert hd1);(revert hd0);(revert hU);(revert hT);(revert gU);(revert gT);(revert wn);(exact hNr2.out)
              exact AllReadyU.nil
            refine Uc 0 rfl (fun K hK=>?_) ?_
            · (try clear hb); (have hG := hH); (replace hG := S2o0 hG; (try dsimp only at hG); have q0 := hG.1; have q1 := hG.2.1; have q2 := hG.2.2.1; have q3 := hG.2.2.2.1; have q4 := hG.2.2.2.2); (go_simp); (refine hK.out _ _ (S2i0 (KKr2.out _ _ Ba (S2o0 hH))) ?_); (clear hK K hH); (intro hH); (try simp only [Act.put, sA, sB, sC]); (have hU : VZ (wn.alloc (.cells #[.int .i64 0, .int .i64 0] 24)) wn.heap.size := VZ.here _ _ _ _); (obtain ⟨gU, hgU⟩ : ∃ g, g = wn.heap.size := ⟨_, rfl⟩); (have hlU : gX < gU ∧ gW < gU ∧ gN < gU ∧ gR < gU ∧ gS < gU ∧ w.heap.size ≤ gU := by rw [hgU]; exact ⟨q0.lts.1, q0.lts.2.1, q0.lts.2.2.1, q0.lts.2.2.2.1, q0.lts.2.2.2.2.1, q0.lts.2.2.2.2.2⟩); (rw [← hgU] at hU); (try rw [← hgU]); (clear hgU q0 q1 q2 q3 q4); (generalize wn.alloc (.cells #[.int .i64 0, .int .i64 0] 24) = wx22 at *); (refine Ur [16, 21] ?_); (refine Uc 0 rfl (fun K hK => ?_) ?_)
              · (try clear hb);(go_simp);((go_at_call 102;refine (HCL.out _).mono ?_;rintro e wn ⟨rfl,hb⟩;(try (replace hT:=keepVZ hb hT));(try (replace hU:=keepVZ hb hU))));(refine hK.out _ _ (S2i0 (KKr2.out _ _ hb (S2o0 hH))) ?_);(clear hK K hH);(intro hH);(try simp only [Act.put,sA,sB,sC]);(refine Utn [(17,88),(18,106)] 6 0 0 (L':=?Lr2_44) hWr2 hH ?yr2_44 ?_);(case yr2_44=>((iterate 2 apply tkC;rfl;kernel_rfl;intro w' hSw;clear hSw;(try simp only [sB,sC]);go_simp;(try with_reducible rfl));exact tkN));(simp only [sB,sC]);(refine Utn [(19,107),(20,108)] 4 1 0 (L':=?Lr2_46) hWr2 hH ?yr2_46 ?_);(case yr2_46=>((iterate 2 apply tkC;rfl;kernel_rfl;intro w' hSw;clear hSw;(try simp only [sB,sC]);go_simp;(try with_reducible rfl));exact tkN));(simp only [sB,sC]);(refine U1 21 0 rfl (fun K hK=>?_));(try clear hb);(have hG:=hH);(replace hG:=S2o0 hG;(try dsimp only at hG);have q0:=hG.1;have q1:=hG.2.1;have q2:=hG.2.2.1;have q3:=hG.2.2.2.1;have q4:=hG.2.2.2.2);(have hZU:=VZ.lt hU);(go_simp);(refine hK.out _ _ (S2i0 (KKr2.out _ _ Ba (S2o0 hH))) ?_);(clear hK K hH);(intro hH);(try simp only [Act.put,sA,sB,sC]);(have hT:VZ (wn.alloc (.cells #[.int .i64 0,.int .i64 0] 24)) wn.heap.size:=VZ.here _ _ _ _);(replace hU:=keepVZ ((Below.refl _ _).alloc (Nat.le_refl _) (.cells #[.int .i64 0,.int .i64 0] 24)) hU);(obtain ⟨gT,hgT⟩:∃ g,g=wn.heap.size:=⟨_,rfl⟩);(have hlT:gX<gT∧gW<gT∧gN<gT∧gR<gT∧gS<gT∧w.heap.size≤gT∧gU<gT:=by rw [hgT];exact ⟨q0.lts.1,q0.lts.2.1,q0.lts.2.2.1,q0.lts.2.2.2.1,q0.lts.2.2.2.2.1,q0.lts.2.2.2.2.2,hZU⟩);(rw [← hgT] at hT);(try rw [← hgT]);(clear hgT q0 q1 q2 q3 q4);(generalize wn.alloc (.cells #[.int .i64 0,.int .i64 0] 24)=wx21 at *);(refine wpAnyU_lst (l':=tf 26 8388607) (by kernel_rfl) ?_);(try clear hb);(have hd0:(gT≠gX∧gT≠gW∧gT≠gN∧gT≠gR∧gT≠gS):=by omega);(have hd1:(gU≠gX∧gU≠gW∧gU≠gN∧gU≠gR∧gU≠gS):=by omega);(have hd2:w.heap.size≤gT∧w.heap.size≤gU∧gT≠gU∧gU≠gT:=by omega);(clear hlT hlU);(try clear hZT);(try clear hZU);(revert hH);(revert hd2);(revert hd1);(revert hd0);(revert hU);(revert hT);(revert gU);(revert gT);(revert wx21);(exact hNr2.out)
              refine Uc 0 rfl (fun K hK=>?_) ?_
              · (try clear hb);(have hG:=hH);(replace hG:=S2o0 hG;(try dsimp only at hG);have q0:=hG.1;have q1:=hG.2.1;have q2:=hG.2.2.1;have q3:=hG.2.2.2.1;have q4:=hG.2.2.2.2);(have hZU:=VZ.lt hU);(go_simp);(refine hK.out _ _ (S2i0 (KKr2.out _ _ Ba (S2o0 hH))) ?_);(clear hK K hH);(intro hH);(try simp only [Act.put,sA,sB,sC]);(have hT:VZ (wx22.alloc (.cells #[.int .i64 0,.int .i64 0] 24)) wx22.heap.size:=VZ.here _ _ _ _);(replace hU:=keepVZ ((Below.refl _ _).alloc (Nat.le_refl _) (.cells #[.int .i64 0,.int .i64 0] 24)) hU);(obtain ⟨gT,hgT⟩:∃ g,g=wx22.heap.size:=⟨_,rfl⟩);(have hlT:gX<gT∧gW<gT∧gN<gT∧gR<gT∧gS<gT∧w.heap.size≤gT∧gU<gT:=by rw [hgT];exact ⟨q0.lts.1,q0.lts.2.1,q0.lts.2.2.1,q0.lts.2.2.2.1,q0.lts.2.2.2.2.1,q0.lts.2.2.2.2.2,hZU⟩);(rw [← hgT] at hT);(try rw [← hgT]);(clear hgT q0 q1 q2 q3 q4);(generalize wx22.alloc (.cells #[.int .i64 0,.int .i64 0] 24)=wx21 at *);(refine U1 16 0 rfl (fun K hK=>?_));(try clear hb);(go_simp);((go_at_call 102;refine (HCL.out _).mono ?_;rintro e wn ⟨rfl,hb⟩;(try (replace hT:=keepVZ hb hT));(try (replace hU:=keepVZ hb hU))));(refine hK.out _ _ (S2i0 (KKr2.out _ _ hb (S2o0 hH))) ?_);(clear hK K hH);(intro hH);(try simp only [Act.put,sA,sB,sC]);(refine Utn [(17,88),(18,106)] 5 0 0 (L':=?Lr2_51) hWr2 hH ?yr2_51 ?_);(case yr2_51=>((iterate 2 apply tkC;rfl;kernel_rfl;intro w' hSw;clear hSw;(try simp only [sB,sC]);go_simp;(try with_reducible rfl));exact tkN));(simp only [sB,sC]);(refine Utn [(19,107),(20,108)] 3 1 0 (L':=?Lr2_53) hWr2 hH ?yr2_53 ?_);(case yr2_53=>((iterate 2 apply tkC;rfl;kernel_rfl;intro w' hSw;clear hSw;(try simp only [sB,sC]);go_simp;(try with_reducible rfl));exact tkN));(simp only [sB,sC]);(refine wpAnyU_lst (l':=tf 26 8388607) (by kernel_rfl) ?_);(try clear hb);(have hd0:(gT≠gX∧gT≠gW∧gT≠gN∧gT≠gR∧gT≠gS):=by omega);(have hd1:(gU≠gX∧gU≠gW∧gU≠gN∧gU≠gR∧gU≠gS):=by omega);(have hd2:w.heap.size≤gT∧w.heap.size≤gU∧gT≠gU∧gU≠gT:=by omega);(clear hlT hlU);(try clear hZT);(try clear hZU);(revert hH);(revert hd2);(revert hd1);(revert hd0);(revert hU);(revert hT);(revert gU);(revert gT);(revert wn);(exact hNr2.out)
              exact AllReadyU.nil
            exact AllReadyU.nil
          refine Uc 0 rfl (fun K hK=>?_) ?_
          · (try clear hb); (have hG := hH); (replace hG := S2o0 hG; (try dsimp only at hG); have q0 := hG.1; have q1 := hG.2.1; have q2 := hG.2.2.1; have q3 := hG.2.2.2.1; have q4 := hG.2.2.2.2); (go_simp); (refine hK.out _ _ (S2i0 (KKr2.out _ _ Ba (S2o0 hH))) ?_); (clear hK K hH); (intro hH); (try simp only [Act.put, sA, sB, sC]); (have hT : VZ ((wo.alloc (.cells #[.int .i64 0, .int .i64 0] 24)).drew) wo.heap.size := VZ.drew (VZ.here _ _ _ _)); (obtain ⟨gT, hgT⟩ : ∃ g, g = wo.heap.size := ⟨_, rfl⟩); (have hlT : gX < gT ∧ gW < gT ∧ gN < gT ∧ gR < gT ∧ gS < gT ∧ w.heap.size ≤ gT := by rw [hgT]; exact ⟨q0.lts.1, q0.lts.2.1, q0.lts.2.2.1, q0.lts.2.2.2.1, q0.lts.2.2.2.2.1, q0.lts.2.2.2.2.2⟩); (rw [← hgT] at hT); (try rw [← hgT]); (clear hgT q0 q1 q2 q3 q4); (generalize (wo.alloc (.cells #[.int .i64 0, .int .i64 0] 24)).drew = wx21 at *); (refine Ur [15, 22] ?_); (refine Uc 0 rfl (fun K hK => ?_) ?_)
            · (try clear hb); (go_simp); ((go_at_call 98; refine (HMS.out _).mono ?_; rintro e wn ⟨rfl, hb⟩; (try (replace hT := keepVZ hb hT)); (try (replace hU := keepVZ hb hU)))); (refine hK.out _ _ (S2i0 (KKr2.out _ _ hb (S2o0 hH))) ?_); (clear hK K hH); (intro hH); (try simp only [Act.put, sA, sB, sC]); (refine Ur [16, 22] ?_); (refine Uc 0 rfl (fun K hK => ?_) ?_)
              · (try clear hb);(go_simp);((go_at_call 102;refine (HCL.out _).mono ?_;rintro e wn ⟨rfl,hb⟩;(try (replace hT:=keepVZ hb hT));(try (replace hU:=keepVZ hb hU))));(refine hK.out _ _ (S2i0 (KKr2.out _ _ hb (S2o0 hH))) ?_);(clear hK K hH);(intro hH);(try simp only [Act.put,sA,sB,sC]);(refine Utn [(17,88),(18,106)] 6 0 0 (L':=?Lr2_58) hWr2 hH ?yr2_58 ?_);(case yr2_58=>((iterate 2 apply tkC;rfl;kernel_rfl;intro w' hSw;clear hSw;(try simp only [sB,sC]);go_simp;(try with_reducible rfl));exact tkN));(simp only [sB,sC]);(refine Utn [(19,107),(20,108)] 4 1 0 (L':=?Lr2_60) hWr2 hH ?yr2_60 ?_);(case yr2_60=>((iterate 2 apply tkC;rfl;kernel_rfl;intro w' hSw;clear hSw;(try simp only [sB,sC]);go_simp;(try with_reducible rfl));exact tkN));(simp only [sB,sC]);(refine U1 22 0 rfl (fun K hK=>?_));(try clear hb);(have hG:=hH);(replace hG:=S2o0 hG;(try dsimp only at hG);have q0:=hG.1;have q1:=hG.2.1;have q2:=hG.2.2.1;have q3:=hG.2.2.2.1;have q4:=hG.2.2.2.2);(have hZT:=VZ.lt hT);(go_simp);(refine hK.out _ _ (S2i0 (KKr2.out _ _ Ba (S2o0 hH))) ?_);(clear hK K hH);(intro hH);(try simp only [Act.put,sA,sB,sC]);(have hU:VZ (wn.alloc (.cells #[.int .i64 0,.int .i64 0] 24)) wn.heap.size:=VZ.here _ _ _ _);(replace hT:=keepVZ ((Below.refl _ _).alloc (Nat.le_refl _) (.cells #[.int .i64 0,.int .i64 0] 24)) hT);(obtain ⟨gU,hgU⟩:∃ g,g=wn.heap.size:=⟨_,rfl⟩);(have hlU:gX<gU∧gW<gU∧gN<gU∧gR<gU∧gS<gU∧w.heap.size≤gU∧gT<gU:=by rw [hgU];exact ⟨q0.lts.1,q0.lts.2.1,q0.lts.2.2.1,q0.lts.2.2.2.1,q0.lts.2.2.2.2.1,q0.lts.2.2.2.2.2,hZT⟩);(rw [← hgU] at hU);(try rw [← hgU]);(clear hgU q0 q1 q2 q3 q4);(generalize wn.alloc (.cells #[.int .i64 0,.int .i64 0] 24)=wx22 at *);(refine wpAnyU_lst (l':=tf 26 8388607) (by kernel_rfl) ?_);(try clear hb);(have hd0:(gT≠gX∧gT≠gW∧gT≠gN∧gT≠gR∧gT≠gS):=by omega);(have hd1:(gU≠gX∧gU≠gW∧gU≠gN∧gU≠gR∧gU≠gS):=by omega);(have hd2:w.heap.size≤gT∧w.heap.size≤gU∧gT≠gU∧gU≠gT:=by omega);(clear hlT hlU);(try clear hZT);(try clear hZU);(revert hH);(revert hd2);(revert hd1);(revert hd0);(revert hU);(revert hT);(revert gU);(revert gT);(revert wx22);(exact hNr2.out)
              refine Uc 0 rfl (fun K hK=>?_) ?_
              · (try clear hb);(have hG:=hH);(replace hG:=S2o0 hG;(try dsimp only at hG);have q0:=hG.1;have q1:=hG.2.1;have q2:=hG.2.2.1;have q3:=hG.2.2.2.1;have q4:=hG.2.2.2.2);(have hZT:=VZ.lt hT);(go_simp);(refine hK.out _ _ (S2i0 (KKr2.out _ _ Ba (S2o0 hH))) ?_);(clear hK K hH);(intro hH);(try simp only [Act.put,sA,sB,sC]);(have hU:VZ (wn.alloc (.cells #[.int .i64 0,.int .i64 0] 24)) wn.heap.size:=VZ.here _ _ _ _);(replace hT:=keepVZ ((Below.refl _ _).alloc (Nat.le_refl _) (.cells #[.int .i64 0,.int .i64 0] 24)) hT);(obtain ⟨gU,hgU⟩:∃ g,g=wn.heap.size:=⟨_,rfl⟩);(have hlU:gX<gU∧gW<gU∧gN<gU∧gR<gU∧gS<gU∧w.heap.size≤gU∧gT<gU:=by rw [hgU];exact ⟨q0.lts.1,q0.lts.2.1,q0.lts.2.2.1,q0.lts.2.2.2.1,q0.lts.2.2.2.2.1,q0.lts.2.2.2.2.2,hZT⟩);(rw [← hgU] at hU);(try rw [← hgU]);(clear hgU q0 q1 q2 q3 q4);(generalize wn.alloc (.cells #[.int .i64 0,.int .i64 0] 24)=wx22 at *);(refine U1 16 0 rfl (fun K hK=>?_));(try clear hb);(go_simp);((go_at_call 102;refine (HCL.out _).mono ?_;rintro e wn ⟨rfl,hb⟩;(try (replace hT:=keepVZ hb hT));(try (replace hU:=keepVZ hb hU))));(refine hK.out _ _ (S2i0 (KKr2.out _ _ hb (S2o0 hH))) ?_);(clear hK K hH);(intro hH);(try simp only [Act.put,sA,sB,sC]);(refine Utn [(17,88),(18,106)] 5 0 0 (L':=?Lr2_65) hWr2 hH ?yr2_65 ?_);(case yr2_65=>((iterate 2 apply tkC;rfl;kernel_rfl;intro w' hSw;clear hSw;(try simp only [sB,sC]);go_simp;(try with_reducible rfl));exact tkN));(simp only [sB,sC]);(refine Utn [(19,107),(20,108)] 3 1 0 (L':=?Lr2_67) hWr2 hH ?yr2_67 ?_);(case yr2_67=>((iterate 2 apply tkC;rfl;kernel_rfl;intro w' hSw;clear hSw;(try simp only [sB,sC]);go_simp;(try with_reducible rfl));exact tkN));(simp only [sB,sC]);(refine wpAnyU_lst (l':=tf 26 8388607) (by kernel_rfl) ?_);(try clear hb);(have hd0:(gT≠gX∧gT≠gW∧gT≠gN∧gT≠gR∧gT≠gS):=by omega);(have hd1:(gU≠gX∧gU≠gW∧gU≠gN∧gU≠gR∧gU≠gS):=by omega);(have hd2:w.heap.size≤gT∧w.heap.size≤gU∧gT≠gU∧gU≠gT:=by omega);(clear hlT hlU);(try clear hZT);(try clear hZU);(revert hH);(revert hd2);(revert hd1);(revert hd0);(revert hU);(revert hT);(revert gU);(revert gT);(revert wn);(exact hNr2.out)
              exact AllReadyU.nil
            refine Uc 0 rfl (fun K hK=>?_) ?_
            · (try clear hb);(have hG:=hH);(replace hG:=S2o0 hG;(try dsimp only at hG);have q0:=hG.1;have q1:=hG.2.1;have q2:=hG.2.2.1;have q3:=hG.2.2.2.1;have q4:=hG.2.2.2.2);(have hZT:=VZ.lt hT);(go_simp);(refine hK.out _ _ (S2i0 (KKr2.out _ _ Ba (S2o0 hH))) ?_);(clear hK K hH);(intro hH);(try simp only [Act.put,sA,sB,sC]);(have hU:VZ (wx21.alloc (.cells #[.int .i64 0,.int .i64 0] 24)) wx21.heap.size:=VZ.here _ _ _ _);(replace hT:=keepVZ ((Below.refl _ _).alloc (Nat.le_refl _) (.cells #[.int .i64 0,.int .i64 0] 24)) hT);(obtain ⟨gU,hgU⟩:∃ g,g=wx21.heap.size:=⟨_,rfl⟩);(have hlU:gX<gU∧gW<gU∧gN<gU∧gR<gU∧gS<gU∧w.heap.size≤gU∧gT<gU:=by rw [hgU];exact ⟨q0.lts.1,q0.lts.2.1,q0.lts.2.2.1,q0.lts.2.2.2.1,q0.lts.2.2.2.2.1,q0.lts.2.2.2.2.2,hZT⟩);(rw [← hgU] at hU);(try rw [← hgU]);(clear hgU q0 q1 q2 q3 q4);(generalize wx21.alloc (.cells #[.int .i64 0,.int .i64 0] 24)=wx22 at *);(refine U1 15 0 rfl (fun K hK=>?_));(try clear hb);(go_simp);((go_at_call 98;refine (HMS.out _).mono ?_;rintro e wn ⟨rfl,hb⟩;(try (replace hT:=keepVZ hb hT));(try (replace hU:=keepVZ hb hU))));(refine hK.out _ _ (S2i0 (KKr2.out _ _ hb (S2o0 hH))) ?_);(clear hK K hH);(intro hH);(try simp only [Act.put,sA,sB,sC]);(refine U1 16 0 rfl (fun K hK=>?_));(try clear hb);(go_simp);((go_at_call 102;refine (HCL.out _).mono ?_;rintro e wn ⟨rfl,hb⟩;(try (replace hT:=keepVZ hb hT));(try (replace hU:=keepVZ hb hU))));(refine hK.out _ _ (S2i0 (KKr2.out _ _ hb (S2o0 hH))) ?_);(clear hK K hH);(intro hH);(try simp only [Act.put,sA,sB,sC]);(refine Utn [(17,88),(18,106)] 5 0 0 (L':=?Lr2_72) hWr2 hH ?yr2_72 ?_);(case yr2_72=>((iterate 2 apply tkC;rfl;kernel_rfl;intro w' hSw;clear hSw;(try simp only [sB,sC]);go_simp;(try with_reducible rfl));exact tkN));(simp only [sB,sC]);(refine Utn [(19,107),(20,108)] 3 1 0 (L':=?Lr2_74) hWr2 hH ?yr2_74 ?_);(case yr2_74=>((iterate 2 apply tkC;rfl;kernel_rfl;intro w' hSw;clear hSw;(try simp only [sB,sC]);go_simp;(try with_reducible rfl));exact tkN));(simp only [sB,sC]);(refine wpAnyU_lst (l':=tf 26 8388607) (by kernel_rfl) ?_);(try clear hb);(have hd0:(gT≠gX∧gT≠gW∧gT≠gN∧gT≠gR∧gT≠gS):=by omega);(have hd1:(gU≠gX∧gU≠gW∧gU≠gN∧gU≠gR∧gU≠gS):=by omega);(have hd2:w.heap.size≤gT∧w.heap.size≤gU∧gT≠gU∧gU≠gT:=by omega);(clear hlT hlU);(try clear hZT);(try clear hZU);(revert hH);(revert hd2);(revert hd1);(revert hd0);(revert hU);(revert hT);(revert gU);(revert gT);(revert wn);(exact hNr2.out)
            exact AllReadyU.nil
          refine Uc 0 rfl (fun K hK=>?_) ?_
          · (try clear hb); (have hG := hH); (replace hG := S2o0 hG; (try dsimp only at hG); have q0 := hG.1; have q1 := hG.2.1; have q2 := hG.2.2.1; have q3 := hG.2.2.2.1; have q4 := hG.2.2.2.2); (go_simp); (refine hK.out _ _ (S2i0 (KKr2.out _ _ Ba (S2o0 hH))) ?_); (clear hK K hH); (intro hH); (try simp only [Act.put, sA, sB, sC]); (have hU : VZ ((wo.alloc (.cells #[.int .i64 0, .int .i64 0] 24)).drew) wo.heap.size := VZ.drew (VZ.here _ _ _ _)); (obtain ⟨gU, hgU⟩ : ∃ g, g = wo.heap.size := ⟨_, rfl⟩); (have hlU : gX < gU ∧ gW < gU ∧ gN < gU ∧ gR < gU ∧ gS < gU ∧ w.heap.size ≤ gU := by rw [hgU]; exact ⟨q0.lts.1, q0.lts.2.1, q0.lts.2.2.1, q0.lts.2.2.2.1, q0.lts.2.2.2.2.1, q0.lts.2.2.2.2.2⟩); (rw [← hgU] at hU); (try rw [← hgU]); (clear hgU q0 q1 q2 q3 q4); (generalize (wo.alloc (.cells #[.int .i64 0, .int .i64 0] 24)).drew = wx22 at *); (refine Ur [15, 21] ?_); (refine Uc 0 rfl (fun K hK => ?_) ?_)
            · (try clear hb); (go_simp); ((go_at_call 98; refine (HMS.out _).mono ?_; rintro e wn ⟨rfl, hb⟩; (try (replace hT := keepVZ hb hT)); (try (replace hU := keepVZ hb hU)))); (refine hK.out _ _ (S2i0 (KKr2.out _ _ hb (S2o0 hH))) ?_); (clear hK K hH); (intro hH); (try simp only [Act.put, sA, sB, sC]); (refine Ur [16, 21] ?_); (refine Uc 0 rfl (fun K hK => ?_) ?_)
              · (try clear hb);(go_simp);((go_at_call 102;refine (HCL.out _).mono ?_;rintro e wn ⟨rfl,hb⟩;(try (replace hT:=keepVZ hb hT));(try (replace hU:=keepVZ hb hU))));(refine hK.out _ _ (S2i0 (KKr2.out _ _ hb (S2o0 hH))) ?_);(clear hK K hH);(intro hH);(try simp only [Act.put,sA,sB,sC]);(refine Utn [(17,88),(18,106)] 6 0 0 (L':=?Lr2_79) hWr2 hH ?yr2_79 ?_);(case yr2_79=>((iterate 2 apply tkC;rfl;kernel_rfl;intro w' hSw;clear hSw;(try simp only [sB,sC]);go_simp;(try with_reducible rfl));exact tkN));(simp only [sB,sC]);(refine Utn [(19,107),(20,108)] 4 1 0 (L':=?Lr2_81) hWr2 hH ?yr2_81 ?_);(case yr2_81=>((iterate 2 apply tkC;rfl;kernel_rfl;intro w' hSw;clear hSw;(try simp only [sB,sC]);go_simp;(try with_reducible rfl));exact tkN));(simp only [sB,sC]);(refine U1 21 0 rfl (fun K hK=>?_));(try clear hb);(have hG:=hH);(replace hG:=S2o0 hG;(try dsimp only at hG);have q0:=hG.1;have q1:=hG.2.1;have q2:=hG.2.2.1;have q3:=hG.2.2.2.1;have q4:=hG.2.2.2.2);(have hZU:=VZ.lt hU);(go_simp);(refine hK.out _ _ (S2i0 (KKr2.out _ _ Ba (S2o0 hH))) ?_);(clear hK K hH);(intro hH);(try simp only [Act.put,sA,sB,sC]);(have hT:VZ (wn.alloc (.cells #[.int .i64 0,.int .i64 0] 24)) wn.heap.size:=VZ.here _ _ _ _);(replace hU:=keepVZ ((Below.refl _ _).alloc (Nat.le_refl _) (.cells #[.int .i64 0,.int .i64 0] 24)) hU);(obtain ⟨gT,hgT⟩:∃ g,g=wn.heap.size:=⟨_,rfl⟩);(have hlT:gX<gT∧gW<gT∧gN<gT∧gR<gT∧gS<gT∧w.heap.size≤gT∧gU<gT:=by rw [hgT];exact ⟨q0.lts.1,q0.lts.2.1,q0.lts.2.2.1,q0.lts.2.2.2.1,q0.lts.2.2.2.2.1,q0.lts.2.2.2.2.2,hZU⟩);(rw [← hgT] at hT);(try rw [← hgT]);(clear hgT q0 q1 q2 q3 q4);(generalize wn.alloc (.cells #[.int .i64 0,.int .i64 0] 24)=wx21 at *);(refine wpAnyU_lst (l':=tf 26 8388607) (by kernel_rfl) ?_);(try clear hb);(have hd0:(gT≠gX∧gT≠gW∧gT≠gN∧gT≠gR∧gT≠gS):=by omega);(have hd1:(gU≠gX∧gU≠gW∧gU≠gN∧gU≠gR∧gU≠gS):=by omega);(have hd2:w.heap.size≤gT∧w.heap.size≤gU∧gT≠gU∧gU≠gT:=by omega);(clear hlT hlU);(try clear hZT);(try clear hZU);(revert hH);(revert hd2);(revert hd1);(revert hd0);(revert hU);(revert hT);(revert gU);(revert gT);(revert wx21);(exact hNr2.out)
              refine Uc 0 rfl (fun K hK=>?_) ?_
              · (try clear hb);(have hG:=hH);(replace hG:=S2o0 hG;(try dsimp only at hG);have q0:=hG.1;have q1:=hG.2.1;have q2:=hG.2.2.1;have q3:=hG.2.2.2.1;have q4:=hG.2.2.2.2);(have hZU:=VZ.lt hU);(go_simp);(refine hK.out _ _ (S2i0 (KKr2.out _ _ Ba (S2o0 hH))) ?_);(clear hK K hH);(intro hH);(try simp only [Act.put,sA,sB,sC]);(have hT:VZ (wn.alloc (.cells #[.int .i64 0,.int .i64 0] 24)) wn.heap.size:=VZ.here _ _ _ _);(replace hU:=keepVZ ((Below.refl _ _).alloc (Nat.le_refl _) (.cells #[.int .i64 0,.int .i64 0] 24)) hU);(obtain ⟨gT,hgT⟩:∃ g,g=wn.heap.size:=⟨_,rfl⟩);(have hlT:gX<gT∧gW<gT∧gN<gT∧gR<gT∧gS<gT∧w.heap.size≤gT∧gU<gT:=by rw [hgT];exact ⟨q0.lts.1,q0.lts.2.1,q0.lts.2.2.1,q0.lts.2.2.2.1,q0.lts.2.2.2.2.1,q0.lts.2.2.2.2.2,hZU⟩);(rw [← hgT] at hT);(try rw [← hgT]);(clear hgT q0 q1 q2 q3 q4);(generalize wn.alloc (.cells #[.int .i64 0,.int .i64 0] 24)=wx21 at *);(refine U1 16 0 rfl (fun K hK=>?_));(try clear hb);(go_simp);((go_at_call 102;refine (HCL.out _).mono ?_;rintro e wn ⟨rfl,hb⟩;(try (replace hT:=keepVZ hb hT));(try (replace hU:=keepVZ hb hU))));(refine hK.out _ _ (S2i0 (KKr2.out _ _ hb (S2o0 hH))) ?_);(clear hK K hH);(intro hH);(try simp only [Act.put,sA,sB,sC]);(refine Utn [(17,88),(18,106)] 5 0 0 (L':=?Lr2_86) hWr2 hH ?yr2_86 ?_);(case yr2_86=>((iterate 2 apply tkC;rfl;kernel_rfl;intro w' hSw;clear hSw;(try simp only [sB,sC]);go_simp;(try with_reducible rfl));exact tkN));(simp only [sB,sC]);(refine Utn [(19,107),(20,108)] 3 1 0 (L':=?Lr2_88) hWr2 hH ?yr2_88 ?_);(case yr2_88=>((iterate 2 apply tkC;rfl;kernel_rfl;intro w' hSw;clear hSw;(try simp only [sB,sC]);go_simp;(try with_reducible rfl));exact tkN));(simp only [sB,sC]);(refine wpAnyU_lst (l':=tf 26 8388607) (by kernel_rfl) ?_);(try clear hb);(have hd0:(gT≠gX∧gT≠gW∧gT≠gN∧gT≠gR∧gT≠gS):=by omega);(have hd1:(gU≠gX∧gU≠gW∧gU≠gN∧gU≠gR∧gU≠gS):=by omega);(have hd2:w.heap.size≤gT∧w.heap.size≤gU∧gT≠gU∧gU≠gT:=by omega);(clear hlT hlU);(try clear hZT);(try clear hZU);(revert hH);(revert hd2);(revert hd1);(revert hd0);(revert hU);(revert hT);(revert gU);(revert gT);(revert wn);(exact hNr2.out)
              exact AllReadyU.nil
            refine Uc 0 rfl (fun K hK=>?_) ?_
            · (try clear hb);(have hG:=hH);(replace hG:=S2o0 hG;(try dsimp only at hG);have q0:=hG.1;have q1:=hG.2.1;have q2:=hG.2.2.1;have q3:=hG.2.2.2.1;have q4:=hG.2.2.2.2);(have hZU:=VZ.lt hU);(go_simp);(refine hK.out _ _ (S2i0 (KKr2.out _ _ Ba (S2o0 hH))) ?_);(clear hK K hH);(intro hH);(try simp only [Act.put,sA,sB,sC]);(have hT:VZ (wx22.alloc (.cells #[.int .i64 0,.int .i64 0] 24)) wx22.heap.size:=VZ.here _ _ _ _);(replace hU:=keepVZ ((Below.refl _ _).alloc (Nat.le_refl _) (.cells #[.int .i64 0,.int .i64 0] 24)) hU);(obtain ⟨gT,hgT⟩:∃ g,g=wx22.heap.size:=⟨_,rfl⟩);(have hlT:gX<gT∧gW<gT∧gN<gT∧gR<gT∧gS<gT∧w.heap.size≤gT∧gU<gT:=by rw [hgT];exact ⟨q0.lts.1,q0.lts.2.1,q0.lts.2.2.1,q0.lts.2.2.2.1,q0.lts.2.2.2.2.1,q0.lts.2.2.2.2.2,hZU⟩);(rw [← hgT] at hT);(try rw [← hgT]);(clear hgT q0 q1 q2 q3 q4);(generalize wx22.alloc (.cells #[.int .i64 0,.int .i64 0] 24)=wx21 at *);(refine U1 15 0 rfl (fun K hK=>?_));(try clear hb);(go_simp);((go_at_call 98;refine (HMS.out _).mono ?_;rintro e wn ⟨rfl,hb⟩;(try (replace hT:=keepVZ hb hT));(try (replace hU:=keepVZ hb hU))));(refine hK.out _ _ (S2i0 (KKr2.out _ _ hb (S2o0 hH))) ?_);(clear hK K hH);(intro hH);(try simp only [Act.put,sA,sB,sC]);(refine U1 16 0 rfl (fun K hK=>?_));(try clear hb);(go_simp);((go_at_call 102;refine (HCL.out _).mono ?_;rintro e wn ⟨rfl,hb⟩;(try (replace hT:=keepVZ hb hT));(try (replace hU:=keepVZ hb hU))));(refine hK.out _ _ (S2i0 (KKr2.out _ _ hb (S2o0 hH))) ?_);(clear hK K hH);(intro hH);(try simp only [Act.put,sA,sB,sC]);(refine Utn [(17,88),(18,106)] 5 0 0 (L':=?Lr2_93) hWr2 hH ?yr2_93 ?_);(case yr2_93=>((iterate 2 apply tkC;rfl;kernel_rfl;intro w' hSw;clear hSw;(try simp only [sB,sC]);go_simp;(try with_reducible rfl));exact tkN));(simp only [sB,sC]);(refine Utn [(19,107),(20,108)] 3 1 0 (L':=?Lr2_95) hWr2 hH ?yr2_95 ?_);(case yr2_95=>((iterate 2 apply tkC;rfl;kernel_rfl;intro w' hSw;clear hSw;(try simp only [sB,sC]);go_simp;(try with_reducible rfl));exact tkN));(simp only [sB,sC]);(refine wpAnyU_lst (l':=tf 26 8388607) (by kernel_rfl) ?_);(try clear hb);(have hd0:(gT≠gX∧gT≠gW∧gT≠gN∧gT≠gR∧gT≠gS):=by omega);(have hd1:(gU≠gX∧gU≠gW∧gU≠gN∧gU≠gR∧gU≠gS):=by omega);(have hd2:w.heap.size≤gT∧w.heap.size≤gU∧gT≠gU∧gU≠gT:=by omega);(clear hlT hlU);(try clear hZT);(try clear hZU);(revert hH);(revert hd2);(revert hd1);(revert hd0);(revert hU);(revert hT);(revert gU);(revert gT);(revert wn);(exact hNr2.out)
            exact AllReadyU.nil
          exact AllReadyU.nil
        case prfr2 =>
          (intro wX gT gU hT hU hd0 hd1 hd2 hH);(have hWr2:Weaker (S2 (fun w'=>OS w gX gW gN gR gS s e wx wy n1 n2 r1 r2 s1 s2 w'∧w'.cell? ⟨bi,offi+k*2,none⟩=some (.int .i64 (p1))∧w'.cell? ⟨bi,offi+k*2+1,none⟩=some (.int .i64 (p2))∧w'.cell? ⟨bi,offi+j2*2,none⟩=some (.int .i64 (q1_))∧w'.cell? ⟨bi,offi+j2*2+1,none⟩=some (.int .i64 (q2_)))):=weaker2 _);(refine U1 23 1 rfl (fun K hK=>?_));(try clear hb);(have hG:=hH);(replace hG:=S2o0 hG;(try dsimp only at hG);have q0:=hG.1;have q1:=hG.2.1;have q2:=hG.2.2.1;have q3:=hG.2.2.2.1;have q4:=hG.2.2.2.2);(have HO:=hid q0);(have HT:=hid hT);(have HU:=hid hU);(clear hT hU q0 q1 q2 q3 q4);(obtain ⟨⟨_,_,z0,z1⟩,zf⟩:=HT.out);(have hgl:=lt_of_cell z0);(go_simp);(refine hK.out _ _ (S2i1) ?_);(clear hK K hH);(intro hH);(try simp only [Act.put,sA,sB,sC]);(obtain ⟨wy1,hwy⟩:∃ w',w'=(wX.setCell ⟨gT,0,none⟩ (.int .i64 u1)).setCell ⟨gT,1,none⟩ (.int .i64 u2):=⟨_,rfl⟩);(have KO:Hid (OS w gX gW gN gR gS s e wx wy n1 n2 r1 r2 s1 s2 wy1):=by show OS w gX gW gN gR gS s e wx wy n1 n2 r1 r2 s1 s2 _;rw [hwy];exact HO.out.off2 hd0 hd2.1 _ _);(have KT:Hid (Vm wy1 gT u1 u2):=by show Vm _ _ _ _;rw [hwy];exact Vm.new HT.out _ _);(have KU:Hid (VZ wy1 gU):=by show VZ _ _;rw [hwy];exact HU.out.off2 hd2.2.2.1 _ _);(try rw [← hwy] at hH);(rw [← hwy]);(clear hwy HO HT HU z0 z1 zf hgl);(refine U1 24 1 rfl (fun K hK=>?_));(obtain ⟨⟨_,_,z0,z1⟩,zf⟩:=KU.out);(have hgl:=lt_of_cell z0);(go_simp);(refine hK.out _ _ (S2i1) ?_);(clear hK K hH);(intro hH);(try simp only [Act.put,sA,sB,sC]);(obtain ⟨wy2,hwy⟩:∃ w',w'=(wy1.setCell ⟨gU,0,none⟩ (.int .i64 v1)).setCell ⟨gU,1,none⟩ (.int .i64 v2):=⟨_,rfl⟩);(have LO:Hid (OS w gX gW gN gR gS s e wx wy n1 n2 r1 r2 s1 s2 wy2):=by show OS w gX gW gN gR gS s e wx wy n1 n2 r1 r2 s1 s2 _;rw [hwy];exact KO.out.off2 hd1 hd2.2.1 _ _);(have LT:Hid (Vm wy2 gT u1 u2):=by show Vm _ _ _ _;rw [hwy];exact KT.out.off2 hd2.2.2.2 _ _);(have LU:Hid (Vm wy2 gU v1 v2):=by show Vm _ _ _ _;rw [hwy];exact Vm.new KU.out _ _);(rw [← hwy]);(clear hwy KO KT KU z0 z1 zf hgl);(refine Ut 25 21 0 1 1 (v:=?vr2_26) rfl hWr2 hH ?yr2_26 ?_);(case yr2_26=>(intro w' hSw;clear hSw;go_simp;try (with_reducible rfl)));(simp only [sB,sC]);(refine wpAnyU_done (by kernel_rfl) ?_ _ _);(refine NoPanic.normal ?_);(go_wp2_with fail);(go_meet);(exact ⟨gT,gU,rfl,rfl,rfl,LO.out,LT.out,LU.out,hd2.2.2.1,hd0,hd1,hd2.1,hd2.2.1⟩)
      case rest =>
        obtain ⟨gP,gQ,rfl,rfl,rfl,hos,hvp,hvq,hne,hap,haq,hlp,hlq⟩:=hcut
        have hOP:OP w gX gW gN gR gS s e wx wy n1 n2 r1 r2 s1 s2 gP gQ (u1,u2) (v1,v2) wc:=⟨hos,hvp,hvq,hne,hap,haq,hlp,hlq⟩
        clear hos hvp hvq hne hap haq hlp hlq hOS pi0 pi1 qi0 qi1 hbil HCL HMS htm2 hwk2 hi1 hi2 hi4 HIC
        go_upto_if 109 with fail
        have HOP:=hid hOP
        obtain ⟨seg,hseg⟩:∃ g,g=segZ ref inc e:=⟨_,rfl⟩
        rw [← hseg] at HSG2 HPR2
        clear hseg
        obtain ⟨⟨⟨g1,g2⟩,g3,g4⟩,ok⟩:=seg
        go_cut [21] from 109 to 120 (fun t wx_=>t = .bool ok∧OP w gX gW gN gR gS s e wx wy n1 n2 r1 r2 s1 s2 gP gQ (g1,g2) (g3,g4) wx_∧withinB 65536000 g1 g2=true∧withinB 65536000 g3 g4=true)
        case first =>
          clear HPR2 HDP HSI HII HS HMM hnb hid0 HK HPQ
          cases ok1 with
          | true =>
            have hse:=HSG2.out
            rw [if_pos rfl] at hse
            try dsimp only at hse
            have hcw2:=clp_within (p:=(u1,u2)) (q:=(v1,v2)) (a:=clpA (u1,u2) (s1,s2) (r1-s1,r2-s2)) (b:=clpA (v1,v2) (s1,s2) (r1-s1,r2-s2)) HCW.out.1 HCW.out.2
            change withinB 65536000 (clpZ (u1,u2) (v1,v2) (s1,s2) (r1-s1,r2-s2)).1.1.1 (clpZ (u1,u2) (v1,v2) (s1,s2) (r1-s1,r2-s2)).1.1.2=true∧withinB 65536000 (clpZ (u1,u2) (v1,v2) (s1,s2) (r1-s1,r2-s2)).1.2.1 (clpZ (u1,u2) (v1,v2) (s1,s2) (r1-s1,r2-s2)).1.2.2=true at hcw2
            rw [← hse] at HC2 hcw2
            change Hid (∀ w,Calls _ _ _ w (Ret (.tuple #[vecV g1 g2,vecV g3 g4,.bool ok]) w)) at HC2
            dsimp only at hcw2
            have HW2:=hid hcw2
            clear hse HSG2 hcw2 HCW hrw hsw HOP
            obtain ⟨wo,rfl⟩:∃ wo:World,wo=wc:=⟨_,rfl⟩
            go_upto_region 15 with fail
            (refine wp_region_noPanic ?_);(refine wp_region_U (S:=(S2 (fun w'=>OP w gX gW gN gR gS s e wx wy n1 n2 r1 r2 s1 s2 gP gQ (u1,u2) (v1,v2) w'))) (T:=(fun j=>[0,0,0,0,0,0,0,0,0,0,0,1].getD j 0)) (by kernel_rfl) (S2i0 (hOP.keep (Below.refl _ _).drew)) (fun hH=>?_));(have hWr3:Weaker (S2 (fun w'=>OP w gX gW gN gR gS s e wx wy n1 n2 r1 r2 s1 s2 gP gQ (u1,u2) (v1,v2) w')):=weaker2 _);(refine Utn [(0,111),(1,112),(2,113),(3,114),(4,115)] 9 0 0 (L':=?Lr3_1) hWr3 hH ?yr3_1 ?_);(case yr3_1=>((iterate 5 apply tkC;rfl;kernel_rfl;intro w' hSw;replace hSw:=S2o0 hSw;(try dsimp only at hSw);have q0:=hSw;obtain ⟨qa0_0,qa0_1,qa0_2,qa0_3,qa0_4,qa0_5,qa0_6,qa0_7⟩:=OP.cells q0;(try simp only [sB,sC]);go_simp;(try with_reducible rfl));exact tkN));(simp only [sB,sC]);(refine U1 5 0 rfl (fun K hK=>?_));(try clear hb);(go_simp);((go_at_call 98;refine (HMR.out _).mono ?_;rintro e wn ⟨rfl,hb⟩));(refine hK.out _ _ (S2i0 (by have hG:=hH;replace hG:=S2o0 hG;(try dsimp only at hG);have q0:=hG;exact OP.keep hb q0)) ?_);(clear hK K hH);(intro hH);(try simp only [Act.put,sA,sB,sC]);(refine U1 6 0 rfl (fun K hK=>?_));(try clear hb);(go_simp);((go_at_call 102;refine (HC2.out _).mono ?_;rintro e wn ⟨rfl,hb⟩));(refine hK.out _ _ (S2i0 (by have hG:=hH;replace hG:=S2o0 hG;(try dsimp only at hG);have q0:=hG;exact OP.keep hb q0)) ?_);(clear hK K hH);(intro hH);(try simp only [Act.put,sA,sB,sC]);(refine Utn [(7,110),(8,118)] 5 0 0 (L':=?Lr3_8) hWr3 hH ?yr3_8 ?_);(case yr3_8=>((iterate 2 apply tkC;rfl;kernel_rfl;intro w' hSw;clear hSw;(try simp only [sB,sC]);go_simp;(try with_reducible rfl));exact tkN));(simp only [sB,sC]);(refine Utn [(9,119),(10,120)] 3 1 0 (L':=?Lr3_10) hWr3 hH ?yr3_10 ?_);(case yr3_10=>((iterate 2 apply tkC;rfl;kernel_rfl;intro w' hSw;clear hSw;(try simp only [sB,sC]);go_simp;(try with_reducible rfl));exact tkN));(simp only [sB,sC]);(refine U1 11 1 rfl (fun K hK=>?_));(try clear hb);(have hG:=hH);(replace hG:=S2o0 hG;(try dsimp only at hG);have q0:=hG);(have HO:=hid q0);(obtain ⟨z0,z1,zf⟩:=q0.vp);(have hgl:=lt_of_cell z0);(clear q0);(go_simp);(refine hK.out _ _ (S2i1) ?_);(clear hK K hH);(intro hH);(try simp only [Act.put,sA,sB,sC]);(obtain ⟨wy1,hwy⟩:∃ w',w'=(wn.setCell ⟨gP,0,none⟩ (.int .i64 g1)).setCell ⟨gP,1,none⟩ (.int .i64 g2):=⟨_,rfl⟩);(have KO:Hid (OP w gX gW gN gR gS s e wx wy n1 n2 r1 r2 s1 s2 gP gQ (g1,g2) (v1,v2) wy1):=by show OP w gX gW gN gR gS s e wx wy n1 n2 r1 r2 s1 s2 gP gQ _ _ _;rw [hwy];exact HO.out.setP _ _);(try rw [← hwy] at hH);(rw [← hwy]);(clear hwy HO z0 z1 zf hgl);(refine U1 12 1 rfl (fun K hK=>?_));(obtain ⟨z0,z1,zf⟩:=KO.out.vq);(have hgl:=lt_of_cell z0);(go_simp);(refine hK.out _ _ (S2i1) ?_);(clear hK K hH);(intro hH);(try simp only [Act.put,sA,sB,sC]);(obtain ⟨wy2,hwy⟩:∃ w',w'=(wy1.setCell ⟨gQ,0,none⟩ (.int .i64 g3)).setCell ⟨gQ,1,none⟩ (.int .i64 g4):=⟨_,rfl⟩);(have LO:Hid (OP w gX gW gN gR gS s e wx wy n1 n2 r1 r2 s1 s2 gP gQ (g1,g2) (g3,g4) wy2):=by show OP w gX gW gN gR gS s e wx wy n1 n2 r1 r2 s1 s2 gP gQ _ _ _;rw [hwy];exact KO.out.setQ _ _);(rw [← hwy]);(clear hwy KO z0 z1 zf hgl);(refine Ut 13 21 0 1 1 (v:=?vr3_14) rfl hWr3 hH ?yr3_14 ?_);(case yr3_14=>(intro w' hSw;clear hSw;go_simp;try (with_reducible rfl)));(simp only [sB,sC]);(refine wpAnyU_done (by kernel_rfl) ?_ _ _);(refine NoPanic.normal ?_)
            go_wp2_with fail
            go_meet
            exact ⟨rfl,LO.out,HW2.out.1,HW2.out.2⟩
          | false =>
            have hse:=HSG2.out
            rw [if_neg (by simp)] at hse
            cases hse
            go_wp2_with fail
            go_meet
            exact ⟨rfl,HOP.out,HCW.out.1,HCW.out.2⟩
        case rest =>
          obtain ⟨rfl,hOP2,hgw1,hgw2⟩:=hcut
          clear HOP hOP HSG2 HCW HC2 HMR
          obtain ⟨ID,hID⟩:∃ z,z=(id0*8+(k:Int))*2:=⟨_,rfl⟩
          have hwI:IntKind.i64.wrap ID=ID:=IntWalk.i64_in _ (by omega)
          have hwI1:IntKind.i64.wrap (ID+1)=ID+1:=IntWalk.i64_in _ (by omega)
          have HFN:Hid (P=if ptsG ref e (wx,wy) ID (((g1,g2),g3,g4),ok) 2=[] then [ptA ref e (wx,wy) (cnP inc (fcTo inc n1 n2 inc.length)) ID] else ptsG ref e (wx,wy) ID (((g1,g2),g3,g4),ok) 2):=by rw [hID];exact HPR2.out
          have HG1:Hid (ptsG ref e (wx,wy) ID (((g1,g2),g3,g4),ok) 1=if ok=true∧0≤dptZ ref e g1 g2 then [((((g1,g2),(wx,wy)),(rdpZ ref e g1 g2,ID)):Pt)] else []):=rfl
          have HG2:Hid (ptsG ref e (wx,wy) ID (((g1,g2),g3,g4),ok) 2=ptsG ref e (wx,wy) ID (((g1,g2),g3,g4),ok) 1 ++ (if ok=true∧0≤dptZ ref e g3 g4∧((g3,g4):V)≠(g1,g2) then [((((g3,g4),(wx,wy)),(rdpZ ref e g3 g4,ID+1)):Pt)] else [])):=rfl
          have HGL:Hid ((ptsG ref e (wx,wy) ID (((g1,g2),g3,g4),ok) 1).length≤1):=by show _≤_;rw [HG1.out];split <;> simp
          rw [← hID]
          generalize ptsG ref e (wx,wy) ID (((g1,g2),g3,g4),ok) 1=G1 at *
          generalize ptsG ref e (wx,wy) ID (((g1,g2),g3,g4),ok) 2=G2 at *
          clear hID HPR2
          obtain ⟨wL,hwL⟩:∃ w',w'=wc.alloc (.cells #[.int .i64 g1,.int .i64 g2,.int .i64 g3,.int .i64 g4] 24):=⟨_,rfl⟩
          obtain ⟨gA,hgA⟩:∃ g,g=wc.heap.size:=⟨_,rfl⟩
          have A0:wL.cell? ⟨gA,0,none⟩=some (.int .i64 g1):=by rw [hwL,hgA];go_simp
          have A1:wL.cell? ⟨gA,1,none⟩=some (.int .i64 g2):=by rw [hwL,hgA];go_simp
          have A2:wL.cell? ⟨gA,2,none⟩=some (.int .i64 g3):=by rw [hwL,hgA];go_simp
          have A3:wL.cell? ⟨gA,3,none⟩=some (.int .i64 g4):=by rw [hwL,hgA];go_simp
          have HAA:=hid (And.intro A0 (And.intro A1 (And.intro A2 A3)))
          have HOPL:=hid (hOP2.keep (show Below wc.heap.size wc wL by rw [hwL];go_grown))
          obtain ⟨-,-,-,-,y0,y1,y2,y3⟩:=hOP2.cells
          clear A0 A1 A2 A3 hOP2
          dsimp only at y0 y1 y2 y3
          go_wp2
          rw [← hwL,← hgA]
          clear hwL hgA y0 y1 y2 y3
          go_loopw [22,125] (fun s i wr=>((i = .int .i64 0∧OwnE layPt 114 wr wL.heap.size s [])∨(i = .int .i64 1∧OwnE layPt 114 wr wL.heap.size s G1)∨(i = .int .i64 2∧OwnE layPt 114 wr wL.heap.size s G2))∧Below wL.heap.size wL wr) (fun _ i _=>2-(intOf i).toNat)
          case atStart=>exact ⟨.inl ⟨rfl,OwnE.nil _ _ _ _⟩,Below.refl _ _⟩
          case round =>
            obtain ⟨hcase,hB⟩:=hrel
            obtain ⟨wo,rfl⟩:∃ wo:World,wo=wr:=⟨_,rfl⟩
            rcases hcase with ⟨rfl,ho⟩ | ⟨rfl,ho⟩ | ⟨rfl,ho⟩
            · clear HG2
              have e_0:=keepCell hB HAA.out.1
              have e_1:=keepCell hB HAA.out.2.1
              have hgl:=lt_of_cell e_0
              have HO:=hid ho
              obtain ⟨wp,hwp⟩:∃ w',w'=wo.alloc (.cells #[.int .i64 g1,.int .i64 g2] 24):=⟨_,rfl⟩
              obtain ⟨gC,hgC⟩:∃ g,g=wo.heap.size:=⟨_,rfl⟩
              have p_0:wp.cell? ⟨gC,0,none⟩=some (.int .i64 g1):=by rw [hwp,hgC];go_simp
              have p_1:wp.cell? ⟨gC,1,none⟩=some (.int .i64 g2):=by rw [hwp,hgC];go_simp
              have hba:Below wo.heap.size wo wp:=by rw [hwp];go_grown
              replace hB:=keepBelow hba hB
              replace HO:=hid (HO.out.below hba)
              have HOPw:=hid (HOPL.out.keep hB)
              have hde:=cdeep_calls g1 g2 r1 r2 n1 n2 gR gN hgw1 hrw hnb.1 hnb.2 wp HOPw.out.os.a0 HOPw.out.os.a1 HOPw.out.os.ob.k0 HOPw.out.os.ob.k1
              rw [(HDP.out g1 g2).1,← (HDP.out g1 g2).1,(HDP.out g1 g2).2,(HDP.out g1 g2).1] at hde
              have HDE:=hid hde
              clear hde ho hba
              generalize dptZ ref e g1 g2=D0 at *
              generalize rdpZ ref e g1 g2=Z0 at *
              go_upto_region 20 with fail
              rw [← hwp,← hgC]
              clear hwp hgC e_0 e_1 hgl
              go_wp2_with fail
              refine HDE.out.mono ?_
              rintro e0 w5 ⟨rfl,hb5⟩
              replace p_0:=keepCell hb5 p_0
              replace p_1:=keepCell hb5 p_1
              replace hB:=keepBelow hb5 hB
              replace HO:=hid (HO.out.below hb5)
              clear HOPw
              have HOPw:=hid (HOPL.out.keep hB)
              obtain ⟨-,-,-,-,c_0,c_1,c_2,c_3⟩:=HOPw.out.cells
              have m_0:=HOPw.out.os.ob.oa.m0
              have m_1:=HOPw.out.os.ob.oa.m1
              clear hb5 HDE HOPw
              cases ok with
              | false =>
                have HO2:Hid (G1=[]):=by show _=_;rw [HG1.out,if_neg (fun h=>by cases h.1)]
                skip
                go_wp2
                go_roundw
                case rel=>exact ⟨.inr (.inl ⟨rfl,by rw [HO2.out];exact HO.out⟩),hB⟩
                case measure=>simp [intOf]
              | true =>
                by_cases hd:0≤D0
                · have HO2 : Hid (G1 = [(((g1, g2), (wx, wy)), (Z0, ID))]) := by show _ = _; rw [HG1.out, if_pos ⟨rfl, hd⟩]
                  have HBS:Hid (wL.heap.size≤w5.heap.size):=hB.size
                  go_wp2_with (at_builtin;refine wpList_append_E tyPt rfl _ _ rfl wL.heap.size _ _ rfl (HO.out.alloc _) w5.heap.size 0 1 1 [(((g1,g2),(wx,wy)),(Z0,ID))] rfl rfl (cells_pt (by go_simp) (by go_simp) (by go_simp) (by go_simp) (by go_simp) (by go_simp)) (by have:=HGL.out;simp;(try omega)) (by have:=HGL.out;simp;(try omega)) (by have:=HBS.out;simp;omega) ?_;intro v' w7 ho1 hg1 hat;have HO7:=hid ho1;have HB7:=hid ((hB.alloc hB.size _).grown hg1 (by have:=HBS.out;simp;omega) (fun k hk=>(HO.out.lt hk).1));clear ho1 hg1 hat)
                  go_roundw
                  case rel=>exact ⟨.inr (.inl ⟨rfl,by rw [HO2.out];exact HO7.out⟩),HB7.out⟩
                  case measure=>simp [intOf]
                · have HO2 : Hid (G1 = []) := by show _ = _; rw [HG1.out, if_neg (fun h => hd h.2)]
                  skip
                  go_wp2
                  go_roundw
                  case rel=>exact ⟨.inr (.inl ⟨rfl,by rw [HO2.out];exact HO.out⟩),hB⟩
                  case measure=>simp [intOf]
            · clear HG1
              have e_0:=keepCell hB HAA.out.2.2.1
              have e_1:=keepCell hB HAA.out.2.2.2
              have hgl:=lt_of_cell e_0
              have HO:=hid ho
              obtain ⟨wp,hwp⟩:∃ w',w'=wo.alloc (.cells #[.int .i64 g3,.int .i64 g4] 24):=⟨_,rfl⟩
              obtain ⟨gC,hgC⟩:∃ g,g=wo.heap.size:=⟨_,rfl⟩
              have p_0:wp.cell? ⟨gC,0,none⟩=some (.int .i64 g3):=by rw [hwp,hgC];go_simp
              have p_1:wp.cell? ⟨gC,1,none⟩=some (.int .i64 g4):=by rw [hwp,hgC];go_simp
              have hba:Below wo.heap.size wo wp:=by rw [hwp];go_grown
              replace hB:=keepBelow hba hB
              replace HO:=hid (HO.out.below hba)
              have HOPw:=hid (HOPL.out.keep hB)
              have hde:=cdeep_calls g3 g4 r1 r2 n1 n2 gR gN hgw2 hrw hnb.1 hnb.2 wp HOPw.out.os.a0 HOPw.out.os.a1 HOPw.out.os.ob.k0 HOPw.out.os.ob.k1
              rw [(HDP.out g3 g4).1,← (HDP.out g3 g4).1,(HDP.out g3 g4).2,(HDP.out g3 g4).1] at hde
              have HDE:=hid hde
              clear hde ho hba
              generalize dptZ ref e g3 g4=D1 at *
              generalize rdpZ ref e g3 g4=Z1 at *
              go_upto_region 20 with fail
              rw [← hwp,← hgC]
              clear hwp hgC e_0 e_1 hgl
              go_wp2_with fail
              refine HDE.out.mono ?_
              rintro e0 w5 ⟨rfl,hb5⟩
              replace p_0:=keepCell hb5 p_0
              replace p_1:=keepCell hb5 p_1
              replace hB:=keepBelow hb5 hB
              replace HO:=hid (HO.out.below hb5)
              clear HOPw
              have HOPw:=hid (HOPL.out.keep hB)
              obtain ⟨-,-,-,-,c_0,c_1,c_2,c_3⟩:=HOPw.out.cells
              have m_0:=HOPw.out.os.ob.oa.m0
              have m_1:=HOPw.out.os.ob.oa.m1
              clear hb5 HDE HOPw
              cases ok with
              | false =>
                have HO2:Hid (G2=G1):=by show _=_;rw [HG2.out,if_neg (fun h=>by cases h.1),List.append_nil]
                skip
                go_wp2
                go_roundw
                case rel=>exact ⟨.inr (.inr ⟨rfl,by rw [HO2.out];exact HO.out⟩),hB⟩
                case measure=>simp [intOf]
              | true =>
                by_cases hd:0≤D1
                · have HQ := run_eqV' g3 g4 g1 g2
                  obtain ⟨eb,heb⟩:∃ e,e=(g3 == g1 && g4 == g2):=⟨_,rfl⟩
                  rw [← heb] at HQ
                  have HE:Hid (eb=true↔((g3,g4):V)=(g1,g2)):=by show _↔_;rw [heb];simp
                  clear heb
                  cases eb with
                  | true =>
                    have HO2:Hid (G2=G1):=by show _=_;rw [HG2.out,if_neg (fun h=>h.2.2 (HE.out.1 rfl)),List.append_nil]
                    skip
                    go_wp2
                    go_roundw
                    case rel=>exact ⟨.inr (.inr ⟨rfl,by rw [HO2.out];exact HO.out⟩),hB⟩
                    case measure=>simp [intOf]
                  | false =>
                    have HO2:Hid (G2=G1 ++ [(((g3,g4),(wx,wy)),(Z1,ID+1))]):=by show _=_;rw [HG2.out,if_pos ⟨rfl,hd,fun h=>by have:=HE.out.2 h;cases this⟩]
                    have HBS:Hid (wL.heap.size≤w5.heap.size):=hB.size
                    go_wp2_with (at_builtin;refine wpList_append_E tyPt rfl _ _ rfl wL.heap.size _ _ rfl (HO.out.alloc _) w5.heap.size 0 1 1 [(((g3,g4),(wx,wy)),(Z1,ID+1))] rfl rfl (cells_pt (by go_simp) (by go_simp) (by go_simp) (by go_simp) (by go_simp) (by go_simp)) (by have:=HGL.out;simp;(try omega)) (by have:=HGL.out;simp;(try omega)) (by have:=HBS.out;simp;omega) ?_;intro v' w7 ho1 hg1 hat;have HO7:=hid ho1;have HB7:=hid ((hB.alloc hB.size _).grown hg1 (by have:=HBS.out;simp;omega) (fun k hk=>(HO.out.lt hk).1));clear ho1 hg1 hat)
                    go_roundw
                    case rel=>exact ⟨.inr (.inr ⟨rfl,by rw [HO2.out];exact HO7.out⟩),HB7.out⟩
                    case measure=>simp [intOf]
                · have HO2 : Hid (G2 = G1) := by show _ = _; rw [HG2.out, if_neg (fun h => hd h.2.1), List.append_nil]
                  skip
                  go_wp2
                  go_roundw
                  case rel=>exact ⟨.inr (.inr ⟨rfl,by rw [HO2.out];exact HO.out⟩),hB⟩
                  case measure=>simp [intOf]
            · have HO := hid ho
              have HBW:Hid (Below w.heap.size w wo):=HOPL.out.os.ob.oa.bel.trans (hB.mono HOPL.out.os.ob.oa.bel.size)
              have HOPw:=hid (HOPL.out.keep hB)
              have hLs:=HOPL.out.os.ob.oa.bel.size
              obtain ⟨Ao,no,co,rfl,hso,hfo⟩:=ho.sl
              have hno:=hso.len
              by_cases hG:G2=[]
              · have HFP := hid HFN.out
                subst hG
                simp at hno
                subst hno
                have HPF:=HFP.out
                rw [if_pos rfl] at HPF
                obtain ⟨hci,hi8,hi3,hwi⟩:=HII.out
                have hfl:=fcTo_lt inc n1 n2 inc.length (Nat.le_refl _) (by omega)
                have hsu:suppZ inc (-n1) (-n2)=(fcTo inc n1 n2 inc.length:Nat):=by unfold suppZ;rw [if_pos hci,fcTo_sup]
                have HSU:Hid (∀ w',Below w.heap.size w w'→Calls Tryz.prog 103 #[.slice (some ⟨bi,offi,none⟩) inc.length ci,vecV (-n1) (-n2)] w' (Ret (.int .i64 (fcTo inc n1 n2 inc.length:Nat)) w')):=fun w' h=>by
                  have:=support_calls (some ⟨bi,offi,none⟩) _ ci inc (-n1) (-n2) (by unfold i64;omega) (by unfold i64;omega) w' (HSI.out.below h)
                  rwa [hsu] at this
                obtain ⟨f,hf⟩:∃ f,f=fcTo inc n1 n2 inc.length:=⟨_,rfl⟩
                rw [← hf] at HSU hfl HPF
                have hxy:=allWithin_at hwi hfl
                have HFC:Hid (∀ w',Below w.heap.size w w'→bi<w'.heap.size∧w'.cell? ⟨bi,offi+f*2,none⟩=some (.int .i64 (px inc f))∧w'.cell? ⟨bi,offi+f*2+1,none⟩=some (.int .i64 (py inc f))):=fun w' h=>by
                  obtain ⟨b3,o3,hA,hC0⟩:=HSI.out.at_ (by intro h;rw [h] at hfl;simp at hfl)
                  cases hA
                  have hC:=hC0.below h
                  exact ⟨hC.lt,hC.x f hfl,hC.y f hfl⟩
                have HPX:Hid (P=[((((px inc f,py inc f),(wx,wy)),(rdpZ ref e (px inc f) (py inc f),ID)):Pt)]):=HPF
                generalize px inc f=xf at *
                generalize py inc f=yf at *
                have hw1:IntKind.i64.wrap (-n1) = -n1:=IntWalk.i64_in _ (by omega)
                have hw2:IntKind.i64.wrap (-n2) = -n2:=IntWalk.i64_in _ (by omega)
                have hfl':(f:Int)<(inc.length:Int):=by omega
                have kn0:=HOPw.out.os.ob.k0
                have kn1:=HOPw.out.os.ob.k1
                clear hci hi8 hi3 hwi hsu hf HPF HFP HFN ho hso hfo HG1 HG2 HGL
                go_wp2_with fail
                refine (HSU.out _ HBW.out).mono ?_
                rintro e0 w5 ⟨rfl,hb5⟩
                replace HOPw:=hid (HOPw.out.keep hb5)
                replace HO:=hid (HO.out.below hb5)
                replace HBW:=hid (keepBelow hb5 HBW.out)
                replace hB:=keepBelow hb5 hB
                obtain ⟨hbi,f_0,f_1⟩:=HFC.out _ HBW.out
                clear hb5 HSU kn0 kn1
                obtain ⟨wp,hwp⟩:∃ w',w'=w5.alloc (.cells #[.int .i64 xf,.int .i64 yf] 24):=⟨_,rfl⟩
                obtain ⟨gC,hgC⟩:∃ g,g=w5.heap.size:=⟨_,rfl⟩
                have p_0:wp.cell? ⟨gC,0,none⟩=some (.int .i64 xf):=by rw [hwp,hgC];go_simp
                have p_1:wp.cell? ⟨gC,1,none⟩=some (.int .i64 yf):=by rw [hwp,hgC];go_simp
                have hba:Below w5.heap.size w5 wp:=by rw [hwp];go_grown
                replace HOPw:=hid (HOPw.out.keep hba)
                replace HO:=hid (HO.out.below hba)
                replace hB:=keepBelow hba hB
                have hde:=cdeep_calls xf yf r1 r2 n1 n2 gR gN hxy hrw hnb.1 hnb.2 wp HOPw.out.os.a0 HOPw.out.os.a1 HOPw.out.os.ob.k0 HOPw.out.os.ob.k1
                rw [(HDP.out xf yf).2,(HDP.out xf yf).1] at hde
                have HDE:=hid hde
                clear hde hba
                generalize dptZ ref e xf yf=D at *
                generalize rdpZ ref e xf yf=Z at *
                go_upto_region 26 with fail
                rw [← hwp,← hgC]
                clear hwp hgC f_0 f_1 hbi
                go_wp2_with fail
                refine HDE.out.mono ?_
                rintro e0 w6 ⟨rfl,hb6⟩
                replace p_0:=keepCell hb6 p_0
                replace p_1:=keepCell hb6 p_1
                replace hB:=keepBelow hb6 hB
                replace HO:=hid (HO.out.below hb6)
                replace HOPw:=hid (HOPw.out.keep hb6)
                have m_0:=HOPw.out.os.ob.oa.m0
                have m_1:=HOPw.out.os.ob.oa.m1
                clear hb6 HDE
                have HBS:Hid (wL.heap.size≤w6.heap.size):=hB.size
                go_wp2_with (at_builtin;refine wpList_append_E tyPt rfl _ _ rfl wL.heap.size _ _ rfl (HO.out.alloc _) w6.heap.size 0 1 1 [((((xf,yf),(wx,wy)),(Z,ID)):Pt)] rfl rfl (cells_pt (by go_simp) (by go_simp) (by go_simp) (by go_simp) (by go_simp) (by go_simp)) (by simp) (by simp) (by have:=HBS.out;simp;omega) ?_;intro v' w7 ho1 hg1 hat;have HO7:=hid ho1;have HB7:=hid ((hB.alloc hB.size _).grown hg1 (by have:=HBS.out;simp;omega) (fun k hk=>(HO.out.lt hk).1));clear ho1 hg1 hat)
                obtain ⟨A9,n9,c9,rfl,hs9,hf9⟩:=HO7.out.sl
                refine bodyPost_ret (v:=.slice A9 n9 c9) (by simp [results,Tryz.results41,go_sem]) rfl ⟨A9,n9,c9,rfl,by rw [HPX.out];exact hs9,fun b off h=>Nat.le_trans hLs (hf9 b off h),HOPL.out.os.ob.oa.bel.trans (HB7.out.mono hLs)⟩
              · have HFP := HFN.out
                rw [if_neg hG] at HFP
                have HR:Hid (RetPt P w (.returned (.slice Ao no co)) wo):=⟨Ao,no,co,rfl,by rw [HFP];exact hso,fun b off h=>Nat.le_trans hLs (hfo b off h),HBW.out⟩
                subst hno
                have hne:((G2.length:Int) == 0)=false:=by simp [hG]
                clear ho hso hfo HFP HFN HG1 HG2 HGL HOPw HO hB
                go_wp2
                refine bodyPost_ret (v:=.slice Ao G2.length co) (by simp [results,Tryz.results41,go_sem]) rfl HR.out
end
end Go.Proofs.YtodpincpofoiiaaGreat
