/- Parts of a proof: contracts and laws. -/
import Derived.Test.YtokgmcomgflloaaGreatQP46
import Derived.Deep.WholeRow
import Derived.Test.YtokgmcomgflloaaGreatQP03
import Derived.Test.YtokgmcomgflloaaGreatQP23
import Derived.Test.YtokgmcomgflloaaGreatQP07
import Derived.Test.YtokgmcomgflloaaGreatQP02
import Derived.BigQuiet
set_option maxRecDepth 100000
set_option maxHeartbeats 16000000
namespace Go.Proofs.YtokgmcomgflloaaGreat
section
set_option linter.unusedVariables false
set_option linter.unusedSimpArgs false
open Go.RowKit Go.Sort Go.Lib
variable {w0 w w':World}
theorem yR (p q:Nat × Nat) (W:World):Calls Tryz.prog 85 #[.agg #[.int .i64 p.1,.int .i64 p.2],.agg #[.int .i64 q.1,.int .i64 q.2]] W fun e w'=>e = .returned (.int .i64 (dR p q))∧∃ k os,w'=grow (W.drewN k) os:=by
 have HZ:Hid (dR p q=if Lib.compareInt p.1 q.1=0 then Lib.compareInt p.2 q.2 else Lib.compareInt p.1 q.1):=rfl;have HC1:=hid (jw (p.1:Int) (q.1:Int));have HC2:=hid (jw (p.2:Int) (q.2:Int));generalize dR p q=Z at *
 generalize Lib.compareInt (p.1:Int) (q.1:Int)=r at *
 generalize Lib.compareInt (p.2:Int) (q.2:Int)=s at *
 obtain ⟨x1,hx1⟩:∃ z:Int,z=p.1:=⟨_,rfl⟩;obtain ⟨x2,hx2⟩:∃ z:Int,z=p.2:=⟨_,rfl⟩;obtain ⟨y1,hy1⟩:∃ z:Int,z=q.1:=⟨_,rfl⟩;obtain ⟨y2,hy2⟩:∃ z:Int,z=q.2:=⟨_,rfl⟩;rw [← hx1,← hx2,← hy1,← hy2];rw [← hx1,← hy1] at HC1;rw [← hx2,← hy2] at HC2;clear hx1 hx2 hy1 hy2;obtain ⟨wd,hwd⟩:∃ wd,wd=((W.alloc (.cells #[.int .i64 x1,.int .i64 x2] 72)).alloc (.cells #[.int .i64 y1,.int .i64 y2] 72)).drew:=⟨_,rfl⟩;have a0:wd.cell? ⟨W.heap.size,0,none⟩=some (.int .i64 x1):=by rw [hwd];go_simp
 have a1:wd.cell? ⟨W.heap.size,1,none⟩=some (.int .i64 x2):=by rw [hwd];go_simp
 have a2:wd.cell? ⟨W.heap.size+1,0,none⟩=some (.int .i64 y1):=by rw [hwd];go_simp
 have a3:wd.cell? ⟨W.heap.size+1,1,none⟩=some (.int .i64 y2):=by rw [hwd];go_simp
 have HWD:=hid hwd;clear hwd
 go_enter Tryz.func85,Tryz.ntmps85
 go_upto_region 1 with fail
 refine wp_region_noPanic ?_;refine au (S:=(S2 (fun w'=>w'=wd))) (T:=(fun j=>[0,0,0,0,0,0,0,0,0,0,1].getD j 0)) (by kernel_rfl) (aK HWD.out.symm) (fun hH=>?_);have hWr3:aG (S2 (fun w'=>w'=wd)):=aI _;refine dG [(0,5),(1,6),(2,7),(3,8),(5,10),(6,11),(7,12),(8,13)] 5 0 0 (L':=?Lr3_1) hWr3 hH ?hyr3_1 ?_
 case hyr3_1=>((iterate 8 apply dF;rfl;kernel_rfl;intro w' hSw;replace hSw:=aB hSw;(try dsimp only at hSw);have q0:=hSw;subst q0;(try simp only [sB,sC]);go_simp;(try with_reducible rfl));exact dD)
 simp only [sB,sC];refine U1 4 0 rfl (fun K hK=>?_);go_simp
 (go_at_call 75;refine (HC1.out _).mono ?_;rintro e wn ⟨rfl,rfl⟩)
 refine hK.out _ _ ?hsr3_9 (fun hH2=>?hrr3_9)
 case hsr3_9=>exact aK (by have hG:=hH;replace hG:=aB hG;(try dsimp only at hG);have q0:=hG;exact q0)
 clear hK K hH;have hH:=hH2;clear hH2
 try simp only [Act.put,sA,sB,sC]
 refine U1 9 0 rfl (fun K hK=>?_);go_simp
 (go_at_call 75;refine (HC2.out _).mono ?_;rintro e wn ⟨rfl,rfl⟩)
 refine hK.out _ _ ?hsr3_10 (fun hH2=>?hrr3_10)
 case hsr3_10=>exact aK (by have hG:=hH;replace hG:=aB hG;(try dsimp only at hG);have q0:=hG;exact q0)
 clear hK K hH;have hH:=hH2;clear hH2
 try simp only [Act.put,sA,sB,sC]
 refine U1 10 1 rfl (fun K hK=>?_);have hG:=hH;replace hG:=aB hG;(try dsimp only at hG);have q0:=hG;subst q0;go_simp;refine hK.out _ _ ?hsr3_11 (fun hH2=>?hrr3_11)
 case hsr3_11=>exact gV
 clear hK K hH;have hH:=hH2;clear hH2
 try simp only [Act.put,sA,sB,sC]
 refine U1 11 1 rfl (fun K hK=>?_);go_simp
 (go_at_call 80;refine (tY _ _ r s _ (by go_simp) (by go_simp)).mono ?_;rw [← HZ.out];rintro e wn ⟨rfl,rfl⟩)
 refine hK.out _ _ ?hsr3_12 (fun hH2=>?hrr3_12)
 case hsr3_12=>exact gV
 clear hK K hH;have hH:=hH2;clear hH2
 try simp only [Act.put,sA,sB,sC]
 refine Ut 12 4 0 1 1 (v:=?vr3_13) rfl hWr3 hH ?hyr3_13 ?_
 case hyr3_13=>(intro w' hSw;clear hSw;go_simp;try (with_reducible rfl))
 simp only [sB,sC];refine ak (by kernel_rfl) ?_ _ _;refine NoPanic.normal ?_;clear hH;go_wp2
 go_returns
 refine ⟨rfl,?_⟩;exact ⟨1,_,by rw [alloc_eq_grow,alloc_eq_grow,alloc_eq_grow];show grow (grow (grow W.drew _) _) _=_;rw [grow_grow,grow_grow];rfl⟩
theorem Qb (args:Array Value) (w:World):(callFunc 85 args).run Tryz.prog w = .ok (.enter 85 args) w:=by kernel_rfl
theorem sS (o:List (Nat × Nat)) (B:Nat) (s:Value) (w:World) (hs:aN aJ 72 w B s o) (hl:o.length≤1000000) :
  Calls Tryz.prog 78 #[s,.func (.func 85) #[] #[]] w fun e w'=>e = .returned (.tuple #[])∧(∃ o':List (Nat × Nat),o'.Perm o∧o'.Pairwise (fun p q=>¬ dR q p<0)∧aN aJ 72 w' B s o')∧w.grownBy w' s.ownBlock:=by
 rcases hs.form with ⟨rfl,h0⟩ | ⟨g,cap,rfl,hB,hg,hn,hm,hf,hcl⟩
 ·refine (AnyF.slices_SortFunc_none lM none 0 _ w).mono ?_;rintro e w' ⟨rfl,rfl⟩;rw [h0] at hs ⊢;exact ⟨rfl,⟨[],List.Perm.refl _,List.Pairwise.nil,hs⟩,⟨rfl,rfl,rfl,Nat.le_refl _,fun _ _ _=>rfl⟩⟩
 ·have hH := hs.holds;have hcmp:CmpLays Tryz.prog 85 #[] aJ.enc 2 dR g 0 o.toArray.size w:=fun m os dk hdk x y=>yR x y _
  have hO:SWO (ltOf dR):=by
   have e:∀ x y,ltOf dR x y=decide (xJ x y):=fun x y=>by
    unfold ltOf;rw [decide_eq_decide,mR]
   refine ⟨fun x=>?_,fun x y z h1 h2=>?_,fun x y z h1 h2=>?_⟩
   ·rw [e];exact decide_eq_false jJ
   ·rw [e] at *;exact decide_eq_true (sQ (of_decide_eq_true h1) (of_decide_eq_true h2))
   ·rw [e] at *
    have a:=of_decide_eq_false h1;have b:=of_decide_eq_false h2;refine decide_eq_false ?_;unfold xJ at *
    omega
  have hlen:o.length=o.toArray.size:=by simp
  have hsz2:o.toArray.size≤1000000:=by rw [← hlen];exact hl
  have hcon:=AnyQ.slices_SortFunc lM 2 Tryz.isAgg72 Tryz.sizeOf72 aJ.enc aJ.hk aJ.one dR hO 85 #[] g 0 cap o.toArray w Qb hcmp hH hg (by omega);rw [hlen];refine Calls.mono hcon ?_;rintro e w' ⟨rfl,d',m,os,hp,hsd,rfl⟩;obtain ⟨p1,p2⟩:=nZ hp;have hso:SortedIn (ltOf dR) 0 d'.size d':=by rw [p2];exact hsd
  have hpw:=lN hso;rw [hlen] at hs;refine ⟨rfl,⟨d'.toList,p1,?_,hs.sorted d' (by rw [p2];simp)⟩,fU (L:=aJ) d'⟩;refine hpw.imp fun {x y} h=>?_
  unfold ltOf at h;rwa [decide_eq_false_iff_not] at h

def QG (s:TS):List Value:=(List.range 256).map fun i=>Value.pointer (s.lv i)
def QM (s:TS):Array Value:=(QG s).toArray
theorem Nq {s:TS} {k:Nat} (hk:k<256):(QG s)[k]? = some (.pointer (s.lv k)):=by
 unfold QG;rw [List.getElem?_map,List.getElem?_range hk];rfl
theorem GZ {g:Nat} {s:TS} (h:Mem w g s):(loadCellsFrom ⟨g,1,none⟩ 0 256 #[]).run Tryz.prog w = .ok (QM s) w:=by
 have:=run_loadCells_list (P:=Tryz.prog) w ⟨g,1,none⟩ (QG s) (fun j v hv=>by
  have hj:j<256:=by
   rcases Nat.lt_or_ge j 256 with q | q
   ·exact q
   ·rw [List.getElem?_eq_none (by simp [QG];omega)] at hv;cases hv
  have hadd:(⟨g,1,none⟩:Addr).add j=⟨g,1+j,none⟩:=by unfold Addr.add;split <;> simp_all
  rw [Nq hj] at hv;rw [hadd]
  cases hv
  exact h.lv j hj)
 have hl:(QG s).length=256:=by simp [QG]
 rw [hl] at this;exact this
theorem MO:(Tryz.prog.info? 109).map (fun i=>(i.size))=some 1:=by kernel_rfl
theorem Nb (s:TS) {k:Nat} (hk:k<256) (w:World):(Instr.index 110 (.agg (QM s)) (.int .i64 (k:Nat))).run Tryz.prog w = .ok (.pointer (s.lv k)) w:=by
 obtain ⟨i0,hi,hz1⟩:=Option.map_eq_some_iff.1 MO;have h0:=Nq (s:=s) hk;have h1:(QM s)[k]? = some (.pointer (s.lv k)):=by unfold QM;rw [List.getElem?_toArray];exact h0
 simp [Instr.index,run_underlying Tryz.underlying110,asAgg,asInt,asIntOf,go_sem,sizeOf,typeInfo,Tryz.isAgg109,hi,hz1,h1];exact fun q=>absurd hk (by omega)
theorem Gq {g:Nat} {s:TS} (h:Mem w g s):(Instr.loadAt 110 (.pointer (some ⟨g,1,none⟩))).run Tryz.prog w = .ok (.agg (QM s)) w:=by
 obtain ⟨i0,hi,hz1⟩:=Option.map_eq_some_iff.1 (show (Tryz.prog.info? 110).map (fun i=>i.size)=some 256 by kernel_rfl);have hl:=GZ h;have ha:(isAgg 110).run Tryz.prog w = .ok true w:=by go_simp
 have hs:(sizeOf 110).run Tryz.prog w = .ok 256 w:=by simp [sizeOf,typeInfo,hi,hz1]
 simp only [Instr.loadAt,Instr.sureAddr,Sem.run_bind,Sem.run_pure,Result.andThen];simp only [loadVar,Sem.run_bind,ha,Result.andThen_ok,if_true,hs,loadCells,hl,Sem.run_pure]

def Gi (F:Nat→Option Bx) (tch:Bx→Bx→Bool) (n:Nat):List (Nat × Nat):=match F n with
 | some b=>((mD F (fun x=>tch x b)).filter fun k=>decide (n<k)).map fun k=>(n,k)
 | none=>[]
theorem vV (F:Nat→Option Bx) (tch:Bx→Bx→Bool) (n:Nat):ji F tch (n+1)=ji F tch n ++ Gi F tch n:=by
 unfold ji;rw [List.range_succ,List.flatMap_append,List.flatMap_cons,List.flatMap_nil,List.append_nil];rfl
theorem M6 (F:Nat→Option Bx) (tch:Bx→Bx→Bool) (n:Nat):(Gi F tch n).length≤256:=by
 unfold Gi
 cases F n with
 | none=>exact Nat.zero_le _
 | some b =>
  show (((mD F (fun x=>tch x b)).filter fun k=>decide (n<k)).map fun k=>(n,k)).length≤256;rw [List.length_map];refine Nat.le_trans (List.length_filter_le _ _) ?_;unfold mD;exact Nat.le_trans (List.length_filter_le _ _) (by simp)
theorem Ai (F : Nat → Option Bx) (tch : Bx → Bx → Bool) : ∀ n, (ji F tch n).length ≤ n * 256
 | 0=>Nat.le_refl _
 | n+1=>by
  have ih:=Ai F tch n
  have h2:=M6 F tch n
  rw [vV,List.length_append]
  omega
theorem Js {o:Oper} {a:Act} {w:World} {K:Act→World→Prop} {Q:Exit→Act→World→Prop} {t:TypeId} {x:Operand} (ho:o.op=Op.load t x) {v:Value} (hl:(Instr.loadAt t (a.eval x)).run Tryz.prog w = .ok v w) (h:K (a.put o.dst v) w):o.wp Tryz.prog a w K Q:=by
 unfold Oper.wp execOp;simp only [ho,Sem.run_bind,hl,Result.andThen_ok,Sem.run_pure,Oper.upon_value];exact h
def KR (P:List (Nat × Nat)) (w:World) (e:Ending) (w':World):Prop:=∃ A n c,e = .returned (.slice A n c)∧dN aJ w' A n c P∧Below w.heap.size w w'

structure PT (w0 : World) (s : Value) (o : List (Nat × Nat)) (w : World) : Prop where
 own:aN aJ 72 w w0.heap.size s o
 bel:Below w0.heap.size w0 w
theorem PT.keep {s:Value} {o:List (Nat × Nat)} {w w':World} (hb:Below w.heap.size w w') (h:PT w0 s o w):PT w0 s o w':=⟨h.own.below hb,aj hb h.bel⟩
theorem PT.app {s s':Value} {o o':List (Nat × Nat)} {w w':World} (h:PT w0 s o w) (ho:aN aJ 72 w' w0.heap.size s' o') (hg:w.grownBy w' s.ownBlock):PT w0 s' o' w' :=
 ⟨ho,h.bel.grown hg h.bel.size (fun k hk=>(h.own.lt hk).1)⟩
theorem aM.natB {b off:Nat} {l:List Nat} (h:aM bJ w b off l) {k x:Nat} (hk:k<l.length) (hx:x=l[k]):w.cell? ⟨b,off+k,none⟩=some (.int .i64 (x:Nat)):=by
 subst hx;have:=h.at_ k hk 0 _ rfl;simpa [bJ] using this
theorem dN.grownB {α:Type} {L:Lay α} {w w':World} {A:Option Addr} {n c:Nat} {l:List α} {row:Option Nat} (h:dN L w A n c l) (hg:w.grownBy w' row) (hne:∀ b off,A=some ⟨b,off,none⟩→some b≠row):dN L w' A n c l :=
 ⟨h.len,h.cap,h.big,fun q=>by
  obtain ⟨b,off,e,hC⟩:=h.at_ q
  exact ⟨b,off,e,Nat.lt_of_lt_of_le hC.lt hg.size,fun j hj i u hu=>hg.cell (hC.at_ j hj i u hu) (hne b off e)⟩⟩

structure PI (w0 w : World) (s : Value) (o : List (Nat × Nat)) (A : Option Addr) (n c : Nat) (R : List Nat) : Prop where
 own:aN aJ 72 w w0.heap.size s o
 bel:Below w0.heap.size w0 w
 sl:dN bJ w A n c R
 ne:∀ kk b off,s.ownBlock=some kk→A=some ⟨b,off,none⟩→kk≠b
theorem PI.app {s s':Value} {o o':List (Nat × Nat)} {A:Option Addr} {n c:Nat} {R:List Nat} (h:PI w0 w s o A n c R) (ob:Obj) (ho:aN aJ 72 w' w0.heap.size s' o') (hg:(w.alloc ob).grownBy w' s.ownBlock) (hat:s'.ownBlock=s.ownBlock∨s'.ownBlock=some (w.alloc ob).heap.size) (hn:R≠[]):PI w0 w' s' o' A n c R:=by
 have hb:Below w.heap.size w (w.alloc ob):=by go_grown
 refine ⟨ho,(aj hb h.bel).grown hg (aj hb h.bel).size (fun k hk=>(h.own.lt hk).1),(h.sl.below hb).grownB hg (fun b off e q=>h.ne b b off q.symm (by exact e) rfl),fun kk b off h1 h2=>?_⟩
 rcases hat with e | e
 ·exact h.ne kk b off (by rw [← e];exact h1) h2
 ·rw [e] at h1
  cases h1
  obtain ⟨b',off',e',hC⟩:=h.sl.at_ hn;rw [h2] at e'
  cases e'
  have h3:=hC.lt;have h4:=hb.size;omega
theorem BO {g:Nat} {s:TS} {T:Option TB} (h:Mem w g s) (hW:WF s T):Calls Tryz.prog 33 #[.pointer (pA g)] w (KR (ji (sK T) dY 256) w):=by
 have hL1:=Gq h;have hL2:=GZ h;have HMM:=hid h;have HWF:=hid hW;have lg:=h.lt;obtain ⟨arr,harr⟩:∃ x,x=QM s:=⟨_,rfl⟩;rw [← harr] at hL1 hL2;have HIX:Hid (∀ k,k<256→∀ w,(Instr.index 110 (.agg arr) (.int .i64 (k:Nat))).run Tryz.prog w = .ok (.pointer (s.lv k)) w):=fun k hk w=>by rw [harr];exact Nb s hk w
 obtain ⟨F,hF⟩:∃ F,F=sK T:=⟨_,rfl⟩;rw [← hF];have HF:=hid hF;have HP0:Hid (PT w (.slice none 0 0) (ji F dY 0) w):=⟨aN.nil _ _ _ _,Below.refl _ _⟩;clear h hW harr hF
 go_enter Tryz.func33,Tryz.ntmps33
 go_wp2_with fail
 refine Js rfl hL1 ?_;go_wp2
 go_loopw [3,12] (fun o j wr=>∃ k:Nat,k≤256∧j = .int .i64 k∧Hid (PT w o (ji F dY k) wr)) (fun _ j _=>256-(intOf j).toNat)
 case atStart=>exact ⟨0,Nat.zero_le _,rfl,HP0⟩
 case round =>
  clear HP0 hL1 hL2;obtain ⟨k,hk,rfl,HK⟩:=hrel;obtain ⟨wo,rfl⟩:∃ wo:World,wo=wr:=⟨_,rfl⟩;have HM1:=hid (HMM.out.below HK.out.bel);have lg1:=HM1.out.lt
  by_cases hlt:k<256
  ·have hIX := HIX.out k hlt wo;have hlt':(k:Int)<256:=by omega
   have hwk:IntKind.i64.wrap ((k:Int)+1)=(k:Int)+1:=IntWalk.i64_in _ (by omega);obtain ⟨a,ha⟩:∃ a,a=s.lv k:=⟨_,rfl⟩;rw [← ha] at hIX;have HA:=hid ha;clear ha
   cases a with
   | none =>
    have hF0:F k=none:=by rw [HF.out];exact (vD HWF.out hlt).2 HA.out.symm
    have HN:Hid (PT w u3 (ji F dY (k+1)) wo):=by
     show PT _ _ _ _;rw [vV,show Gi F dY k=[] by unfold Gi;rw [hF0],List.append_nil];exact HK.out
    clear HK HM1 HA hF0 lg lg1;go_wp2;go_roundw
    case rel=>exact ⟨k+1,hlt,by go_num,HN⟩
    case measure=>simp [intOf];omega
   | some p =>
    have hsm:sK T k≠none:=fun q=>by
     have h1:=(vD HWF.out hlt).1 q;have:=HA.out;rw [h1] at this
     cases this
    rcases hbx:sK T k with _ | b
    ·exact absurd hbx hsm
    ·obtain ⟨g1, t, hT, hlv, hmem⟩ := Mc HWF.out hbx
     have hp:p=⟨g1,0,none⟩:=by
      have:=HA.out;rw [hlv] at this;exact Option.some.inj this
     subst hp
     obtain ⟨up,hnd⟩:∃ up,s.nd g1=some ⟨b,((k:Nat):Int),0,up,none,none⟩:=by
      have hW2:=HWF.out;rw [hT] at hW2;obtain ⟨h1,h2,-,-⟩:=hW2.root;obtain ⟨D,-,d2,-⟩:=oU t [] hmem h2 ⟨rfl,h1⟩;exact ⟨_,d2⟩
     have hn:=HM1.out.nd _ _ hnd;obtain ⟨⟨b1,b2⟩,b3,b4⟩:=b;obtain ⟨c0,c1,c2,c3,-⟩:=hn.cells;have lg2:=lt_of_cell c0;have hFk:F k=some ((b1,b2),(b3,b4)):=by rw [HF.out];exact hbx
     have HRW:Hid (Gi F dY k=((mD F (fun x=>dY x ((b1,b2),(b3,b4)))).filter fun j=>decide (k<j)).map fun j=>(k,j)):=by
      show _=_;unfold Gi;rw [hFk]
     have HMT:=hid (Dt HM1.out HWF.out b1 b2 b3 b4);rw [← HF.out] at HMT;have HRL:Hid ((mD F (fun x=>dY x ((b1,b2),(b3,b4)))).length≤256∧∀ x ∈ mD F (fun x=>dY x ((b1,b2),(b3,b4))),x<256):=⟨by unfold mD;exact Nat.le_trans (List.length_filter_le _ _) (by simp),fun x hx=>(vJ.1 hx).1⟩;have HPL:=hid (Ai F dY k);have HMT:Hid (Calls Tryz.prog 84 #[.pointer (pA g),pJ ((b1,b2),(b3,b4))] wo (fun e w'=>∃ A n c,e = .returned (.slice A n c)∧dN bJ w' A n c (mD F (fun x=>dY x ((b1,b2),(b3,b4))))∧(∀ b off,A=some ⟨b,off,none⟩→wo.heap.size≤b)∧Below wo.heap.size wo w')):=HMT.out;generalize mD F (fun x=>dY x ((b1,b2),(b3,b4)))=R at *
     clear hsm hbx hT hlv hmem hnd hn hFk HA HM1 lg1
     go_wp2_with fail
     refine HMT.out.mono ?_;rintro e w2 ⟨A,n,c,rfl,hs,hfr,hb⟩;obtain rfl:n=R.length:=hs.len;have HI0:Hid (PI w w2 u3 (ji F dY k ++ ((R.take 0).filter fun j=>decide (k<j)).map fun j=>(k,j)) A R.length c R):=⟨by simpa using HK.out.own.below hb,(HK.out.keep hb).bel,hs,fun kk b off h1 h2=>by have:=(HK.out.own.lt h1).2;have:=hfr b off h2;omega⟩;clear HMT hs hfr hb HK c0 c1 c2 c3 lg2 lg;go_wp2
     go_loopw [3,25] (fun o j wr=>∃ m:Nat,m≤R.length∧j = .int .i64 m∧Hid (PI w wr o (ji F dY k ++ ((R.take m).filter fun j=>decide (k<j)).map fun j=>(k,j)) A R.length c R)) (fun _ j _=>R.length-(intOf j).toNat)
     case atStart=>exact ⟨0,Nat.zero_le _,rfl,HI0⟩
     case round =>
      clear HI0;obtain ⟨m,hm,rfl,HI⟩:=hrel;obtain ⟨wi,rfl⟩:∃ wi:World,wi=wr:=⟨_,rfl⟩
      by_cases hml:m<R.length
      ·obtain ⟨x, hx⟩ : ∃ x, x = R[m] := ⟨_, rfl⟩;have hx256:x<256:=by rw [hx];exact HRL.out.2 _ (List.getElem_mem hml)
       obtain ⟨bb,off,hA,hC⟩:=HI.out.sl.at_ (by intro h;rw [h] at hml;simp at hml);subst hA;have d0:=hC.natB hml hx;have ld:=lt_of_cell d0;have hml':(m:Int)<(R.length:Int):=by omega
       have hwm:IntKind.i64.wrap ((m:Int)+1)=(m:Int)+1:=IntWalk.i64_in _ (by have:=HRL.out.1;omega);have HTK:Hid (R.take (m+1)=R.take m ++ [x]):=by show _=_;rw [List.take_succ_eq_append_getElem hml,hx]
       have HLN:Hid ((ji F dY k ++ ((R.take m).filter fun j=>decide (k<j)).map fun j=>(k,j)).length≤100000):=by
        show _≤_;rw [List.length_append,List.length_map];have h1:=List.length_filter_le (fun j=>decide (k<j)) (R.take m);rw [List.length_take] at h1;have h2:=HPL.out;have h3:=HRL.out.1;omega
       clear hC hx
       by_cases hgt:k<x
       ·have hgt' : (x : Int) > (k : Int) := by omega
        have HNX:Hid ((ji F dY k ++ ((R.take (m+1)).filter fun j=>decide (k<j)).map fun j=>(k,j))=(ji F dY k ++ ((R.take m).filter fun j=>decide (k<j)).map fun j=>(k,j)) ++ [(k,x)]):=by
         show _=_;rw [HTK.out,List.filter_append,List.map_append,← List.append_assoc];simp [hgt]
        generalize (ji F dY k ++ ((R.take m).filter fun j=>decide (k<j)).map fun j=>(k,j))=O at *
        have hwlt:w.heap.size≤wi.heap.size:=HI.out.bel.size
        go_wp2_with (at_builtin;refine fq Ko rfl _ _ rfl w.heap.size _ _ rfl (HI.out.own.alloc _) wi.heap.size 0 1 1 [(k,x)] rfl rfl (wL (by go_simp) (by go_simp)) (by have:=HLN.out;simp;omega) (by have:=HLN.out;simp;omega) (by simp;omega) ?_;intro v' w7 ho1 hg1 hat;have HI7:=hid (HI.out.app _ ho1 hg1 hat (by intro h;rw [h] at hml;simp at hml));clear ho1 hg1 hat)
        clear HI;go_roundw
        case rel=>exact ⟨m+1,hml,by go_num,by rw [HNX.out];exact HI7⟩
        case measure=>simp [intOf];omega
       ·have hgt' : ¬ (x : Int) > (k : Int) := by omega
        have HNX:Hid ((ji F dY k ++ ((R.take (m+1)).filter fun j=>decide (k<j)).map fun j=>(k,j))=(ji F dY k ++ ((R.take m).filter fun j=>decide (k<j)).map fun j=>(k,j))):=by
         show _=_;rw [HTK.out,List.filter_append];simp [hgt]
        clear HLN;go_wp2;go_roundw
        case rel=>exact ⟨m+1,hml,by go_num,by rw [HNX.out];exact HI⟩
        case measure=>simp [intOf];omega
      ·have hme : m = R.length := by omega
       subst hme
       have HN:Hid (PT w u3 (ji F dY (k+1)) wi):=by
        have h1:=HI.out;rw [List.take_length] at h1;show PT _ _ _ _;rw [vV,HRW.out];exact ⟨h1.own,h1.bel⟩
       clear HI HRW HRL HPL;go_wp2;go_roundw
       case rel=>exact ⟨k+1,hlt,by go_num,HN⟩
       case measure=>simp [intOf];omega
  ·have hke : k = 256 := by omega
   subst hke;have HPL:=hid (Ai F dY 256);have HLW:Hid (∀ r:List (Nat × Nat),r.Perm (ji F dY 256)→(r.Pairwise fun p q=>¬ dR q p<0)→r=ji F dY 256):=fun r h1 h2=>Ot h1 h2
   have HSO:=hid (sS (ji F dY 256) w.heap.size u3 wo HK.out.own (by have:=HPL.out;omega));generalize ji F dY 256=P at *
   clear HIX HPL HM1 lg lg1
   go_wp2_with fail
   refine HSO.out.mono ?_;rintro e w3 ⟨rfl,⟨o',hp,hpw,ho'⟩,hg⟩;have hR:=HLW.out o' hp hpw;subst hR;have hB3:=HK.out.bel.grown hg HK.out.bel.size (fun kk hk=>(HK.out.own.lt hk).1);obtain ⟨A9,n9,c9,rfl,hsl,-⟩:=ho'.sl;have HFIN:Hid (dN aJ w3 A9 n9 c9 o'∧Below w.heap.size w w3):=⟨hsl,hB3⟩;clear HSO HLW hp hpw ho' hsl hg hB3 HK;go_wp2
   go_returns
   exact ⟨A9,n9,c9,rfl,HFIN.out.1,HFIN.out.2⟩
end
section
set_option linter.unusedVariables false
set_option linter.unusedSimpArgs false
open Go.RowKit
variable {w0 w w':World}

def xO (w:World) (g:Nat) (D:Nat→Prop) (F:Nat→Option Bx):Prop:=∃ s T,Mem w g s∧WF s T∧(∀ k,s.In g k→D k)∧(∀ k,D k→k<w.heap.size)∧∀ j,sK T j=F j
theorem xO.out {g:Nat} {D E:Nat→Prop} {F:Nat→Option Bx} (h:xO w g D F) (o:Out E w w') (hd:∀ k,D k→¬ E k):xO w' g D F:=by
 obtain ⟨s,T,m,hW,h1,h2,h3⟩:=h;exact ⟨s,T,m.out o (fun i hi=>hd i (h1 i hi)),hW,h1,fun k hk=>Nat.lt_of_lt_of_le (h2 k hk) o.size,h3⟩
theorem xO.below {g:Nat} {D:Nat→Prop} {F:Nat→Option Bx} (hb:Below w.heap.size w w') (h:xO w g D F):xO w' g D F:=h.out (Out.below (D:=fun _=>False) hb) (fun _ _ q=>q)
def Ru (F:Nat→Option Bx) (i:Nat) (b:Option Bx):Nat→Option Bx:=fun j=>if j=i then b else F j

def PZ (g:Nat) (D:Nat→Prop) (F:Nat→Option Bx) (z:Int) (w:World) (e:Ending) (w':World):Prop:=e = .returned (.int .i64 z)∧∃ D',xO w' g D' F∧Out D w w'∧∀ k,D' k→D k∨w.heap.size≤k
theorem GV (w:World):Calls Tryz.prog 27 #[] w (fun e w'=>∃ g,e = .returned (.pointer (some ⟨g,0,none⟩))∧w.heap.size≤g∧xO w' g (fun k=>k=g) (fun _=>none)∧Below w.heap.size w w'):=by
 refine (FP w).mono ?_;rintro e w' ⟨g,rfl,h1,h2,h3⟩;refine ⟨g,rfl,h1,⟨Sn,none,h2,TH,fun k hk=>?_,fun k hk=>?_,fun j=>rfl⟩,h3⟩
 ·rcases hk with hk | hk
  ·exact hk
  ·exact absurd rfl hk
 ·rw [hk];exact h2.lt
theorem Gn {g:Nat} {D:Nat→Prop} {F:Nat→Option Bx} (h:xO w g D F) {i:Nat} (hi:i<256) (b1 b2 b3 b4:Int) (hb:fJ ((b1,b2),(b3,b4))=true) :
  Calls Tryz.prog 29 #[.pointer (some ⟨g,0,none⟩),.int .i64 (i:Nat),pJ ((b1,b2),(b3,b4))] w (PZ g D (Ru F i (some ((b1,b2),(b3,b4)))) 0 w):=by
 obtain ⟨s,T,m,hW,h1,h2,h3⟩:=h;refine (I8 m hW hi b1 b2 b3 b4 hb).mono ?_;rintro e w' ⟨s',T',rfl,m',o,wf',hbx,inn⟩;refine ⟨rfl,fun k=>D k∨(w.heap.size≤k∧k<w'.heap.size),⟨s',some T',m',wf',fun k hk=>?_,fun k hk=>?_,fun j=>?_⟩,o.mono (fun k _ q=>h1 k q),fun k hk=>?_⟩
 ·rcases inn k hk with q | q
  ·exact .inl (h1 k q)
  ·refine .inr ⟨q, ?_⟩
   rcases hk with e | e
   ·rw [e];exact m'.lt
   ·rcases hr : s'.nd k with _ | r
    ·exact absurd hr e
    ·exact (m'.nd k r hr).lt
 ·rcases hk with q | q
  ·exact Nat.lt_of_lt_of_le (h2 k q) o.size
  ·exact q.2
 ·rw [hbx];show _=if j=i then _ else F j
  by_cases e:j=i
  ·rw [if_pos e,if_pos e]
  ·rw [if_neg e,if_neg e];exact h3 j
 ·rcases hk with q | q
  ·exact .inl q
  ·exact .inr q.1


theorem Aa {g:Nat} {D:Nat→Prop} {F:Nat→Option Bx} (h:xO w g D F) :
  Calls Tryz.prog 33 #[.pointer (some ⟨g,0,none⟩)] w (KR (ji F dY 256) w):=by
 obtain ⟨s,T,m,hW,h1,h2,h3⟩:=h;have e:sK T=F:=funext h3;have:=BO m hW;rw [e] at this;exact this
theorem I4 {D:Nat→Prop} {B:Nat} {a b:World} (o:Out D a b) (h:∀ k,D k→B≤k) (hB:B≤a.heap.size):Below B a b :=
 ⟨o.os,o.tape,o.output,o.size,fun k hk=>o.block k (by omega) (fun q=>by have:=h k q;omega)⟩
structure JX (w0 : World) (g : Nat) (L : List Bx) (A : Option Addr) (c : Nat) (wl : World) (F : Nat → Option Bx) (wr : World) : Prop where
 tr:∃ D,xO wr g D F∧∀ k,D k→k=g∨wl.heap.size≤k
 sl:dN dn wr A L.length c L
 fr:∀ b off,A=some ⟨b,off,none⟩→g<b∧b<wl.heap.size
 bel:Below w0.heap.size w0 wr
 g0:w0.heap.size≤g
 sz:wl.heap.size≤wr.heap.size∧w0.heap.size≤wl.heap.size
theorem JX.keep {g:Nat} {L:List Bx} {A:Option Addr} {c:Nat} {wl:World} {F:Nat→Option Bx} {wr w':World} (hb:Below wr.heap.size wr w') (h:JX w0 g L A c wl F wr):JX w0 g L A c wl F w':=by
 obtain ⟨⟨D,h1,h2⟩,hs,hf,hB,h3,h4⟩:=h;exact ⟨⟨D,xO.below hb h1,h2⟩,hs.below hb,hf,aj hb hB,h3,Nat.le_trans h4.1 hb.size,h4.2⟩
theorem dN.outB {α:Type} {L:Lay α} {w w':World} {A:Option Addr} {n c:Nat} {l:List α} {D:Nat→Prop} (h:dN L w A n c l) (o:Out D w w') (hne:∀ b off,A=some ⟨b,off,none⟩→¬ D b):dN L w' A n c l :=
 ⟨h.len,h.cap,h.big,fun q=>by
  obtain ⟨b,off,e,hC⟩:=h.at_ q
  exact ⟨b,off,e,Nat.lt_of_lt_of_le hC.lt o.size,fun j hj i u hu=>o.cell (hC.at_ j hj i u hu) (hne b off e)⟩⟩
theorem JX.ret {g:Nat} {L:List Bx} {A:Option Addr} {c:Nat} {wl:World} {F F':Nat→Option Bx} {wr w':World} (h:JX w0 g L A c wl F wr) {D:Nat→Prop} (hD:∀ k,D k→k=g∨wl.heap.size≤k) {z:Int} {e:Ending} (hr:PZ g D F' z wr e w'):e = .returned (.int .i64 z)∧JX w0 g L A c wl F' w':=by
 obtain ⟨-,hs,hf,hB,h3,h4⟩:=h;obtain ⟨rfl,D',h1,o,h2⟩:=hr;refine ⟨rfl,⟨D',h1,fun k hk=>?_⟩,hs.outB o (fun b off e q=>?_),hf,hB.trans (I4 o (fun k q=>?_) (by omega)),h3,Nat.le_trans h4.1 o.size,h4.2⟩
 ·rcases h2 k hk with q | q
  ·exact hD k q
  ·exact .inr (by omega)
 ·have := hf b off e;have:=hD b q;omega
 ·have := hD k q;omega
structure Qf (w0 : World) (ga gb B : Nat) (l : List Bx) (A : Option Addr) (c : Nat) (Fa Fb : Nat → Option Bx) (wr : World) : Prop where
 tr:∃ D E,xO wr ga D Fa∧xO wr gb E Fb∧(∀ k,D k→¬ E k)∧(∀ k,D k→B≤k)∧(∀ k,E k→B≤k)
 sl:dN dn wr A l.length c l
 fr:∀ b off,A=some ⟨b,off,none⟩→b<B
 bel:Below w0.heap.size w0 wr
 sz:w0.heap.size≤B∧B≤wr.heap.size
theorem xO.lt {g:Nat} {D:Nat→Prop} {F:Nat→Option Bx} (h:xO w g D F):∀ k,D k→k<w.heap.size:=by
 obtain ⟨s,T,m,hW,h1,h2,h3⟩:=h;exact h2
theorem Qf.keep {ga gb B:Nat} {l:List Bx} {A:Option Addr} {c:Nat} {Fa Fb:Nat→Option Bx} {wr w':World} (hb:Below wr.heap.size wr w') (h:Qf w0 ga gb B l A c Fa Fb wr):Qf w0 ga gb B l A c Fa Fb w':=by
 obtain ⟨⟨D,E,h1,h2,h3⟩,hs,hf,hB,h4⟩:=h;exact ⟨⟨D,E,xO.below hb h1,xO.below hb h2,h3⟩,hs.below hb,hf,aj hb hB,h4.1,Nat.le_trans h4.2 hb.size⟩

def yD (l:List Bx) (k:Nat):Nat→Option Bx:=fun j=>if j<k then l[j]? else none
theorem Qh {l:List Bx} {k:Nat} (h:k<l.length):Ru (yD l k) k (some (aV l k))=yD l (k+1):=by
 funext j
 show (if j=k then _ else yD l k j)=_;unfold yD
 by_cases e:j=k
 ·subst e;rw [if_pos rfl,if_pos (Nat.lt_succ_self _),List.getElem?_eq_getElem h];unfold aV;rw [List.getD_eq_getElem?_getD,List.getElem?_eq_getElem h];rfl
 ·rw [if_neg e]
  by_cases q:j<k
  ·rw [if_pos q,if_pos (by omega)]
  ·rw [if_neg q,if_neg (by omega)]
theorem Oo (l:List Bx):yD l l.length=fun j=>l[j]? := by
 funext j
 unfold yD
 split
 ·rfl
 ·rw [List.getElem?_eq_none (by omega)]
theorem LK (l:List Bx):yD l 0=fun _=>none:=by
 funext j
 unfold yD;rw [if_neg (by omega)]

end
end Go.Proofs.YtokgmcomgflloaaGreat
