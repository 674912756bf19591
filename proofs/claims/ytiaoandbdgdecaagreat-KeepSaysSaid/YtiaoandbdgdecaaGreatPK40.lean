/- Parts of a proof: contracts and laws. -/
import Derived.Test.YtiaoandbdgdecaaGreatPK34
import Derived.Laws.StructEq
import Derived.Test.YtiaoandbdgdecaaGreatPK04
import Derived.Test.YtiaoandbdgdecaaGreatPK32
import Derived.Test.YtiaoandbdgdecaaGreatPK13
import Derived.Lib.AppendZerosOnto
import Derived.Test.YtiaoandbdgdecaaGreatPK15
set_option maxRecDepth 100000
set_option maxHeartbeats 16000000
namespace Go.Proofs.YtiaoandbdgdecaaGreat
section
set_option linter.unusedVariables false
set_option linter.unusedSimpArgs false
open Go.RowKit

theorem run_eqP (x1 x2 y1 y2:Int) (w:World):(Op.equalIn 10000 44 (.agg #[.int .i64 x1,.int .i64 x2]) (.agg #[.int .i64 y1,.int .i64 y2])).run Tryz.prog w = .ok (x1 == y1 && x2 == y2) w:=by
 have u3:=Tryz.underlying3
 have a3:=Tryz.isAgg3
 have z3:=Tryz.sizeOf3
 rw [show (10000:Nat)=9999+1 from rfl,Op.equalIn]
 simp only [Sem.run_bind,run_underlying Tryz.underlying44,Result.andThen_ok]
 simp only [Std.Legacy.Range.forIn_eq_forIn_range',Std.Legacy.Range.size,Nat.sub_zero,Nat.add_sub_cancel,Nat.div_one,List.range'_succ,List.range'_zero,List.forIn_cons,List.forIn_nil]
 go_simp
 by_cases h1:x1=y1 <;> by_cases h2:x2=y2 <;> simp [h1,h2]
theorem CellsE.pair {w:World} {b off:Nat} {l:List (Nat × Nat)} (h:CellsE layPair w b off l) {i:Nat} (hi:i<l.length) :
  w.cell? ⟨b,off+i*2,none⟩=some (.int .i64 (l[i].1:Nat))∧w.cell? ⟨b,off+i*2+1,none⟩=some (.int .i64 (l[i].2:Nat)):=⟨h.at_ i hi 0 _ rfl,h.at_ i hi 1 _ rfl⟩
theorem equalP_calls (A B:Option Addr) (n c m c':Nat) (l r:List (Nat × Nat)) (w:World) (hS:SlE layPair w A n c l) (hR:SlE layPair w B m c' r) :
  Calls Tryz.prog 22 #[.slice A n c,.slice B m c'] w (Ret (.bool (decide (l=r))) w):=by
 have hn:=hS.len
 have hm:=hR.len
 subst hn hm
 have HS:=hid hS
 have HR:=hid hR
 have hbig:=Nat.le_trans hS.cap hS.big
 clear hS hR
 by_cases hlen:l.length=r.length
 ·obtain ⟨N, hN⟩ : ∃ N, N = l.length := ⟨_, rfl⟩
  have hrN:r.length=N:=by omega
  go_enter Tryz.func22,Tryz.ntmps22
  rw [hrN,← hN]
  rw [← hN] at HS hbig
  rw [hrN] at HR
  have HN:=hid hN
  have HRN:=hid hrN
  clear hlen hN hrN
  go_wp2
  go_loopw [13] (fun j wr=>∃ k:Nat,k≤N∧j = .int .i64 k∧(∀ i (h1:i<l.length) (h2:i<r.length),i<k→l[i]=r[i])∧Below w.heap.size w wr) (fun j _=>N-(intOf j).toNat)
  case atStart=>exact ⟨0,Nat.zero_le _,rfl,fun i _ _ h=>by omega,Below.refl _ _⟩
  case round =>
   obtain ⟨i,hi,rfl,heq,hB⟩:=hrel
   obtain ⟨wo,rfl⟩:∃ wo:World,wo=wr:=⟨_,rfl⟩
   have HEQ:=hid heq
   clear heq
   by_cases hlt:i<N
   ·have hlt' : (i : Int) < (N : Int) := by omega
    have hwk:IntKind.i64.wrap ((i:Int)+1)=(i:Int)+1:=IntWalk.i64_in _ (by omega)
    have hl1:i<l.length:=by have:=HN.out;omega
    have hl2:i<r.length:=by have:=HRN.out;omega
    obtain ⟨bA,oA,rfl,hC⟩:=(HS.out.below hB).at_ (by intro h;rw [h] at hl1;simp at hl1)
    obtain ⟨bB,oB,rfl,hD⟩:=(HR.out.below hB).at_ (by intro h;rw [h] at hl2;simp at hl2)
    obtain ⟨c0,c1⟩:=hC.pair hl1
    obtain ⟨d0,d1⟩:=hD.pair hl2
    have hbl:=hC.lt
    have hbl2:=hD.lt
    obtain ⟨p,hp⟩:∃ p,p=l[i]:=⟨_,rfl⟩
    obtain ⟨q,hq⟩:∃ p,p=r[i]:=⟨_,rfl⟩
    rw [← hp] at c0 c1
    rw [← hq] at d0 d1
    obtain ⟨e1,he1⟩:∃ e:Bool,e=((p.1:Int) == (q.1:Int) && (p.2:Int) == (q.2:Int)):=⟨_,rfl⟩
    have HE1:Hid (e1=true↔p=q):=by
     show _↔_
     rw [he1]
     simp only [Bool.and_eq_true,beq_iff_eq]
     exact ⟨fun ⟨a,b⟩=>by ext <;> omega,fun h=>by rw [h];exact ⟨rfl,rfl⟩⟩
    obtain ⟨x1,hx1⟩:∃ z:Int,z=p.1:=⟨_,rfl⟩
    obtain ⟨x2,hx2⟩:∃ z:Int,z=p.2:=⟨_,rfl⟩
    obtain ⟨y1,hy1⟩:∃ z:Int,z=q.1:=⟨_,rfl⟩
    obtain ⟨y2,hy2⟩:∃ z:Int,z=q.2:=⟨_,rfl⟩
    rw [← hx1] at c0 he1
    rw [← hx2] at c1 he1
    rw [← hy1] at d0 he1
    rw [← hy2] at d1 he1
    have HQ1:=run_eqP x1 x2 y1 y2
    rw [← he1] at HQ1
    have HPQ:=hid (And.intro hp hq)
    have hBd:Below wo.heap.size wo wo.drew:=(Below.refl _ _).drew
    clear hC hD hp hq he1 hx1 hx2 hy1 hy2
    cases e1 with
    | true =>
     have HEQ2:Hid (∀ i' (h1:i'<l.length) (h2:i'<r.length),i'<i+1→l[i']=r[i']):=fun i' h1 h2 h=>by
      rcases Nat.lt_or_ge i' i with g | g
      ·exact HEQ.out i' h1 h2 g
      ·have : i' = i := by omega
       subst this
       rw [← HPQ.out.1,← HPQ.out.2]
       exact HE1.out.1 rfl
     clear HEQ HE1 HPQ
     go_upto_region 6 with fail
     refine wp_region_noPanic ?_
     refine wp_region_U (S:=(S2 (fun w'=>w'.cell? ⟨bA,oA+i*2,none⟩=some (.int .i64 x1)∧w'.cell? ⟨bA,oA+i*2+1,none⟩=some (.int .i64 x2)∧w'.cell? ⟨bB,oB+i*2,none⟩=some (.int .i64 y1)∧w'.cell? ⟨bB,oB+i*2+1,none⟩=some (.int .i64 y2)∧Below wo.heap.size wo w'))) (T:=(fun _=>0)) (by kernel_rfl) (S2i0 ⟨c0,c1,d0,d1,hBd⟩) (fun hH=>?_)
     have hWr1:Weaker (S2 (fun w'=>w'.cell? ⟨bA,oA+i*2,none⟩=some (.int .i64 x1)∧w'.cell? ⟨bA,oA+i*2+1,none⟩=some (.int .i64 x2)∧w'.cell? ⟨bB,oB+i*2,none⟩=some (.int .i64 y1)∧w'.cell? ⟨bB,oB+i*2+1,none⟩=some (.int .i64 y2)∧Below wo.heap.size wo w')):=weaker2 _
     refine Utn [(0,16),(1,17),(2,18),(3,19),(4,20),(5,21),(6,22),(7,23),(8,24)] 0 0 0 (L':=?Lr1_1) hWr1 hH ?hyr1_1 ?_
     case hyr1_1=>((iterate 9 apply tkC;rfl;kernel_rfl;intro w' hSw;replace hSw:=S2o0 hSw;(try dsimp only at hSw);have q0:=hSw.1;have q1:=hSw.2.1;have q2:=hSw.2.2.1;have q3:=hSw.2.2.2.1;have q4:=hSw.2.2.2.2;(try simp only [sB,sC]);go_simp;(try with_reducible rfl));exact tkN)
     simp only [sB,sC]
     refine wpAnyU_done (by kernel_rfl) ?_ _ _
     refine NoPanic.normal ?_
     clear hWr1
     replace hH:=S2o0 hH
     (try dsimp only at hH)
     have q0:=hH.1
     have q1:=hH.2.1
     have q2:=hH.2.2.1
     have q3:=hH.2.2.2.1
     have q4:=hH.2.2.2.2
     clear hH
     have hB2:=keepBelow q4 hB
     clear c0 c1 d0 d1 q0 q1 q2 q3 q4 hBd
     generalize wo.drew=wq at *
     go_wp2
     go_roundw
     case rel=>exact ⟨i+1,hlt,by go_num,HEQ2.out,hB2⟩
     case measure=>simp [intOf];omega
    | false =>
     have HNE:Hid (decide (l=r)=false):=by
      refine decide_eq_false fun h=>?_
      have:p=q:=by rw [HPQ.out.1,HPQ.out.2];simp only [h]
      have:=HE1.out.2 this
      cases this
     clear HEQ HE1 HPQ
     go_upto_region 6 with fail
     refine wp_region_noPanic ?_
     refine wp_region_U (S:=(S2 (fun w'=>w'.cell? ⟨bA,oA+i*2,none⟩=some (.int .i64 x1)∧w'.cell? ⟨bA,oA+i*2+1,none⟩=some (.int .i64 x2)∧w'.cell? ⟨bB,oB+i*2,none⟩=some (.int .i64 y1)∧w'.cell? ⟨bB,oB+i*2+1,none⟩=some (.int .i64 y2)∧Below wo.heap.size wo w'))) (T:=(fun _=>0)) (by kernel_rfl) (S2i0 ⟨c0,c1,d0,d1,hBd⟩) (fun hH=>?_)
     have hWr2:Weaker (S2 (fun w'=>w'.cell? ⟨bA,oA+i*2,none⟩=some (.int .i64 x1)∧w'.cell? ⟨bA,oA+i*2+1,none⟩=some (.int .i64 x2)∧w'.cell? ⟨bB,oB+i*2,none⟩=some (.int .i64 y1)∧w'.cell? ⟨bB,oB+i*2+1,none⟩=some (.int .i64 y2)∧Below wo.heap.size wo w')):=weaker2 _
     refine Utn [(0,16),(1,17),(2,18),(3,19),(4,20),(5,21),(6,22),(7,23),(8,24)] 0 0 0 (L':=?Lr2_1) hWr2 hH ?hyr2_1 ?_
     case hyr2_1=>((iterate 9 apply tkC;rfl;kernel_rfl;intro w' hSw;replace hSw:=S2o0 hSw;(try dsimp only at hSw);have q0:=hSw.1;have q1:=hSw.2.1;have q2:=hSw.2.2.1;have q3:=hSw.2.2.2.1;have q4:=hSw.2.2.2.2;(try simp only [sB,sC]);go_simp;(try with_reducible rfl));exact tkN)
     simp only [sB,sC]
     refine wpAnyU_done (by kernel_rfl) ?_ _ _
     refine NoPanic.normal ?_
     clear hWr2
     replace hH:=S2o0 hH
     (try dsimp only at hH)
     have q0:=hH.1
     have q1:=hH.2.1
     have q2:=hH.2.2.1
     have q3:=hH.2.2.2.1
     have q4:=hH.2.2.2.2
     clear hH
     have hB2:=keepBelow q4 hB
     clear c0 c1 d0 d1 q0 q1 q2 q3 q4 hBd
     generalize wo.drew=wq at *
     go_wp2
     go_returns
     exact ret_bool HNE.out.symm hB2
   ·have hge : N ≤ i := by omega
    have HEQ2:Hid (decide (l=r)=true):=by
     refine decide_eq_true (List.ext_getElem (by have:=HN.out;have:=HRN.out;omega) fun j h1 h2=>?_)
     exact HEQ.out j h1 h2 (by have:=HN.out;omega)
    clear HEQ
    go_wp2
    go_returns
    exact ret_bool HEQ2.out.symm hB
 ·have hne : ((l.length : Int) != (r.length : Int)) = true := by simp; omega
  have HNE:Hid (decide (l=r)=false):=decide_eq_false fun h=>hlen (by rw [h])
  clear hlen
  go_enter Tryz.func22,Tryz.ntmps22
  go_wp2
  go_returns
  exact ret_bool HNE.out.symm (Below.refl _ _)
end
end Go.Proofs.YtiaoandbdgdecaaGreat
namespace Go.Proofs.YtiaoandbdgdecaaGreat
section
set_option linter.unusedVariables false
set_option linter.unusedSimpArgs false
open Go.RowKit
section
variable {α:Type} {L:Lay α} {e:TypeId}

end

structure PO (w0 : World) (s : Value) (o : List (Nat × Nat)) (w : World) : Prop where
 own:OwnE layPair 44 w w0.heap.size s o
 bel:Below w0.heap.size w0 w
theorem PO.nil (w:World):PO w (.slice none 0 0) [] w:=⟨OwnE.nil _ _ _ _,Below.refl _ _⟩
theorem PO.keep {w0:World} {s:Value} {o:List (Nat × Nat)} {w w':World} (hb:Below w.heap.size w w') (h:PO w0 s o w):PO w0 s o w':=⟨h.own.below hb,keepBelow hb h.bel⟩
theorem PO.app {w0:World} {s s':Value} {o o':List (Nat × Nat)} {w w':World} (h:PO w0 s o w) (ho:OwnE layPair 44 w' w0.heap.size s' o') (hg:w.grownBy w' s.ownBlock):PO w0 s' o' w' :=
 ⟨ho,h.bel.grown hg h.bel.size (fun k hk=>(h.own.lt hk).1)⟩
theorem rbox_calls (x y u v:Int) (w:World):Calls Tryz.prog 90 #[.agg #[.int .i64 x,.int .i64 y,.int .i64 u,.int .i64 v]] w (Ret (.bool (vldB ((x,y),(u,v)))) w):=by
 have HZ:Hid (vldB ((x,y),(u,v))=decide (x≤u∧y≤v)):=rfl
 obtain ⟨z,hz⟩:∃ z,z=vldB ((x,y),(u,v)):=⟨_,rfl⟩
 rw [← hz] at HZ ⊢
 clear hz
 by_cases h1:x≤u
 ·by_cases h2 : y ≤ v
  ·have HR : Hid (z = true) := by show _ = _; rw [HZ.out]; exact decide_eq_true ⟨h1, h2⟩
   clear HZ
   go_enter Tryz.func90,Tryz.ntmps90
   go_wp2
   go_returns
   exact ret_bool (by rw [HR.out];try simp [*]) (by go_grown)
  ·have HR : Hid (z = false) := by show _ = _; rw [HZ.out]; exact decide_eq_false (fun h => h2 h.2)
   clear HZ
   go_enter Tryz.func90,Tryz.ntmps90
   go_wp2
   go_returns
   exact ret_bool (by rw [HR.out];try simp [*]) (by go_grown)
 ·have HR : Hid (z = false) := by show _ = _; rw [HZ.out]; exact decide_eq_false (fun h => h1 h.1)
  clear HZ
  go_enter Tryz.func90,Tryz.ntmps90
  go_wp2
  go_returns
  exact ret_bool (by rw [HR.out];try simp [*]) (by go_grown)
theorem tch_max (a1 a2 a3 a4 b1 b2 b3 b4:Int):tchB ((a1,a2),(a3,a4)) ((b1,b2),(b3,b4))=(vldB ((a1,a2),(a3,a4)) && (vldB ((b1,b2),(b3,b4)) && (decide (max a1 b1≤min a3 b3) && decide (max a2 b2≤min a4 b4)))):=by
 rw [Bool.eq_iff_iff,tchB_iff]
 unfold vldB
 simp only [Bool.and_eq_true,decide_eq_true_iff]
 omega
theorem rtouch_calls (a1 a2 a3 a4 b1 b2 b3 b4:Int) (w:World):Calls Tryz.prog 46 #[bxV ((a1,a2),(a3,a4)),bxV ((b1,b2),(b3,b4))] w (Ret (.bool (tchB ((a1,a2),(a3,a4)) ((b1,b2),(b3,b4)))) w):=by
 have HT:=hid (tch_max a1 a2 a3 a4 b1 b2 b3 b4)
 have HVA:=hid (rbox_calls a1 a2 a3 a4)
 have HVB:=hid (rbox_calls b1 b2 b3 b4)
 generalize tchB ((a1,a2),(a3,a4)) ((b1,b2),(b3,b4))=T at *
 generalize vldB ((a1,a2),(a3,a4))=va at *
 generalize vldB ((b1,b2),(b3,b4))=vb at *
 obtain ⟨W,hW⟩:∃ W,W=(w.alloc (.cells #[.int .i64 a1,.int .i64 a2,.int .i64 a3,.int .i64 a4] 75)).alloc (.cells #[.int .i64 b1,.int .i64 b2,.int .i64 b3,.int .i64 b4] 75):=⟨_,rfl⟩
 have ca0:W.cell? ⟨w.heap.size,0,none⟩=some (.int .i64 a1):=by rw [hW];go_simp
 have ca1:W.cell? ⟨w.heap.size,1,none⟩=some (.int .i64 a2):=by rw [hW];go_simp
 have ca2:W.cell? ⟨w.heap.size,2,none⟩=some (.int .i64 a3):=by rw [hW];go_simp
 have ca3:W.cell? ⟨w.heap.size,3,none⟩=some (.int .i64 a4):=by rw [hW];go_simp
 have cb0:W.cell? ⟨w.heap.size+1,0,none⟩=some (.int .i64 b1):=by rw [hW];go_simp
 have cb1:W.cell? ⟨w.heap.size+1,1,none⟩=some (.int .i64 b2):=by rw [hW];go_simp
 have cb2:W.cell? ⟨w.heap.size+1,2,none⟩=some (.int .i64 b3):=by rw [hW];go_simp
 have cb3:W.cell? ⟨w.heap.size+1,3,none⟩=some (.int .i64 b4):=by rw [hW];go_simp
 have hB:Below w.heap.size w W:=by rw [hW];go_grown
 go_enter Tryz.func46,Tryz.ntmps46
 go_wp2_with fail
 rw [← hW]
 clear hW
 refine (HVA.out _).mono ?_
 rintro e w1 ⟨rfl,hb1⟩
 replace ca0:=keepCell hb1 ca0
 replace ca1:=keepCell hb1 ca1
 replace ca2:=keepCell hb1 ca2
 replace ca3:=keepCell hb1 ca3
 replace cb0:=keepCell hb1 cb0
 replace cb1:=keepCell hb1 cb1
 replace cb2:=keepCell hb1 cb2
 replace cb3:=keepCell hb1 cb3
 replace hB:=keepBelow hb1 hB
 clear hb1 HVA
 cases va with
 | false =>
  have HR:Hid (T=false):=HT.out
  clear HT HVB
  go_wp2
  go_returns
  exact ret_bool (by rw [HR.out]) hB
 | true =>
  go_wp2_with fail
  refine (HVB.out _).mono ?_
  rintro e w2 ⟨rfl,hb2⟩
  replace ca0:=keepCell hb2 ca0
  replace ca1:=keepCell hb2 ca1
  replace ca2:=keepCell hb2 ca2
  replace ca3:=keepCell hb2 ca3
  replace cb0:=keepCell hb2 cb0
  replace cb1:=keepCell hb2 cb1
  replace cb2:=keepCell hb2 cb2
  replace cb3:=keepCell hb2 cb3
  replace hB:=keepBelow hb2 hB
  clear hb2 HVB
  cases vb with
  | false =>
   have HR:Hid (T=false):=HT.out
   clear HT
   go_wp2
   go_returns
   exact ret_bool (by rw [HR.out]) hB
  | true =>
   by_cases k0:max a1 b1≤min a3 b3
   ·by_cases k1 : max a2 b2 ≤ min a4 b4
    ·have HR : Hid (T = true) := by show _ = _; rw [HT.out, decide_eq_true k0, decide_eq_true k1]; rfl
     clear HT
     go_wp2
     go_returns
     exact ret_bool (by rw [HR.out];try simp [*]) hB
    ·have HR : Hid (T = false) := by show _ = _; rw [HT.out, decide_eq_true k0, decide_eq_false k1]; simp
     clear HT
     go_wp2
     go_returns
     exact ret_bool (by rw [HR.out];try simp [*]) hB
   ·have HR : Hid (T = false) := by show _ = _; rw [HT.out, decide_eq_false k0]; simp
    clear HT
    go_wp2
    go_returns
    exact ret_bool (by rw [HR.out];try simp [*]) hB
end
end Go.Proofs.YtiaoandbdgdecaaGreat
namespace Go.Proofs.YtiaoandbdgdecaaGreat
section
set_option linter.unusedVariables false
set_option linter.unusedSimpArgs false
open Go.RowKit

structure PlAt (w : World) (g : Nat) (b : Bd) (l : List V) (k : Nat) : Prop where
 lt:g<w.heap.size
 x:∀ j,j<k→w.cell? ⟨g,j*2,none⟩=some (.int .i64 (wX b (px l j) (py l j)))
 y:∀ j,j<k→w.cell? ⟨g,j*2+1,none⟩=some (.int .i64 (wY b (px l j) (py l j)))
 c:∀ j,j<l.length*2→∃ v,w.cell? ⟨g,j,none⟩=some v
 free:∀ j,w.frozen? ⟨g,j,none⟩=false
theorem keepPl {w w':World} {g:Nat} {b:Bd} {l:List V} {k:Nat} (hb:Below w.heap.size w w') (h:PlAt w g b l k):PlAt w' g b l k :=
 ⟨by have:=hb.size;have:=h.lt;omega,fun j hj=>keepCell hb (h.x j hj),fun j hj=>keepCell hb (h.y j hj),fun j hj=>by obtain ⟨v,hv⟩:=h.c j hj;exact ⟨v,keepCell hb hv⟩,fun j=>((bcell hb).2 _ _ h.lt).trans (h.free j)⟩
theorem PlAt.drew {w:World} {g:Nat} {b:Bd} {l:List V} {k:Nat} (h:PlAt w g b l k):PlAt w.drew g b l k:=⟨h.lt,h.x,h.y,h.c,h.free⟩
theorem PlAt.set {w:World} {g:Nat} {b:Bd} {l:List V} {k:Nat} (h:PlAt w g b l k) (hk:k<l.length) :
  PlAt ((w.setCell ⟨g,k*2,none⟩ (.int .i64 (wX b (px l k) (py l k)))).setCell ⟨g,k*2+1,none⟩ (.int .i64 (wY b (px l k) (py l k)))) g b l (k+1):=by
 obtain ⟨z0,y0⟩:=h.c (k*2) (by omega)
 obtain ⟨z1,y1⟩:=h.c (k*2+1) (by omega)
 refine ⟨by simpa using h.lt,fun j hj=>?_,fun j hj=>?_,fun j hj=>?_,fun j=>by rw [World.frozen?_setCell,World.frozen?_setCell];exact h.free j⟩
 ·by_cases e : j = k
  ·subst e;go_simp
  ·have := h.x j (by omega)
   have n1:¬ (k*2=j*2):=by omega
   have n2:¬ (k*2+1=j*2):=by omega
   have n3:¬ (j*2=k*2):=by omega
   have n4:¬ (j*2=k*2+1):=by omega
   go_simp
 ·by_cases e : j = k
  ·subst e;go_simp
  ·have := h.y j (by omega)
   have n1:¬ (k*2=j*2+1):=by omega
   have n2:¬ (k*2+1=j*2+1):=by omega
   have n3:¬ (j*2+1=k*2):=by omega
   have n4:¬ (j*2+1=k*2+1):=by omega
   go_simp
 ·obtain ⟨v, hv⟩ := h.c j hj
  by_cases e:k*2+1=j
  ·subst e;exact ⟨.int .i64 (wY b (px l k) (py l k)),by go_simp⟩
  ·by_cases e2 : k * 2 = j
   ·subst e2;exact ⟨.int .i64 (wX b (px l k) (py l k)),by go_simp⟩
   ·exact ⟨v,by go_simp⟩
theorem px_placeL {b:Bd} {l:List V} {j:Nat} (h:j<l.length):px (placeL b l) j=wX b (px l j) (py l j):=by simp [px,py,placeL,h]
theorem py_placeL {b:Bd} {l:List V} {j:Nat} (h:j<l.length):py (placeL b l) j=wY b (px l j) (py l j):=by simp [px,py,placeL,h]
theorem rplaced_calls (b:Bd) (A:Option Addr) (n c:Nat) (l:List V) (w:World) (hE:bodyE b l=0) (hS:Sl w A n c l):Calls Tryz.prog 48 #[bodyV b A n c] w (RetVecs (placeL b l) w):=by
 have hn:=hS.len
 subst hn
 obtain ⟨hsh,hnu⟩:=bodyE_zero hE
 have hang:=(numE_zero hnu).2.2.2.1
 obtain ⟨h8,h3,_,_⟩:=checkE_zero (shapeE_zero hsh)
 obtain ⟨W,hW⟩:∃ W,W=w.alloc (.cells #[.int .i64 b.px,.int .i64 b.py,.int .i64 b.vx,.int .i64 b.vy,.int .i64 b.ang,.int .i64 b.spin,.int .i64 b.mass,.int .i64 b.iner,.int .i64 b.bounce,.int .i64 b.rub,.slice A l.length c,.bool b.asleep,.int .i64 b.calm] 58):=⟨_,rfl⟩
 have HK0:=hid (show BdAt W w.heap.size b A l.length c by rw [hW];exact BdAt.here w b A l.length c _)
 have hB0:Below w.heap.size w W:=by rw [hW];go_grown
 have HS0:=hid hS
 have hmk:∀ w:World,(Instr.makeSlice 56 (.int .i64 (l.length:Int)) (.int .i64 (l.length:Int))).run Tryz.prog w = .ok (.slice (some ⟨w.heap.size,0,none⟩) l.length l.length) (w.alloc (.cells (Array.replicate (l.length*2) (.int .i64 0)) 27)):=by
  have hl:l.length=3∨l.length=4∨l.length=5∨l.length=6∨l.length=7∨l.length=8:=by omega
  intro w
  generalize l.length=m at hl ⊢
  rcases hl with rfl | rfl | rfl | rfl | rfl | rfl <;> kernel_rfl
 obtain ⟨k0,k1,k2,k3,k4,k5,k6,k7,k8,k9,k10,k11,k12,kf⟩:=HK0.out
 clear hE hsh hnu hS
 go_enter Tryz.func48,Tryz.ntmps48
 go_wp2_with fail
 rw [← hW]
 have hWs:W.heap.size=w.heap.size+1:=by rw [hW];simp
 obtain ⟨g,hg⟩:∃ g,g=w.heap.size+1:=⟨_,rfl⟩
 have hgw:w.heap.size<g:=by omega
 obtain ⟨w1,hw1⟩:∃ w1,w1=W.alloc (.cells (Array.replicate (l.length*2) (.int .i64 0)) 27):=⟨_,rfl⟩
 have HK1:=hid (show BdAt w1 w.heap.size b A l.length c by rw [hw1];exact HK0.out.alloc _)
 have hB1:Below w.heap.size w w1:=by rw [hw1];exact hB0.alloc hB0.size _
 have HP1:=hid (show PlAt w1 g b l 0 by
  rw [hw1,hg,← hWs]
  refine ⟨by simp,fun _ h=>absurd h (by omega),fun _ h=>absurd h (by omega),fun j hj=>⟨.int .i64 0,?_⟩,fun j=>by go_simp⟩
  rw [cell_of_row _ _ j _ _ (0,0) (heap_alloc_last W _)]
  simp [hj])
 rw [← hg,← hw1]
 clear hW hg hw1 hWs hB0 HK0 hmk k0 k1 k2 k3 k4 k5 k6 k7 k8 k9 k10 k11 k12 kf
 go_loopw [11] (fun i wr=>∃ k:Nat,k≤l.length∧i = .int .i64 k∧PlAt wr g b l k∧BdAt wr w.heap.size b A l.length c∧Below w.heap.size w wr) (fun i _=>l.length-(intOf i).toNat)
 case atStart=>exact ⟨0,Nat.zero_le _,rfl,HP1.out,HK1.out,hB1⟩
 case round =>
  clear HK1 HP1 hB1
  obtain ⟨k,hk,rfl,hpl,hbd,hB⟩:=hrel
  obtain ⟨wo,rfl⟩:∃ wo:World,wo=wr:=⟨_,rfl⟩
  have HP:=hid hpl
  have HK:=hid hbd
  clear hpl hbd
  by_cases hlt:k<l.length
  ·obtain ⟨ba, off, hA, hC⟩ := (HS0.out.below hB).at_ (by intro h; subst h; simp at hlt)
   subst hA
   have x0:=hC.x k hlt
   have x1:=hC.y k hlt
   have hlt':(k:Int)<(l.length:Int):=by omega
   clear hC
   go_upto_region 5 with fail
   refine wp_region_noPanic ?_
   refine wp_region_U (S:=(S2 (fun w'=>BdAt w' w.heap.size b (some ⟨ba,off,none⟩) l.length c∧PlAt w' g b l k∧w'.cell? ⟨ba,off+k*2,none⟩=some (.int .i64 (px l k))∧w'.cell? ⟨ba,off+k*2+1,none⟩=some (.int .i64 (py l k))∧Below w.heap.size w w'))) (T:=(fun j=>[0,0,0,0,0,0,0,0,0,0,1].getD j 0)) (by kernel_rfl) (S2i0 ⟨HK.out.drew,HP.out.drew,x0,x1,hB.drew⟩) (fun hH=>?_)
   have hWr1:Weaker (S2 (fun w'=>BdAt w' w.heap.size b (some ⟨ba,off,none⟩) l.length c∧PlAt w' g b l k∧w'.cell? ⟨ba,off+k*2,none⟩=some (.int .i64 (px l k))∧w'.cell? ⟨ba,off+k*2+1,none⟩=some (.int .i64 (py l k))∧Below w.heap.size w w')):=weaker2 _
   refine Utn [(0,14),(1,15),(2,16),(3,17),(4,18),(5,19),(6,20),(7,21)] 3 0 0 (L':=?Lr1_1) hWr1 hH ?hyr1_1 ?_
   case hyr1_1=>((iterate 8 apply tkC;rfl;kernel_rfl;intro w' hSw;replace hSw:=S2o0 hSw;(try dsimp only at hSw);have q0:=hSw.1;have q1:=hSw.2.1;have q2:=hSw.2.2.1;have q3:=hSw.2.2.2.1;have q4:=hSw.2.2.2.2;obtain ⟨qa0_0,qa0_1,qa0_2,qa0_3,qa0_4,qa0_5,qa0_6,qa0_7,qa0_8,qa0_9,qa0_10,qa0_11,qa0_12,qa0_f⟩:=id q0;(try simp only [sB,sC]);go_simp;(try with_reducible rfl));exact tkN)
   simp only [sB,sC]
   refine U1 8 0 rfl (fun K hK=>?_)
   try clear hb
   go_simp
   (go_at_call 93;refine (rworld_calls b (some ⟨ba,off,none⟩) l.length c (px l k) (py l k) hang.1 (by omega) _).mono ?_;rintro e wn ⟨rfl,hb⟩)
   refine hK.out _ _ ?hsr1_9 (fun hH2=>?hrr1_9)
   case hsr1_9=>exact S2i0 (by have hG:=hH;replace hG:=S2o0 hG;(try dsimp only at hG);have q0:=hG.1;have q1:=hG.2.1;have q2:=hG.2.2.1;have q3:=hG.2.2.2.1;have q4:=hG.2.2.2.2;exact ⟨keepBd hb q0,keepPl hb q1,keepCell hb q2,keepCell hb q3,keepBelow hb q4⟩)
   clear hK K hH
   have hH:=hH2
   clear hH2
   try simp only [Act.put,sA,sB,sC]
   refine Ut 9 23 1 0 0 (v:=?vr1_10) rfl hWr1 hH ?hyr1_10 ?_
   case hyr1_10=>(intro w' hSw;clear hSw;go_simp;try (with_reducible rfl))
   simp only [sB,sC]
   refine U1 10 1 rfl (fun K hK=>?_)
   have hG:=hH
   replace hG:=S2o0 hG;(try dsimp only at hG);have q0:=hG.1;have q1:=hG.2.1;have q2:=hG.2.2.1;have q3:=hG.2.2.2.1;have q4:=hG.2.2.2.2
   obtain ⟨z0,y0⟩:=q1.c (k*2) (by omega)
   obtain ⟨z1,y1⟩:=q1.c (k*2+1) (by omega)
   have yf:=q1.free
   go_simp
   refine hK.out _ _ ?hsr1_11 (fun hH2=>?hrr1_11)
   case hsr1_11=>exact S2i1
   clear hK K hH
   have hH:=hH2
   clear hH2
   try simp only [Act.put,sA,sB,sC]
   refine wpAnyU_done (by kernel_rfl) ?_ _ _
   refine NoPanic.normal ?_
   have HPn:=hid (q1.set hlt)
   have HKn:=hid ((q0.away g (k*2) (.int .i64 (wX b (px l k) (py l k))) (by omega)).away g (k*2+1) (.int .i64 (wY b (px l k) (py l k))) (by omega))
   have hBn:Below w.heap.size w ((wn.setCell ⟨g,k*2,none⟩ (.int .i64 (wX b (px l k) (py l k)))).setCell ⟨g,k*2+1,none⟩ (.int .i64 (wY b (px l k) (py l k)))):=by go_grown
   clear hH hG q0 q1 q2 q3 q4 y0 y1 yf x0 x1
   go_wp2
   go_roundw
   case rel=>exact ⟨k+1,hlt,by go_num,HPn.out,HKn.out,hBn⟩
   case measure=>simp [intOf];omega
  ·have hge : l.length ≤ k := by omega
   have hke:k=l.length:=by omega
   subst hke
   have H2:Hid (Sl wo (some ⟨g,0,none⟩) l.length l.length (placeL b l)) :=
    ⟨(placeL_len b l).symm,Nat.le_refl _,by omega,fun _=>⟨g,0,rfl,HP.out.lt,fun j hj=>by rw [placeL_len] at hj;rw [Nat.zero_add,px_placeL hj];exact HP.out.x j hj,fun j hj=>by rw [placeL_len] at hj;rw [Nat.zero_add,py_placeL hj];exact HP.out.y j hj⟩⟩
   clear HP HK
   go_wp2
   go_returns
   exact ⟨_,_,_,rfl,H2.out,fun b off e=>by cases e;omega,hB⟩
end
end Go.Proofs.YtiaoandbdgdecaaGreat
