/- Parts of a proof: contracts and laws. -/
import Derived.Test.YtiaoandbdgdecaaGreatPK08
import Derived.Maps.AppendAt
import Derived.Test.YtiaoandbdgdecaaGreatPK04
set_option maxRecDepth 100000
set_option maxHeartbeats 16000000
namespace Go.Proofs.YtiaoandbdgdecaaGreat
section
set_option linter.unusedVariables false
set_option linter.unusedSimpArgs false
open Go.RowKit
def mnI (x y:Int):Int:=if y<x then y else x
def minTo (r : List Int) : Nat → Int
 | 0=>r.getD 0 0
 | k+1=>mnI (minTo r k) (r.getD (k+1) 0)
def minL (r:List Int):Int:=minTo r (r.length-1)
theorem smin_calls (A:Option Addr) (n c:Nat) (r:List Int) (hr:0<r.length) (w:World) (hS:SlI w A n c r):Calls Tryz.prog 91 #[.slice A n c] w (Ret (.int .i64 (minL r)) w):=by
 have hn:=hS.len
 subst hn
 obtain ⟨b,off,rfl,hb,hat⟩:=hS.at_ (by intro h;subst h;simp at hr)
 have hcap:=hS.cap
 have hbig:=hS.big
 have h1:¬ ((r.length:Int)<1):=by omega
 have h2:(0:Int)<(r.length:Int):=by omega
 have c0:w.cell? ⟨b,off,none⟩=some (.int .i64 (minTo r 0)):=by simpa [minTo] using hat 0 hr
 clear hS
 go_enter Tryz.func91,Tryz.ntmps91
 go_wp2
 go_loopw [3,4] (fun m i wr=>∃ k:Nat,k<r.length∧i = .int .i64 ((k:Int)+1)∧m = .int .i64 (minTo r k)∧Below w.heap.size w wr) (fun _ i _=>r.length-(intOf i).toNat)
 case atStart=>exact ⟨0,hr,by simp,rfl,Below.refl _ _⟩
 case round =>
  obtain ⟨k,hk,rfl,rfl,hB⟩:=hrel
  obtain ⟨wo,rfl⟩:∃ wo:World,wo=wr:=⟨_,rfl⟩
  clear c0
  by_cases hlt:k+1<r.length
  ·have hx : wo.cell? ⟨b, off + (k + 1), none⟩ = some (.int .i64 (r.getD (k + 1) 0)) := ((bcell hB).1 _ _ hb).trans (hat (k + 1) hlt)
   have e1:(k:Int)+1<(r.length:Int):=by omega
   have e2:((k:Int)+1).toNat=k+1:=by omega
   have e3:0≤(k:Int)+1:=by omega
   have e4:IntKind.i64.wrap ((k:Int)+1+1)=(k:Int)+1+1:=IntWalk.i64_in _ (by omega)
   obtain ⟨m,hm⟩:∃ m,m=minTo r k:=⟨_,rfl⟩
   obtain ⟨y,hy⟩:∃ y,y=r.getD (k+1) 0:=⟨_,rfl⟩
   obtain ⟨q,hq⟩:∃ q,q=mnI m y:=⟨_,rfl⟩
   have HQ:Hid (minTo r (k+1)=q):=by show _=_;rw [hq,hm,hy];rfl
   have hrun:∀ (ts:Array TypeId) (t:TypeId) (w:World),(Builtin.min_ ts t #[.int .i64 m,.int .i64 y]).run Tryz.prog w = .ok (.int .i64 q) w:=fun ts t w=>by rw [run_min_int2,hq];rfl
   rw [← hy] at hx
   rw [← hm]
   clear hat hm hy hq
   go_wp2
   go_roundw
   case rel=>exact ⟨k+1,hlt,by simp,by rw [HQ.out],hB⟩
   case measure=>simp [intOf];omega
  ·have e1 : ¬ ((k : Int) + 1 < (r.length : Int)) := by omega
   have hke:k=r.length-1:=by omega
   have HQ:Hid (minL r=minTo r k):=by show _=_;unfold minL;rw [hke]
   clear hat
   generalize minTo r k=m at *
   go_wp2
   go_returns
   exact ret_int HQ.out.symm hB
def mxI (x y:Int):Int:=if y > x then y else x
def maxTo (r : List Int) : Nat → Int
 | 0=>r.getD 0 0
 | k+1=>mxI (maxTo r k) (r.getD (k+1) 0)
def maxL (r:List Int):Int:=maxTo r (r.length-1)
theorem smax_calls (A:Option Addr) (n c:Nat) (r:List Int) (hr:0<r.length) (w:World) (hS:SlI w A n c r):Calls Tryz.prog 92 #[.slice A n c] w (Ret (.int .i64 (maxL r)) w):=by
 have hn:=hS.len
 subst hn
 obtain ⟨b,off,rfl,hb,hat⟩:=hS.at_ (by intro h;subst h;simp at hr)
 have hcap:=hS.cap
 have hbig:=hS.big
 have h1:¬ ((r.length:Int)<1):=by omega
 have h2:(0:Int)<(r.length:Int):=by omega
 have c0:w.cell? ⟨b,off,none⟩=some (.int .i64 (maxTo r 0)):=by simpa [maxTo] using hat 0 hr
 clear hS
 go_enter Tryz.func92,Tryz.ntmps92
 go_wp2
 go_loopw [3,4] (fun m i wr=>∃ k:Nat,k<r.length∧i = .int .i64 ((k:Int)+1)∧m = .int .i64 (maxTo r k)∧Below w.heap.size w wr) (fun _ i _=>r.length-(intOf i).toNat)
 case atStart=>exact ⟨0,hr,by simp,rfl,Below.refl _ _⟩
 case round =>
  obtain ⟨k,hk,rfl,rfl,hB⟩:=hrel
  obtain ⟨wo,rfl⟩:∃ wo:World,wo=wr:=⟨_,rfl⟩
  clear c0
  by_cases hlt:k+1<r.length
  ·have hx : wo.cell? ⟨b, off + (k + 1), none⟩ = some (.int .i64 (r.getD (k + 1) 0)) := ((bcell hB).1 _ _ hb).trans (hat (k + 1) hlt)
   have e1:(k:Int)+1<(r.length:Int):=by omega
   have e2:((k:Int)+1).toNat=k+1:=by omega
   have e3:0≤(k:Int)+1:=by omega
   have e4:IntKind.i64.wrap ((k:Int)+1+1)=(k:Int)+1+1:=IntWalk.i64_in _ (by omega)
   obtain ⟨m,hm⟩:∃ m,m=maxTo r k:=⟨_,rfl⟩
   obtain ⟨y,hy⟩:∃ y,y=r.getD (k+1) 0:=⟨_,rfl⟩
   obtain ⟨q,hq⟩:∃ q,q=mxI m y:=⟨_,rfl⟩
   have HQ:Hid (maxTo r (k+1)=q):=by show _=_;rw [hq,hm,hy];rfl
   have hrun:∀ (ts:Array TypeId) (t:TypeId) (w:World),(Builtin.max_ ts t #[.int .i64 m,.int .i64 y]).run Tryz.prog w = .ok (.int .i64 q) w:=fun ts t w=>by rw [run_max_int2,hq];rfl
   rw [← hy] at hx
   rw [← hm]
   clear hat hm hy hq
   go_wp2
   go_roundw
   case rel=>exact ⟨k+1,hlt,by simp,by rw [HQ.out],hB⟩
   case measure=>simp [intOf];omega
  ·have e1 : ¬ ((k : Int) + 1 < (r.length : Int)) := by omega
   have hke:k=r.length-1:=by omega
   have HQ:Hid (maxL r=maxTo r k):=by show _=_;unfold maxL;rw [hke]
   clear hat
   generalize maxTo r k=m at *
   go_wp2
   go_returns
   exact ret_int HQ.out.symm hB

def OwnI (w:World) (B:Nat) (v:Value) (r:List Int):Prop:=w.ownsRow B 3 1 v r.length (r.map fun x=>.int .i64 x)
theorem OwnI.nil (w:World) (B:Nat):OwnI w B (.slice none 0 0) []:=World.ownsRow_nil _ _ _ _
theorem OwnI.kept {w w':World} {B:Nat} {v:Value} {r:List Int} {row:Option Nat} (h:OwnI w B v r) (hg:w.grownBy w' row) (hr:v.ownBlock=none∨v.ownBlock≠row):OwnI w' B v r:=World.ownsRow.kept h hg hr
theorem OwnI.below {w w':World} {B:Nat} {v:Value} {r:List Int} (h:OwnI w B v r) (hb:Below w.heap.size w w'):OwnI w' B v r :=
 h.kept (grown_of_below (row:=none) hb) (by cases hv:v.ownBlock with | none=>exact .inl rfl | some k=>exact .inr (by simp))
theorem OwnI.alloc {w:World} {B:Nat} {v:Value} {r:List Int} (h:OwnI w B v r) (o:Obj):OwnI (w.alloc o) B v r:=World.ownsRow.alloc h o
theorem OwnI.drew {w:World} {B:Nat} {v:Value} {r:List Int} (h:OwnI w B v r):OwnI w.drew B v r:=h
theorem OwnI.grown {w w':World} {B:Nat} {v:Value} {r:List Int} (h:OwnI w B v r) (hg:w.grownBy w' v.ownBlock) (hB:B≤w.heap.size):Below B w w' :=
 (Below.refl B w).grown hg hB (fun k hk=>(World.ownsRow.lt h k hk).1)
theorem OwnI.sl {w:World} {B:Nat} {v:Value} {r:List Int} (h:OwnI w B v r):∃ A n c,v = .slice A n c∧SlI w A n c r:=by
 have hc:=fun g hg=>World.ownsRow.cells h (g:=g) hg
 obtain ⟨h1,h2 | ⟨g,cap,cur,rfl,hb,hg,hn,hm,hs,ht⟩⟩:=h
 ·obtain ⟨rfl, h0⟩ := h2
  refine ⟨none,0,0,rfl,⟨h0.symm,by omega,by omega,fun hl=>?_⟩⟩
  exact absurd (List.length_eq_zero_iff.1 h0) hl
 ·refine ⟨_, _, _, rfl, ⟨rfl, hn, by unfold maxLen at hm; omega, fun _ => ⟨g, 0, rfl, (Array.getElem?_eq_some_iff.1 hg).1, fun j hj => ?_⟩⟩⟩
  have:=hc g rfl j (.int .i64 (r.getD j 0)) (by simp [hj])
  have hadd:(⟨g,0,none⟩:Addr).add j=⟨g,0+j,none⟩:=by unfold Addr.add;split <;> simp_all
  rwa [hadd] at this
theorem info_int:(Tryz.prog.info? 3).map (fun i=>(i.zero,i.size,i.bytes))=some (some (.int .i64 0),1,8):=by kernel_rfl
theorem grown_cell' {a b:World} {row:Option Nat} {k o:Nat} (h:a.grownBy b row) (hk:row≠some k) (hl:k<a.heap.size):b.cell? ⟨k,o,none⟩=a.cell? ⟨k,o,none⟩:=by
 exact World.cell?_of_block (h.block k hl (fun e=>hk e.symm))
theorem ownI_dis {w:World} {B:Nat} {s s' t:Value} {r:List Int} (hdis:t.ownBlock=none∨t.ownBlock≠s.ownBlock) (hat:s'.ownBlock=s.ownBlock∨s'.ownBlock=some w.heap.size) (ht:OwnI w B t r):t.ownBlock=none∨t.ownBlock≠s'.ownBlock:=by
 rcases hdis with h | h
 ·exact .inl h
 ·rcases hat with e | e
  ·rw [e];exact .inr h
  ·refine .inr fun e2 => ?_
   rw [e] at e2
   have:=(World.ownsRow.lt ht _ e2).2
   omega

theorem step_append_int {w : World} {ops : Array Oper} {o : Oper} {a : Act} {K : Act → World → Prop} {Q : Exit → Act → World → Prop} {E : Prop} (hgd : o.guard = none) (s x : Operand)
  (ho:o.op = .call { callee:=.builtin .append,args:=#[s,x],argTypes:=#[22,22] })
  (B:Nat) (v:Value) (r:List Int) (hs:a.eval s=v) (hown:OwnI w B v r) (b n c:Nat) (z:Int) (hx:a.eval x = .slice (some ⟨b,0,none⟩) 1 1) (hc:w.cell? ⟨b,0,none⟩=some (.int .i64 z))
  (hl:r.length+1≤8796093022208) (hB:B≤w.heap.size)
  (h:∀ v' w',OwnI w' B v' (r ++ [z])→w.grownBy w' v.ownBlock→(v'.ownBlock=v.ownBlock∨v'.ownBlock=some w.heap.size)→K (a.put o.dst v') w'):if Region.wanted o (yielded ops a.tmps)=true then Oper.wp Tryz.prog o a w K Q else E:=by
 have hw:Region.wanted o (yielded ops a.tmps)=true:=by simp [Region.wanted,hgd]
 rw [if_pos hw]
 obtain ⟨i0,hi,hz0,hz1,hz2⟩:=info_parts info_int
 obtain ⟨v',w',hr,h2,h3,h4,h5⟩:=run_append_own_at (P:=Tryz.prog) w B 22 o.type 3 i0 (.int .i64 0) 1 8 Tryz.underlying22 hi hz0 hz1 hz2 rfl (by decide) v r.length (r.map fun x=>.int .i64 x) hown ⟨b,0,none⟩ 1 1 [.int .i64 z] rfl (fun j u hj=>by
  cases j with
  | zero=>simp at hj;subst hj;simpa [Addr.add] using hc
  | succ j=>simp at hj) (by simp [Value.oneCell']) (by unfold maxLen;omega) (by omega) hB
 unfold Oper.wp execOp
 simp only [ho,resolve,invoke,builtin,Sem.run_bind,Sem.run_pure,Result.andThen_ok,List.map_toArray,List.map_cons,List.map_nil,hs,hx,hr]
 refine h v' w' ?_ h3 h5
 unfold OwnI
 simpa using h2
theorem dis_symm {s t:Value} (h:t.ownBlock=none∨t.ownBlock≠s.ownBlock):s.ownBlock=none∨s.ownBlock≠t.ownBlock:=by
 rcases h with h | h
 ·rw [h]
  cases s.ownBlock with
  | none=>exact .inl rfl
  | some k=>exact .inr (by simp)
 ·exact .inr (fun e=>h e.symm)

structure Hold1 (w : World) (g : Nat) (z : Int) : Prop where
 c:w.cell? ⟨g,0,none⟩=some (.int .i64 z)
 lt:g<w.heap.size
theorem Hold1.here (w:World) (z:Int) (t:TypeId):Hold1 (w.alloc (.cells #[.int .i64 z] t)) w.heap.size z:=⟨by go_simp,by simp⟩
theorem Hold1.drew {w:World} {g:Nat} {z:Int} (h:Hold1 w g z):Hold1 w.drew g z:=⟨h.c,h.lt⟩
theorem keepHold1 {w w':World} {g:Nat} {z:Int} (hb:Below w.heap.size w w') (h:Hold1 w g z):Hold1 w' g z:=⟨keepCell hb h.c,Nat.lt_of_lt_of_le h.lt hb.size⟩

structure B4 (w : World) (g : Nat) : Prop where
 c:∃ x y z u:Value,w.cell? ⟨g,0,none⟩=some x∧w.cell? ⟨g,1,none⟩=some y∧w.cell? ⟨g,2,none⟩=some z∧w.cell? ⟨g,3,none⟩=some u
 free:∀ j,w.frozen? ⟨g,j,none⟩=false
theorem B4.lt {w:World} {g:Nat} (h:B4 w g):g<w.heap.size:=by obtain ⟨⟨_,_,_,_,h0,_⟩,_⟩:=h;exact lt_of_cell h0
theorem keepB4B {w w':World} {B g:Nat} (hb:Below B w w') (hg:g<B) (h:B4 w g):B4 w' g:=by
 obtain ⟨⟨x,y,z,u,h0,h1,h2,h3⟩,hf⟩:=h
 exact ⟨⟨x,y,z,u,((bcell hb).1 _ _ hg).trans h0,((bcell hb).1 _ _ hg).trans h1,((bcell hb).1 _ _ hg).trans h2,((bcell hb).1 _ _ hg).trans h3⟩,fun j=>((bcell hb).2 _ _ hg).trans (hf j)⟩
theorem keepB4 {w w':World} {g:Nat} (hb:Below w.heap.size w w') (h:B4 w g):B4 w' g:=keepB4B hb h.lt h
theorem B4.alloc {w:World} {g:Nat} (h:B4 w g) (o:Obj):B4 (w.alloc o) g:=keepB4 Ba h
theorem B4.drew {w:World} {g:Nat} (h:B4 w g):B4 w.drew g:=⟨h.c,h.free⟩
theorem B4.here (w:World) (a b c d:Int) (t:TypeId):B4 (w.alloc (.cells #[.int .i64 a,.int .i64 b,.int .i64 c,.int .i64 d] t)) w.heap.size :=
 ⟨⟨.int .i64 a,.int .i64 b,.int .i64 c,.int .i64 d,by go_simp,by go_simp,by go_simp,by go_simp⟩,fun j=>by go_simp⟩
def xsL (l:List V):List Int:=l.map fun p=>p.1
def ysL (l:List V):List Int:=l.map fun p=>p.2
theorem xsL_len (l:List V):(xsL l).length=l.length:=by simp [xsL]
theorem ysL_len (l:List V):(ysL l).length=l.length:=by simp [ysL]
theorem px_lt' {l:List V} {k:Nat} (h:k<l.length):(l[k]).1=px l k:=by simp [px,h]
theorem py_lt' {l:List V} {k:Nat} (h:k<l.length):(l[k]).2=py l k:=by simp [py,h]
abbrev boxV (x y u v:Int):Value:=.agg #[.int .i64 x,.int .i64 y,.int .i64 u,.int .i64 v]
theorem raround_calls (A:Option Addr) (n c:Nat) (l:List V) (w:World) (hS:Sl w A n c l) (h1:0<l.length) (h8:l.length≤8) :
  Calls Tryz.prog 47 #[.slice A n c] w (Ret (boxV (minL (xsL l)) (minL (ysL l)) (maxL (xsL l)) (maxL (ysL l))) w):=by
 have HSW:=hid hS
 have hn:=hS.len
 subst hn
 clear hS
 go_enter Tryz.func47,Tryz.ntmps47
 go_wp2
 go_loopw [3,4,9] (fun s t i wr=>∃ k:Nat,k≤l.length∧i = .int .i64 k∧OwnI wr (w.heap.size+1) s (xsL (l.take k))∧OwnI wr (w.heap.size+1) t (ysL (l.take k))∧(t.ownBlock=none∨t.ownBlock≠s.ownBlock)∧B4 wr w.heap.size∧Below w.heap.size w wr) (fun _ _ i _=>l.length-(intOf i).toNat)
 case atStart=>exact ⟨0,Nat.zero_le _,rfl,OwnI.nil _ _,OwnI.nil _ _,.inl rfl,B4.here _ _ _ _ _ _,by go_grown⟩
 case round =>
  obtain ⟨k,hk,rfl,hx,hy,hdis,hb4,hB⟩:=hrel
  obtain ⟨wo,rfl⟩:∃ wo:World,wo=wr:=⟨_,rfl⟩
  have HX0:=hid hx
  have HY0:=hid hy
  have HB0:=hid hb4
  clear hx hy hb4
  by_cases hlt:k<l.length
  ·obtain ⟨ba, off, hA, hC⟩ := (HSW.out.below hB).at_ (by intro h; subst h; simp at hlt)
   subst hA
   have hcx:=hC.x k hlt
   have hcy:=hC.y k hlt
   have hbo:=hC.lt
   obtain ⟨wa,hwa⟩:∃ wa,wa=wo.alloc (.cells #[.int .i64 (px l k),.int .i64 (py l k)] 27):=⟨_,rfl⟩
   obtain ⟨gp,hgp⟩:∃ g,g=wo.heap.size:=⟨_,rfl⟩
   have hgpn:∀ g,u3.ownBlock=some g→g<gp:=fun g h=>by rw [hgp];exact (World.ownsRow.lt HX0.out g h).2
   have HX:=hid (show OwnI wa (w.heap.size+1) u3 (xsL (l.take k)) by rw [hwa];exact HX0.out.alloc _)
   have HY:=hid (show OwnI wa (w.heap.size+1) u4 (ysL (l.take k)) by rw [hwa];exact HY0.out.alloc _)
   have HB:=hid (show B4 wa w.heap.size by rw [hwa];exact HB0.out.alloc _)
   have hBa:Below w.heap.size w wa:=by rw [hwa];exact hB.alloc hB.size _
   have p0:wa.cell? ⟨gp,0,none⟩=some (.int .i64 (px l k)):=by rw [hwa,hgp];go_simp
   have p1:wa.cell? ⟨gp,1,none⟩=some (.int .i64 (py l k)):=by rw [hwa,hgp];go_simp
   clear HX0 HY0 HB0 hB hC
   go_upto_region 5 with fail
   rw [← hwa,← hgp]
   clear hwa hgp hcx hcy hbo
   refine wp_region_noPanic ?_
   refine wp_region_U (S:=(S3 (fun w'=>OwnI w' (w.heap.size+1) u3 (xsL (l.take k))∧OwnI w' (w.heap.size+1) u4 (ysL (l.take k))∧w'.cell? ⟨gp,0,none⟩=some (.int .i64 (px l k))∧w'.cell? ⟨gp,1,none⟩=some (.int .i64 (py l k))∧B4 w' w.heap.size∧Below w.heap.size w w') (fun w'=>OwnI w' (w.heap.size+1) u4 (ysL (l.take k))∧w'.cell? ⟨gp,1,none⟩=some (.int .i64 (py l k))∧B4 w' w.heap.size∧Below w.heap.size w w'))) (T:=(fun j=>[0,0,0,0,1,0,0,0,0,2].getD j 0)) (by kernel_rfl) (S3i0 ⟨HX.out.drew,HY.out.drew,p0,p1,HB.out.drew,hBa.drew⟩) (fun hH=>?_)
   have hWr1:Weaker (S3 (fun w'=>OwnI w' (w.heap.size+1) u3 (xsL (l.take k))∧OwnI w' (w.heap.size+1) u4 (ysL (l.take k))∧w'.cell? ⟨gp,0,none⟩=some (.int .i64 (px l k))∧w'.cell? ⟨gp,1,none⟩=some (.int .i64 (py l k))∧B4 w' w.heap.size∧Below w.heap.size w w') (fun w'=>OwnI w' (w.heap.size+1) u4 (ysL (l.take k))∧w'.cell? ⟨gp,1,none⟩=some (.int .i64 (py l k))∧B4 w' w.heap.size∧Below w.heap.size w w')):=weaker3 (fun _ ⟨q0,q1,q2,q3,q4,q5⟩=>⟨q1,q3,q4,q5⟩)
   refine Utn [(0,13),(1,14),(2,15)] 9 0 0 (L':=?Lr1_1) hWr1 hH ?hyr1_1 ?_
   case hyr1_1=>((iterate 3 apply tkC;rfl;kernel_rfl;intro w' hSw;replace hSw:=S3o0 hSw;(try dsimp only at hSw);have q0:=hSw.1;have q1:=hSw.2.1;have q2:=hSw.2.2.1;have q3:=hSw.2.2.2.1;have q4:=hSw.2.2.2.2.1;have q5:=hSw.2.2.2.2.2;(try simp only [sB,sC]);go_simp;(try with_reducible rfl));exact tkN)
   simp only [sB,sC]
   refine Utn [(5,18),(6,19),(7,20)] 6 1 0 (L':=?Lr1_4) hWr1 hH ?hyr1_4 ?_
   case hyr1_4=>((iterate 3 apply tkC;rfl;kernel_rfl;intro w' hSw;replace hSw:=S3o1 hSw;(try dsimp only at hSw);have q1:=hSw.1;have q3:=hSw.2.1;have q4:=hSw.2.2.1;have q5:=hSw.2.2.2;(try simp only [sB,sC]);go_simp;(try with_reducible rfl));exact tkN)
   simp only [sB,sC]
   refine Ur [3,8] ?_
   refine Uc 0 rfl (fun K hK=>?_) ?_
   ·try clear hb
    have hG:=hH
    replace hG:=S3o0 hG;(try dsimp only at hG);have q0:=hG.1;have q1:=hG.2.1;have q2:=hG.2.2.1;have q3:=hG.2.2.2.1;have q4:=hG.2.2.2.2.1;have q5:=hG.2.2.2.2.2
    go_simp
    refine hK.out _ _ ?hsr1_7 (fun hH2=>?hrr1_7)
    case hsr1_7=>exact S3i0 (by have hG:=hH;replace hG:=S3o0 hG;(try dsimp only at hG);have q0:=hG.1;have q1:=hG.2.1;have q2:=hG.2.2.1;have q3:=hG.2.2.2.1;have q4:=hG.2.2.2.2.1;have q5:=hG.2.2.2.2.2;exact ⟨q0.alloc _,q1.alloc _,keepCell Ba q2,keepCell Ba q3,q4.alloc _,q5.alloc q5.size _⟩)
    clear hK K hH
    have hH:=hH2
    clear hH2
    try simp only [Act.put,sA,sB,sC]
    have hT:Hold1 ((wa.alloc (.cells #[.int .i64 (px l k)] 3)).drew) wa.heap.size (px l k):=Hold1.drew (Hold1.here _ _ _)
    obtain ⟨gT,hgT⟩:∃ g,g=wa.heap.size:=⟨_,rfl⟩
    have hlT:w.heap.size<gT:=by rw [hgT];exact q4.lt
    rw [← hgT] at hT
    try rw [← hgT]
    clear hgT q0 q1 q2 q3 q4 q5
    generalize (wa.alloc (.cells #[.int .i64 (px l k)] 3)).drew=wx3 at *
    refine Ur [4,8] ?_
    refine Uc 1 rfl (fun K hK=>?_) ?_
    ·have hG := hH
     replace hG:=S3o0 hG;(try dsimp only at hG);have q0:=hG.1;have q1:=hG.2.1;have q2:=hG.2.2.1;have q3:=hG.2.2.2.1;have q4:=hG.2.2.2.2.1;have q5:=hG.2.2.2.2.2
     have hle:=q4.lt
     (refine step_append_int (by rfl) _ _ (by rfl) (w.heap.size+1) u3 (xsL (l.take k)) (by rfl) q0 gT 1 1 (px l k) (by rfl) hT.c (by rw [xsL_len,List.length_take];omega) (by omega) ?_;intro s' wn hos hgs hat;have hbn:=OwnI.grown q0 hgs (by omega);have HT1:=hid (q1.kept hgs hdis);have hdis1:=ownI_dis hdis hat q1)
     refine hK.out _ _ ?hsr1_8 (fun hH2=>?hrr1_8)
     case hsr1_8=>exact S3i1 ⟨HT1.out,(grown_cell' hgs (fun h=>by have:=hgpn _ h;omega) (lt_of_cell q3)).trans q3,keepB4B hbn (by omega) q4,q5.trans (hbn.mono (by omega))⟩
     clear hK K hH
     have hH:=hH2
     clear hH2
     try simp only [Act.put,List.getElem_toArray,List.getElem_cons_succ,List.getElem_cons_zero,List.setIfInBounds_toArray,List.set_cons_zero,List.set_cons_succ]
     have HOS:=hid hos
     clear hos hgs hat hbn HT1 hT q0 q1 q2 q3 q4 q5
     refine U1 8 1 rfl (fun K hK=>?_)
     try clear hb
     have hG:=hH
     replace hG:=S3o1 hG;(try dsimp only at hG);have q1:=hG.1;have q3:=hG.2.1;have q4:=hG.2.2.1;have q5:=hG.2.2.2
     have hne8:∀ g,u4.ownBlock=some g→g<wn.heap.size:=fun g h=>(World.ownsRow.lt q1 g h).2
     go_simp
     refine hK.out _ _ ?hsr1_9 (fun hH2=>?hrr1_9)
     case hsr1_9=>exact S3i1 (by have hG:=hH;replace hG:=S3o1 hG;(try dsimp only at hG);have q1:=hG.1;have q3:=hG.2.1;have q4:=hG.2.2.1;have q5:=hG.2.2.2;exact ⟨q1.alloc _,keepCell Ba q3,q4.alloc _,q5.alloc q5.size _⟩)
     clear hK K hH
     have hH:=hH2
     clear hH2
     try simp only [Act.put,sA,sB,sC]
     have hU:Hold1 (wn.alloc (.cells #[.int .i64 (py l k)] 3)) wn.heap.size (py l k):=Hold1.here _ _ _
     obtain ⟨gU,hgU⟩:∃ g,g=wn.heap.size:=⟨_,rfl⟩
     have hlU:w.heap.size<gU:=by rw [hgU];exact q4.lt
     replace hne8:∀ g,u4.ownBlock=some g→g<gU:=fun g h=>by rw [hgU];exact hne8 g h
     replace HOS:=hid (HOS.out.alloc (.cells #[.int .i64 (py l k)] 3))
     rw [← hgU] at hU
     try rw [← hgU]
     clear hgU q1 q3 q4 q5
     generalize wn.alloc (.cells #[.int .i64 (py l k)] 3)=wx8 at *
     refine U1 9 2 rfl (fun K hK=>?_)
     have hG:=hH
     replace hG:=S3o1 hG;(try dsimp only at hG);have q1:=hG.1;have q3:=hG.2.1;have q4:=hG.2.2.1;have q5:=hG.2.2.2
     have hle:=q4.lt
     (refine step_append_int (by rfl) _ _ (by rfl) (w.heap.size+1) u4 (ysL (l.take k)) (by rfl) q1 gU 1 1 (py l k) (by rfl) hU.c (by rw [ysL_len,List.length_take];omega) (by omega) ?_;intro t' w1 hot hgt hat2)
     refine hK.out _ _ ?hsr1_10 (fun hH2=>?hrr1_10)
     case hsr1_10=>exact S3i2
     clear hK K hH
     have hH:=hH2
     clear hH2
     try simp only [Act.put,List.getElem_toArray,List.getElem_cons_succ,List.getElem_cons_zero,List.setIfInBounds_toArray,List.set_cons_zero,List.set_cons_succ]
     refine Utn [(10,3),(11,4)] 0 2 2 (L':=?Lr1_11) hWr1 hH ?hyr1_11 ?_
     case hyr1_11=>((iterate 2 apply tkC;rfl;kernel_rfl;intro w' hSw;clear hSw;(try simp only [sB,sC]);go_simp;(try with_reducible rfl));exact tkN)
     simp only [sB,sC]
     refine wpAnyU_done (by kernel_rfl) ?_ _ _
     refine NoPanic.normal ?_
     have hos1:=HOS.out.kept hgt (dis_symm hdis1)
     have hbt:=OwnI.grown q1 hgt (by omega)
     have hb4n:=keepB4B hbt (by omega) q4
     have hBn:=q5.trans (hbt.mono (by omega))
     have hdn:=dis_symm (ownI_dis (dis_symm hdis1) hat2 HOS.out)
     have H1:Hid (OwnI w1 (w.heap.size+1) s' (xsL (l.take (k+1)))):=by show OwnI _ _ _ _;rw [List.take_succ_eq_append_getElem hlt,xsL,List.map_append,List.map_singleton,px_lt' hlt];exact hos1
     have H2:Hid (OwnI w1 (w.heap.size+1) t' (ysL (l.take (k+1)))):=by show OwnI _ _ _ _;rw [List.take_succ_eq_append_getElem hlt,ysL,List.map_append,List.map_singleton,py_lt' hlt];exact hot
     have H4:=hid hb4n
     clear hos1 hbt hb4n hot hgt hat2 hdis1 HOS q1 q3 q4 q5 hH hG
     go_wp2
     go_roundw
     case rel=>exact ⟨k+1,hlt,by go_num,H1.out,H2.out,hdn,H4.out,hBn⟩
     case measure=>simp [intOf];omega
    refine Uc 0 rfl (fun K hK=>?_) ?_
    ·try clear hb
     have hG:=hH
     replace hG:=S3o0 hG;(try dsimp only at hG);have q0:=hG.1;have q1:=hG.2.1;have q2:=hG.2.2.1;have q3:=hG.2.2.2.1;have q4:=hG.2.2.2.2.1;have q5:=hG.2.2.2.2.2
     have hne8:∀ g,u4.ownBlock=some g→g<wx3.heap.size:=fun g h=>(World.ownsRow.lt q1 g h).2
     have hsn8:∀ g,u3.ownBlock=some g→g<wx3.heap.size:=fun g h=>(World.ownsRow.lt q0 g h).2
     go_simp
     refine hK.out _ _ ?hsr1_13 (fun hH2=>?hrr1_13)
     case hsr1_13=>exact S3i0 (by have hG:=hH;replace hG:=S3o0 hG;(try dsimp only at hG);have q0:=hG.1;have q1:=hG.2.1;have q2:=hG.2.2.1;have q3:=hG.2.2.2.1;have q4:=hG.2.2.2.2.1;have q5:=hG.2.2.2.2.2;exact ⟨q0.alloc _,q1.alloc _,keepCell Ba q2,keepCell Ba q3,q4.alloc _,q5.alloc q5.size _⟩)
     clear hK K hH
     have hH:=hH2
     clear hH2
     try simp only [Act.put,sA,sB,sC]
     have hU:Hold1 (wx3.alloc (.cells #[.int .i64 (py l k)] 3)) wx3.heap.size (py l k):=Hold1.here _ _ _
     replace hT:=keepHold1 ((Below.refl _ _).alloc (Nat.le_refl _) (.cells #[.int .i64 (py l k)] 3)) hT
     obtain ⟨gU,hgU⟩:∃ g,g=wx3.heap.size:=⟨_,rfl⟩
     have hlU:w.heap.size<gU:=by rw [hgU];exact q4.lt
     replace hne8:∀ g,u4.ownBlock=some g→g<gU:=fun g h=>by rw [hgU];exact hne8 g h
     replace hsn8:∀ g,u3.ownBlock=some g→g<gU:=fun g h=>by rw [hgU];exact hsn8 g h
     rw [← hgU] at hU
     try rw [← hgU]
     clear hgU q0 q1 q2 q3 q4 q5
     generalize wx3.alloc (.cells #[.int .i64 (py l k)] 3)=wx8 at *
     refine U1 4 1 rfl (fun K hK=>?_)
     have hG:=hH
     replace hG:=S3o0 hG;(try dsimp only at hG);have q0:=hG.1;have q1:=hG.2.1;have q2:=hG.2.2.1;have q3:=hG.2.2.2.1;have q4:=hG.2.2.2.2.1;have q5:=hG.2.2.2.2.2
     have hle:=q4.lt
     (refine step_append_int (by rfl) _ _ (by rfl) (w.heap.size+1) u3 (xsL (l.take k)) (by rfl) q0 gT 1 1 (px l k) (by rfl) hT.c (by rw [xsL_len,List.length_take];omega) (by omega) ?_;intro s' wn hos hgs hat;have hbn:=OwnI.grown q0 hgs (by omega);have HT1:=hid (q1.kept hgs hdis);have hdis1:=ownI_dis hdis hat q1)
     replace hU:Hold1 wn gU (py l k):=⟨(grown_cell' hgs (fun h=>by have:=hsn8 _ h;omega) hU.lt).trans hU.c,Nat.lt_of_lt_of_le hU.lt hgs.size⟩
     refine hK.out _ _ ?hsr1_14 (fun hH2=>?hrr1_14)
     case hsr1_14=>exact S3i1 ⟨HT1.out,(grown_cell' hgs (fun h=>by have:=hgpn _ h;omega) (lt_of_cell q3)).trans q3,keepB4B hbn (by omega) q4,q5.trans (hbn.mono (by omega))⟩
     clear hK K hH
     have hH:=hH2
     clear hH2
     try simp only [Act.put,List.getElem_toArray,List.getElem_cons_succ,List.getElem_cons_zero,List.setIfInBounds_toArray,List.set_cons_zero,List.set_cons_succ]
     have HOS:=hid hos
     clear hos hgs hat hbn HT1 hT q0 q1 q2 q3 q4 q5
     refine U1 9 2 rfl (fun K hK=>?_)
     have hG:=hH
     replace hG:=S3o1 hG;(try dsimp only at hG);have q1:=hG.1;have q3:=hG.2.1;have q4:=hG.2.2.1;have q5:=hG.2.2.2
     have hle:=q4.lt
     (refine step_append_int (by rfl) _ _ (by rfl) (w.heap.size+1) u4 (ysL (l.take k)) (by rfl) q1 gU 1 1 (py l k) (by rfl) hU.c (by rw [ysL_len,List.length_take];omega) (by omega) ?_;intro t' w1 hot hgt hat2)
     refine hK.out _ _ ?hsr1_15 (fun hH2=>?hrr1_15)
     case hsr1_15=>exact S3i2
     clear hK K hH
     have hH:=hH2
     clear hH2
     try simp only [Act.put,List.getElem_toArray,List.getElem_cons_succ,List.getElem_cons_zero,List.setIfInBounds_toArray,List.set_cons_zero,List.set_cons_succ]
     refine Utn [(10,3),(11,4)] 0 2 2 (L':=?Lr1_16) hWr1 hH ?hyr1_16 ?_
     case hyr1_16=>((iterate 2 apply tkC;rfl;kernel_rfl;intro w' hSw;clear hSw;(try simp only [sB,sC]);go_simp;(try with_reducible rfl));exact tkN)
     simp only [sB,sC]
     refine wpAnyU_done (by kernel_rfl) ?_ _ _
     refine NoPanic.normal ?_
     have hos1:=HOS.out.kept hgt (dis_symm hdis1)
     have hbt:=OwnI.grown q1 hgt (by omega)
     have hb4n:=keepB4B hbt (by omega) q4
     have hBn:=q5.trans (hbt.mono (by omega))
     have hdn:=dis_symm (ownI_dis (dis_symm hdis1) hat2 HOS.out)
     have H1:Hid (OwnI w1 (w.heap.size+1) s' (xsL (l.take (k+1)))):=by show OwnI _ _ _ _;rw [List.take_succ_eq_append_getElem hlt,xsL,List.map_append,List.map_singleton,px_lt' hlt];exact hos1
     have H2:Hid (OwnI w1 (w.heap.size+1) t' (ysL (l.take (k+1)))):=by show OwnI _ _ _ _;rw [List.take_succ_eq_append_getElem hlt,ysL,List.map_append,List.map_singleton,py_lt' hlt];exact hot
     have H4:=hid hb4n
     clear hos1 hbt hb4n hot hgt hat2 hdis1 HOS q1 q3 q4 q5 hH hG
     go_wp2
     go_roundw
     case rel=>exact ⟨k+1,hlt,by go_num,H1.out,H2.out,hdn,H4.out,hBn⟩
     case measure=>simp [intOf];omega
    exact AllReadyU.nil
   refine Uc 0 rfl (fun K hK=>?_) ?_
   ·try clear hb
    have hG:=hH
    replace hG:=S3o0 hG;(try dsimp only at hG);have q0:=hG.1;have q1:=hG.2.1;have q2:=hG.2.2.1;have q3:=hG.2.2.2.1;have q4:=hG.2.2.2.2.1;have q5:=hG.2.2.2.2.2
    have hne8:∀ g,u4.ownBlock=some g→g<wa.heap.size:=fun g h=>(World.ownsRow.lt q1 g h).2
    have hsn8:∀ g,u3.ownBlock=some g→g<wa.heap.size:=fun g h=>(World.ownsRow.lt q0 g h).2
    go_simp
    refine hK.out _ _ ?hsr1_18 (fun hH2=>?hrr1_18)
    case hsr1_18=>exact S3i0 (by have hG:=hH;replace hG:=S3o0 hG;(try dsimp only at hG);have q0:=hG.1;have q1:=hG.2.1;have q2:=hG.2.2.1;have q3:=hG.2.2.2.1;have q4:=hG.2.2.2.2.1;have q5:=hG.2.2.2.2.2;exact ⟨q0.alloc _,q1.alloc _,keepCell Ba q2,keepCell Ba q3,q4.alloc _,q5.alloc q5.size _⟩)
    clear hK K hH
    have hH:=hH2
    clear hH2
    try simp only [Act.put,sA,sB,sC]
    have hU:Hold1 ((wa.alloc (.cells #[.int .i64 (py l k)] 3)).drew) wa.heap.size (py l k):=Hold1.drew (Hold1.here _ _ _)
    obtain ⟨gU,hgU⟩:∃ g,g=wa.heap.size:=⟨_,rfl⟩
    have hlU:w.heap.size<gU:=by rw [hgU];exact q4.lt
    replace hne8:∀ g,u4.ownBlock=some g→g<gU:=fun g h=>by rw [hgU];exact hne8 g h
    replace hsn8:∀ g,u3.ownBlock=some g→g<gU:=fun g h=>by rw [hgU];exact hsn8 g h
    rw [← hgU] at hU
    try rw [← hgU]
    clear hgU q0 q1 q2 q3 q4 q5
    generalize (wa.alloc (.cells #[.int .i64 (py l k)] 3)).drew=wx8 at *
    refine U1 3 0 rfl (fun K hK=>?_)
    try clear hb
    have hG:=hH
    replace hG:=S3o0 hG;(try dsimp only at hG);have q0:=hG.1;have q1:=hG.2.1;have q2:=hG.2.2.1;have q3:=hG.2.2.2.1;have q4:=hG.2.2.2.2.1;have q5:=hG.2.2.2.2.2
    go_simp
    refine hK.out _ _ ?hsr1_19 (fun hH2=>?hrr1_19)
    case hsr1_19=>exact S3i0 (by have hG:=hH;replace hG:=S3o0 hG;(try dsimp only at hG);have q0:=hG.1;have q1:=hG.2.1;have q2:=hG.2.2.1;have q3:=hG.2.2.2.1;have q4:=hG.2.2.2.2.1;have q5:=hG.2.2.2.2.2;exact ⟨q0.alloc _,q1.alloc _,keepCell Ba q2,keepCell Ba q3,q4.alloc _,q5.alloc q5.size _⟩)
    clear hK K hH
    have hH:=hH2
    clear hH2
    try simp only [Act.put,sA,sB,sC]
    have hT:Hold1 (wx8.alloc (.cells #[.int .i64 (px l k)] 3)) wx8.heap.size (px l k):=Hold1.here _ _ _
    replace hU:=keepHold1 ((Below.refl _ _).alloc (Nat.le_refl _) (.cells #[.int .i64 (px l k)] 3)) hU
    obtain ⟨gT,hgT⟩:∃ g,g=wx8.heap.size:=⟨_,rfl⟩
    have hlT:w.heap.size<gT:=by rw [hgT];exact q4.lt
    rw [← hgT] at hT
    try rw [← hgT]
    clear hgT q0 q1 q2 q3 q4 q5
    generalize wx8.alloc (.cells #[.int .i64 (px l k)] 3)=wx3 at *
    refine U1 4 1 rfl (fun K hK=>?_)
    have hG:=hH
    replace hG:=S3o0 hG;(try dsimp only at hG);have q0:=hG.1;have q1:=hG.2.1;have q2:=hG.2.2.1;have q3:=hG.2.2.2.1;have q4:=hG.2.2.2.2.1;have q5:=hG.2.2.2.2.2
    have hle:=q4.lt
    (refine step_append_int (by rfl) _ _ (by rfl) (w.heap.size+1) u3 (xsL (l.take k)) (by rfl) q0 gT 1 1 (px l k) (by rfl) hT.c (by rw [xsL_len,List.length_take];omega) (by omega) ?_;intro s' wn hos hgs hat;have hbn:=OwnI.grown q0 hgs (by omega);have HT1:=hid (q1.kept hgs hdis);have hdis1:=ownI_dis hdis hat q1)
    replace hU:Hold1 wn gU (py l k):=⟨(grown_cell' hgs (fun h=>by have:=hsn8 _ h;omega) hU.lt).trans hU.c,Nat.lt_of_lt_of_le hU.lt hgs.size⟩
    refine hK.out _ _ ?hsr1_20 (fun hH2=>?hrr1_20)
    case hsr1_20=>exact S3i1 ⟨HT1.out,(grown_cell' hgs (fun h=>by have:=hgpn _ h;omega) (lt_of_cell q3)).trans q3,keepB4B hbn (by omega) q4,q5.trans (hbn.mono (by omega))⟩
    clear hK K hH
    have hH:=hH2
    clear hH2
    try simp only [Act.put,List.getElem_toArray,List.getElem_cons_succ,List.getElem_cons_zero,List.setIfInBounds_toArray,List.set_cons_zero,List.set_cons_succ]
    have HOS:=hid hos
    clear hos hgs hat hbn HT1 hT q0 q1 q2 q3 q4 q5
    refine U1 9 2 rfl (fun K hK=>?_)
    have hG:=hH
    replace hG:=S3o1 hG;(try dsimp only at hG);have q1:=hG.1;have q3:=hG.2.1;have q4:=hG.2.2.1;have q5:=hG.2.2.2
    have hle:=q4.lt
    (refine step_append_int (by rfl) _ _ (by rfl) (w.heap.size+1) u4 (ysL (l.take k)) (by rfl) q1 gU 1 1 (py l k) (by rfl) hU.c (by rw [ysL_len,List.length_take];omega) (by omega) ?_;intro t' w1 hot hgt hat2)
    refine hK.out _ _ ?hsr1_21 (fun hH2=>?hrr1_21)
    case hsr1_21=>exact S3i2
    clear hK K hH
    have hH:=hH2
    clear hH2
    try simp only [Act.put,List.getElem_toArray,List.getElem_cons_succ,List.getElem_cons_zero,List.setIfInBounds_toArray,List.set_cons_zero,List.set_cons_succ]
    refine Utn [(10,3),(11,4)] 0 2 2 (L':=?Lr1_22) hWr1 hH ?hyr1_22 ?_
    case hyr1_22=>((iterate 2 apply tkC;rfl;kernel_rfl;intro w' hSw;clear hSw;(try simp only [sB,sC]);go_simp;(try with_reducible rfl));exact tkN)
    simp only [sB,sC]
    refine wpAnyU_done (by kernel_rfl) ?_ _ _
    refine NoPanic.normal ?_
    have hos1:=HOS.out.kept hgt (dis_symm hdis1)
    have hbt:=OwnI.grown q1 hgt (by omega)
    have hb4n:=keepB4B hbt (by omega) q4
    have hBn:=q5.trans (hbt.mono (by omega))
    have hdn:=dis_symm (ownI_dis (dis_symm hdis1) hat2 HOS.out)
    have H1:Hid (OwnI w1 (w.heap.size+1) s' (xsL (l.take (k+1)))):=by show OwnI _ _ _ _;rw [List.take_succ_eq_append_getElem hlt,xsL,List.map_append,List.map_singleton,px_lt' hlt];exact hos1
    have H2:Hid (OwnI w1 (w.heap.size+1) t' (ysL (l.take (k+1)))):=by show OwnI _ _ _ _;rw [List.take_succ_eq_append_getElem hlt,ysL,List.map_append,List.map_singleton,py_lt' hlt];exact hot
    have H4:=hid hb4n
    clear hos1 hbt hb4n hot hgt hat2 hdis1 HOS q1 q3 q4 q5 hH hG
    go_wp2
    go_roundw
    case rel=>exact ⟨k+1,hlt,by go_num,H1.out,H2.out,hdn,H4.out,hBn⟩
    case measure=>simp [intOf];omega
   exact AllReadyU.nil
  ·have hge : l.length ≤ k := by omega
   have e1:l.take k=l:=List.take_of_length_le hge
   obtain ⟨A1,n1,c1,e2,hs1⟩:=HX0.out.sl
   obtain ⟨A2,n2,c2,e3,hs2⟩:=HY0.out.sl
   rw [e1] at hs1 hs2
   subst e2 e3
   have HS1:=hid hs1
   have HS2:=hid hs2
   have HB:=HB0
   clear hs1 hs2 HX0 HY0 HB0 hdis
   have x0:0<(xsL l).length:=by rw [xsL_len];exact h1
   have y0:0<(ysL l).length:=by rw [ysL_len];exact h1
   go_wp2_with fail
   refine (smin_calls A1 n1 c1 (xsL l) x0 _ HS1.out).mono ?_
   rintro e v1 ⟨rfl,hv1⟩
   go_wp2_with fail
   refine (smin_calls A2 n2 c2 (ysL l) y0 _ (HS2.out.below hv1)).mono ?_
   rintro e v2 ⟨rfl,hv2⟩
   go_wp2_with fail
   refine (smax_calls A1 n1 c1 (xsL l) x0 _ ((HS1.out.below hv1).below hv2)).mono ?_
   rintro e v3 ⟨rfl,hv3⟩
   go_wp2_with fail
   refine (smax_calls A2 n2 c2 (ysL l) y0 _ (((HS2.out.below hv1).below hv2).below hv3)).mono ?_
   rintro e v4 ⟨rfl,hv4⟩
   have hb4:=keepB4 hv4 (keepB4 hv3 (keepB4 hv2 (keepB4 hv1 HB.out)))
   have hB4:=keepBelow hv4 (keepBelow hv3 (keepBelow hv2 (keepBelow hv1 hB)))
   obtain ⟨⟨z0,z1,z2,z3,k0,k1,k2,k3⟩,yf⟩:=hb4
   generalize minL (xsL l)=m1 at *
   generalize minL (ysL l)=m2 at *
   generalize maxL (xsL l)=m3 at *
   generalize maxL (ysL l)=m4 at *
   clear hv1 hv2 hv3 hv4 HS1 HS2 HB hB
   go_wp2
   refine bodyPost_ret (v:=boxV m1 m2 m3 m4) (by simp [results,Tryz.results47,go_sem,k0,k1,k2,k3]) rfl ⟨rfl,by go_grown⟩
end
end Go.Proofs.YtiaoandbdgdecaaGreat
