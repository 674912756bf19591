/- Parts of a proof: contracts and laws. -/
import Derived.Test.YtodpincpofoiiaaGreatQC45
import Derived.Test.YtodpincpofoiiaaGreatQC44
import Derived.Test.YtodpincpofoiiaaGreatQC47
import Derived.Test.YtodpincpofoiiaaGreatQC42
import Derived.Test.YtodpincpofoiiaaGreatQC08
import Derived.Test.YtodpincpofoiiaaGreatQC11
import Derived.Test.YtodpincpofoiiaaGreatQC28
import Derived.Test.YtodpincpofoiiaaGreatQC18
import Derived.Test.YtodpincpofoiiaaGreatQC03
import Derived.BigQuiet
import Derived.BigRegion
import Derived.Deep.DeepCutAuto
import Derived.Test.YtodpincpofoiiaaGreatQC17
import Derived.Test.YtodpincpofoiiaaGreatQCLB
set_option maxRecDepth 100000
set_option maxHeartbeats 16000000
namespace Go.Proofs.YtodpincpofoiiaaGreat
section
set_option linter.unusedVariables false
set_option linter.unusedSimpArgs false
open Go.RowKit

structure Cs (w : World) (g : Nat) (B : Option Addr) (n c : Nat) (p : List V) : Prop where
 a:w.cell? ⟨g,0,none⟩=some (.slice B n c)
 s:Sl w B n c p
theorem rayShape1_calls (A B:Option Addr) (n c n' c':Nat) (q p:List V) (g1 g2:Nat) (ux uy:Int) (w:World) (hp:Cs w g1 B n' c' p) (hu:Cf w g2 ux uy) (hS:Sl w A n c q) (h0u:withinB 65536000 ux uy=true) :
  Calls Tryz.prog 85 #[.slice A n c,.pointer (some ⟨g1,0,none⟩),.pointer (some ⟨g2,0,none⟩)] w (Ret (.tuple #[.int .i64 ((lineR (minusL q p) (0,0) (ux,uy)).getD 0),.bool (lineR (minusL q p) (0,0) (ux,uy)).isSome]) w):=by
 obtain ⟨mw,ml⟩:=minus_bd q p
 have HM:=hid (nminus_calls A B n c n' c' q p w hS hp.s)
 have HL:Hid (∀ (A1:Option Addr) (n1 c1:Nat) (w':World),Sl w' A1 n1 c1 (minusL q p)→Calls Tryz.prog 83 #[.slice A1 n1 c1,vecV 0 0,vecV ux uy] w' (Ret (.tuple #[.int .i64 ((lineR (minusL q p) (0,0) (ux,uy)).getD 0),.bool (lineR (minusL q p) (0,0) (ux,uy)).isSome]) w')):=fun A1 n1 c1 w' h=>rline_calls A1 n1 c1 (minusL q p) 0 0 ux uy w' h mw (by omega) rfl h0u
 have hl1:=lt_of_cell hp.a
 have hl2:=lt_of_cell hu.a
 have p0:=hp.a
 obtain ⟨u0,u1⟩:=hu
 clear hS hp h0u mw ml
 generalize (lineR (minusL q p) (0,0) (ux,uy)).getD 0=T at *
 generalize (lineR (minusL q p) (0,0) (ux,uy)).isSome=Bo at *
 generalize minusL q p=D at *
 generalize bothE q p=er at *
 go_enter Tryz.func85,Tryz.ntmps85
 go_wp2_with fail
 refine HM.out.mono ?_
 rintro e w1 ⟨A1,n1,c1,rfl,hD,-,hb⟩
 have k0:=keepCell hb u0
 have k1:=keepCell hb u1
 clear u0 u1 p0
 go_wp2_with fail
 refine (HL.out A1 n1 c1 _ hD).mono ?_
 rintro e w2 ⟨rfl,hb2⟩
 go_wp2
 refine bodyPost_ret (v:=.tuple #[.int .i64 T,.bool Bo]) (by simp [results,Tryz.results85,go_sem]) rfl ⟨rfl,keepBelow hb2 hb⟩
theorem cf_rayShape1_calls (args:Array Value) (w:World):(callFunc 85 args).run Tryz.prog w = .ok (.enter 85 args) w:=by kernel_rfl
end
end Go.Proofs.YtodpincpofoiiaaGreat
namespace Go.Proofs.YtodpincpofoiiaaGreat
section
set_option linter.unusedVariables false
set_option linter.unusedSimpArgs false
open Go.RowKit
def shapeO (L:List BE) (p:List V) (u:V):Option (Nat × Int):=frTo (fun q=>lineR (minusL q p) (0,0) u) L L.length

def shapeV (L:List BE) (p:List V) (u:V):Value:=if bodiesE L≠0 then .tuple #[.int .i64 0,.int .i64 0,.int .i64 (bodiesE L)] else if checkE p≠0 then .tuple #[.int .i64 0,.int .i64 0,.int .i64 (checkE p)] else if withinB 65536000 u.1 u.2=false then .tuple #[.int .i64 0,.int .i64 0,.int .i64 1] else frV (shapeO L p u)
theorem rayShape_calls (A B:Option Addr) (n c n' c':Nat) (L:List BE) (p:List V) (ux uy:Int) (w:World) (hS:SlB w A n c L) (hP:Sl w B n' c' p) :
  Calls Tryz.prog 33 #[.slice A n c,.slice B n' c',vecV ux uy] w (Ret (shapeV L p (ux,uy)) w):=by
 obtain ⟨W,hW⟩:∃ W,W=(w.alloc (.cells #[.slice B n' c'] 25)).alloc (.cells #[.int .i64 ux,.int .i64 uy] 24):=⟨_,rfl⟩
 have p0:W.cell? ⟨w.heap.size,0,none⟩=some (.slice B n' c'):=by rw [hW];go_simp
 have u0:W.cell? ⟨w.heap.size+1,0,none⟩=some (.int .i64 ux):=by rw [hW];go_simp
 have u1:W.cell? ⟨w.heap.size+1,1,none⟩=some (.int .i64 uy):=by rw [hW];go_simp
 have hB:Below w.heap.size w W:=by rw [hW];go_grown
 have HSW:=hid hS
 have HPW:=hid hP
 clear hS hP
 have HE:Hid (shapeV L p (ux,uy)=if bodiesE L≠0 then .tuple #[.int .i64 0,.int .i64 0,.int .i64 (bodiesE L)] else if checkE p≠0 then .tuple #[.int .i64 0,.int .i64 0,.int .i64 (checkE p)] else if withinB 65536000 ux uy=false then .tuple #[.int .i64 0,.int .i64 0,.int .i64 1] else frV (shapeO L p (ux,uy))):=rfl
 have HWU:=hid (rwithin_calls ux uy)
 go_enter Tryz.func33,Tryz.ntmps33
 go_wp2_with fail
 rw [← hW]
 clear hW
 refine (kcheck_calls A n c L _ (HSW.out.below hB)).mono ?_
 rintro e w1 ⟨rfl,hb1⟩
 replace p0:=keepCell hb1 p0
 replace u0:=keepCell hb1 u0
 replace u1:=keepCell hb1 u1
 replace hB:=keepBelow hb1 hB
 clear hb1
 by_cases hE:bodiesE L=0
 case neg =>
  have HR:Hid (shapeV L p (ux,uy) = .tuple #[.int .i64 0,.int .i64 0,.int .i64 (bodiesE L)]):=by show _=_;rw [HE.out,if_pos hE]
  have hne:(bodiesE L != 0)=true:=by simp [hE]
  clear HE
  generalize bodiesE L=z at *
  go_wp2
  refine bodyPost_ret (v:=.tuple #[.int .i64 0,.int .i64 0,.int .i64 z]) (by simp [results,Tryz.results33,go_sem]) rfl ⟨by rw [HR.out],hB⟩
 obtain ⟨h64,hval⟩:=bodiesE_zero hE
 have HV:=hid hval
 rw [if_neg (by simp [hE])] at HE
 rw [hE]
 clear hE hval
 go_wp2_with fail
 refine (check_calls B n' c' p _ (HPW.out.below hB)).mono ?_
 rintro e w2 ⟨rfl,hb2⟩
 replace p0:=keepCell hb2 p0
 replace u0:=keepCell hb2 u0
 replace u1:=keepCell hb2 u1
 replace hB:=keepBelow hb2 hB
 clear hb2
 by_cases hE:checkE p=0
 case neg =>
  have HR:Hid (shapeV L p (ux,uy) = .tuple #[.int .i64 0,.int .i64 0,.int .i64 (checkE p)]):=by show _=_;rw [HE.out,if_pos hE]
  have hne:(checkE p != 0)=true:=by simp [hE]
  clear HE
  generalize checkE p=z at *
  go_wp2
  refine bodyPost_ret (v:=.tuple #[.int .i64 0,.int .i64 0,.int .i64 z]) (by simp [results,Tryz.results33,go_sem]) rfl ⟨by rw [HR.out],hB⟩
 rw [if_neg (by simp [hE])] at HE
 rw [hE]
 clear hE
 go_wp2_with fail
 refine (HWU.out _).mono ?_
 rintro e w3 ⟨rfl,hb3⟩
 replace p0:=keepCell hb3 p0
 replace u0:=keepCell hb3 u0
 replace u1:=keepCell hb3 u1
 replace hB:=keepBelow hb3 hB
 clear hb3 HWU
 cases h2:withinB 65536000 ux uy with
 | false =>
  have HR:Hid (shapeV L p (ux,uy) = .tuple #[.int .i64 0,.int .i64 0,.int .i64 1]):=by show _=_;rw [HE.out,if_pos h2]
  clear HE
  go_wp2
  refine bodyPost_ret (v:=.tuple #[.int .i64 0,.int .i64 0,.int .i64 1]) (by simp [results,Tryz.results33,go_sem]) rfl ⟨by rw [HR.out],hB⟩
 | true =>
  rw [if_neg (by rw [h2];simp)] at HE
  have HP0:Hid (Cs w3 w.heap.size B n' c' p):=⟨p0,HPW.out.below hB⟩
  have HU0:Hid (Cf w3 (w.heap.size+1) ux uy):=⟨u0,u1⟩
  have HC:=hid (rayfirst_calls 85 (.pointer (some ⟨w.heap.size,0,none⟩)) (.pointer (some ⟨w.heap.size+1,0,none⟩)) cf_rayShape1_calls (fun q=>lineR (minusL q p) (0,0) (ux,uy)) A n c L w3 (HSW.out.below hB) HV.out h64 (fun x hx A1 n1 c1 w' hb hs=>rayShape1_calls A1 B n1 c1 n' c' (placeL x.b x.l) p w.heap.size (w.heap.size+1) ux uy w' ⟨keepCell hb HP0.out.a,HP0.out.s.below hb⟩ ⟨keepCell hb HU0.out.a,keepCell hb HU0.out.b⟩ hs h2))
  have HCO:Hid (shapeO L p (ux,uy)=frTo (fun q=>lineR (minusL q p) (0,0) (ux,uy)) L L.length):=rfl
  rw [← HCO.out] at HC
  generalize shapeO L p (ux,uy)=o at *
  clear HCO h2 HP0 HU0 HSW HPW HV
  go_wp2_with fail
  refine HC.out.mono ?_
  rintro e w4 ⟨rfl,hb4⟩
  replace hB:=keepBelow hb4 hB
  clear hb4 HC p0 u0 u1
  have HFV:Hid (frV o = .tuple #[.int .i64 (frI o),.int .i64 (beZ o),.int .i64 (frE o)]):=rfl
  rw [HFV.out] at HE ⊢
  generalize frI o=r1 at *
  generalize beZ o=r2 at *
  generalize frE o=r3 at *
  go_wp2
  refine bodyPost_ret (v:=.tuple #[.int .i64 r1,.int .i64 r2,.int .i64 r3]) (by simp [results,Tryz.results33,go_sem]) rfl ⟨by rw [HE.out],hB⟩
end
end Go.Proofs.YtodpincpofoiiaaGreat
namespace Go.Proofs.YtodpincpofoiiaaGreat
section
set_option linter.unusedVariables false
set_option linter.unusedSimpArgs false
open Go.RowKit

structure VI (w : World) (g : Nat) : Prop where
 c:∃ a,w.cell? ⟨g,0,none⟩=some (.int .i64 a)
 free:∀ j,w.frozen? ⟨g,j,none⟩=false
theorem VI.here (w:World) (a:Int) (t:TypeId):VI (w.alloc (.cells #[.int .i64 a] t)) w.heap.size:=⟨⟨a,by go_simp⟩,fun j=>by go_simp⟩
theorem VI.drew {w:World} {g:Nat} (h:VI w g):VI w.drew g:=⟨h.c,h.free⟩
end
end Go.Proofs.YtodpincpofoiiaaGreat
namespace Go.Proofs.YtodpincpofoiiaaGreat
section
set_option linter.unusedVariables false
set_option linter.unusedSimpArgs false
open Go.RowKit
theorem lineR_none {D:List V} {f u:V} (h:lineR D f u=none) {N L:Int} (hL:0<L) (h0:0≤N) (h1:N≤L):¬ ∀ t,t<D.length→0≤L*rnum D f t-N*rden D u t:=fun hin=>by
 have ok:=ln_ok (rnum D f) (rden D u) D.length
 unfold lineR at h
 generalize lnF (rnum D f) (rden D u) D.length=s at ok h
 match s,ok,h with
 | none,ok,h =>
  obtain ⟨t,ht,hd,hn⟩:=ok
  have:=hin t ht
  rw [hd,Int.mul_zero,Int.sub_zero] at this
  have:=Int.mul_pos hL (show 0 < -rnum D f t by omega)
  rw [Int.mul_neg] at this
  omega
 | some (e,v),ok,h =>
  obtain ⟨e2,v2,e1,hv,-,hx⟩:=ok
  have h:(if v.1*e.2<e.1*v.2 then none else some (e.1*65536 / e.2))=none:=h
  by_cases c:v.1*e.2<e.1*v.2
  ·obtain ⟨a, b⟩ := (hx N L hL h0 h1).1 hin
   have p1:=Int.mul_le_mul_of_nonneg_right a (show 0≤v.2 by omega)
   have p2:=Int.mul_le_mul_of_nonneg_right b (show 0≤e.2 by omega)
   have p3:=Int.mul_lt_mul_of_pos_right c hL
   have e3:e.1*L*v.2=e.1*v.2*L:=by grind
   have e4:v.1*L*e.2=v.1*e.2*L:=by grind
   have e5:N*e.2*v.2=N*v.2*e.2:=by grind
   omega
  ·rw [if_neg c] at h;cases h
theorem lineR_some {D:List V} {f u:V} {T:Int} (h:lineR D f u=some T):∃ N L:Int,0<L∧0≤N∧N≤L∧T=N*65536 / L∧∀ t,t<D.length→0≤L*rnum D f t-N*rden D u t:=by
 have ok:=ln_ok (rnum D f) (rden D u) D.length
 unfold lineR at h
 generalize lnF (rnum D f) (rden D u) D.length=s at ok h
 match s,ok,h with
 | none,ok,h=>cases h
 | some (e,v),ok,h =>
  obtain ⟨e2,v2,e1,hv,-,hx⟩:=ok
  have h:(if v.1*e.2<e.1*v.2 then none else some (e.1*65536 / e.2))=some T:=h
  by_cases c:v.1*e.2<e.1*v.2
  ·rw [if_pos c] at h;cases h
  ·rw [if_neg c] at h
   cases h
   have p1:=Int.mul_le_mul_of_nonneg_right hv (show 0≤e.2 by omega)
   have p2:e.1*v.2≤e.2*v.2:=by rw [Int.mul_comm e.2];omega
   have hle:e.1≤e.2:=Int.le_of_mul_le_mul_right p2 v2
   refine ⟨e.1,e.2,e2,e1,hle,rfl,(hx e.1 e.2 e2 e1 hle).2 ⟨by omega,by omega⟩⟩
theorem rnd_in (D:List V) (f u:V) (N L:Int) (t:Nat):L*rnum D f t-N*rden D u t=cr (vsub (cyP D (t+1)) (cyP D t)) (vsub (L*f.1+N*u.1,L*f.2+N*u.2) (L*(cyP D t).1,L*(cyP D t).2)):=by
 unfold rnum rden cr vsub
 grind

theorem line_inP {D:List V} (h0:0<D.length) {f u:V} {N L:Int}:(∀ t,t<D.length→0≤L*rnum D f t-N*rden D u t)↔inP (cyP D) (L*f.1+N*u.1,L*f.2+N*u.2) L:=by
 constructor
 ·intro h
  exact per_all (p:=fun a b=>0≤cr (vsub b a) (vsub (L*f.1+N*u.1,L*f.2+N*u.2) (L*a.1,L*a.2))) h0 (fun t ht=>by rw [← rnd_in];exact h t ht)
 ·intro h t _
  rw [rnd_in]
  exact h t
theorem pol_scY {N:Nat} {P:Nat→V} (h:Pol N P) {L:Int} (hL:0<L) (Y:V):Pol N (fun t=>(L*(P t).1-Y.1,L*(P t).2-Y.2)):=by
 have e:∀ a b c d:Nat,cr (vsub (L*(P a).1-Y.1,L*(P a).2-Y.2) (L*(P b).1-Y.1,L*(P b).2-Y.2)) (vsub (L*(P c).1-Y.1,L*(P c).2-Y.2) (L*(P d).1-Y.1,L*(P d).2-Y.2))=L*L*cr (vsub (P a) (P b)) (vsub (P c) (P d)):=fun a b c d=>by unfold cr vsub;grind
 refine ⟨h.pos,fun t=>by simp only [h.per],fun t=>?_,fun t j=>?_⟩
 ·show 0 < cr (vsub _ _) (vsub _ _)
  rw [e]
  exact Int.mul_pos (Int.mul_pos hL hL) (h.turn t)
 ·show 0 ≤ cr (vsub _ _) (vsub _ _)
  rw [e]
  exact Int.mul_nonneg (Int.mul_nonneg (by omega) (by omega)) (h.left t j)

theorem hull_dir {N:Nat} {P:Nat→V} (h:Pol N P) {L:Int} (hL:0<L) {Y:V} (hY:inP P Y L) (e:V):¬ ∀ t,0<cr e (vsub (L*(P t).1,L*(P t).2) Y):=fun hall=>by
 refine half_contra (pol_scY h hL Y) (vneg e) (fun t=>?_) (fun t=>?_)
 ·have := hall t
  rw [cr_negl]
  have e2:cr e (vsub (L*(P t).1,L*(P t).2) Y)=cr e (L*(P t).1-Y.1,L*(P t).2-Y.2):=rfl
  omega
 ·have := hY t
  have e2:cr (L*(P t).1-Y.1,L*(P t).2-Y.2) (L*(P (t+1)).1-Y.1,L*(P (t+1)).2-Y.2)=L*cr (vsub (P (t+1)) (P t)) (vsub Y (L*(P t).1,L*(P t).2)):=by unfold cr vsub;grind
  rw [e2]
  exact Int.mul_nonneg (by omega) this

def spotL (x y h:Int):List V:=[(x-h,y-h),(x+h,y-h),(x+h,y+h),(x-h,y+h)]


end
end Go.Proofs.YtodpincpofoiiaaGreat
namespace Go.Proofs.YtodpincpofoiiaaGreat
section
set_option linter.unusedVariables false
set_option linter.unusedSimpArgs false
open Go.RowKit
theorem BdAt.far {w:World} {g:Nat} {b:Bd} {A:Option Addr} {n c:Nat} (h:BdAt w g b A n c) (k o:Nat) (v:Value) (hne:k≠g):BdAt (w.setCell ⟨k,o,none⟩ v) g b A n c :=
 ⟨far1 hne h.c0,far1 hne h.c1,far1 hne h.c2,far1 hne h.c3,far1 hne h.c4,far1 hne h.c5,far1 hne h.c6,far1 hne h.c7,far1 hne h.c8,far1 hne h.c9,far1 hne h.c10,far1 hne h.c11,far1 hne h.c12,fun j=>by rw [World.frozen?_setCell];exact h.free j⟩
end
end Go.Proofs.YtodpincpofoiiaaGreat
namespace Go.Proofs.YtodpincpofoiiaaGreat
section
set_option linter.unusedVariables false
set_option linter.unusedSimpArgs false
open Go.RowKit
theorem absZ_le {a M:Int} (h1 : -M≤a) (h2:a≤M):absZ a≤M:=by unfold absZ;split <;> omega
theorem sizeL_made {l:List V} (h:allWithin 262144 l=true) {i k:Nat} (hi:i<l.length) (hk:k<l.length):sizeL l i k≤1048576:=by
 have h1:=withinB_iff.1 (allWithin_at h hi)
 have h2:=withinB_iff.1 (allWithin_at h hk)
 have e1:=absZ_le (a:=px l k-px l i) (M:=524288) (by omega) (by omega)
 have e2:=absZ_le (a:=py l k-py l i) (M:=524288) (by omega) (by omega)
 unfold sizeL
 omega
theorem fatBad_not {l:List V} (hw:allWithin 262144 l=true) {i k:Nat} (hi:i<l.length) (hk:k<l.length) (h:k=i∨k=(i+1) % l.length∨16777216≤sideL l i ((i+1) % l.length) k):fatBad l i k=false:=by
 unfold fatBad
 refine decide_eq_false ?_
 rintro ⟨n1,n2,n3⟩
 rcases h with h | h | h
 ·exact n1 h
 ·exact n2 h
 ·have a1 := sizeL_made hw hi (Nat.mod_lt (i + 1) (show 0 < l.length by omega))
  have a2:=sizeL_made hw hi hk
  omega
theorem fat_of {l:List V} (hw:allWithin 262144 l=true) (h:∀ i,i<l.length→∀ k,k<l.length→(k=i∨k=(i+1) % l.length∨16777216≤sideL l i ((i+1) % l.length) k)):fatB l=true :=
 fatB_ok fun i hi k hk=>fatBad_not hw hi hk (h i hi k hk)
theorem tri_fat {w h x:Int} (hw:w=65536∨w=131072∨w=196608∨w=262144) (hh:h=65536∨h=131072∨h=196608∨h=262144) (h1 : -w≤x) (h2:x<w):fatB [(-w,-h),(w,-h),(x,h)]=true:=by
 have hp:4294967296≤w*h:=by rcases hw with rfl | rfl | rfl | rfl <;> omega
 refine fat_of (by simp [allWithin,withinB];omega) ?_
 intro i hi k hk
 simp only [List.length_cons,List.length_nil] at hi hk
 match i,hi,k,hk with
 | 0,_,0,_=>exact .inl rfl
 | 0,_,1,_=>exact .inr (.inl rfl)
 | 0,_,2,_=>refine .inr (.inr ?_);simp [sideL,sideZ,px,py];grind
 | 1,_,0,_=>refine .inr (.inr ?_);simp [sideL,sideZ,px,py];grind
 | 1,_,1,_=>exact .inl rfl
 | 1,_,2,_=>exact .inr (.inl rfl)
 | 2,_,0,_=>exact .inr (.inl (by simp))
 | 2,_,1,_=>refine .inr (.inr ?_);simp [sideL,sideZ,px,py];grind
 | 2,_,2,_=>exact .inl rfl
theorem made_fat {l:List V} (h:Made l):fatB l=true:=by
 obtain ⟨a,b,k,x,ha,hb,hk,h1,h2,rfl⟩:=h
 rcases hk with rfl | rfl | rfl | rfl
 ·rw [formL_nox _ _ _ _ (by decide)];rcases ha with rfl | rfl | rfl | rfl <;> rcases hb with rfl | rfl | rfl | rfl <;> decide
 ·exact tri_fat (by omega) (by omega) h1 h2
 ·rw [formL_nox _ _ _ _ (by decide)];rcases ha with rfl | rfl | rfl | rfl <;> rcases hb with rfl | rfl | rfl | rfl <;> decide
 ·rw [formL_nox _ _ _ _ (by decide)];rcases ha with rfl | rfl | rfl | rfl <;> rcases hb with rfl | rfl | rfl | rfl <;> decide
theorem tri_has {w h x:Int} (hw:w=65536∨w=131072∨w=196608∨w=262144) (hh:h=65536∨h=131072∨h=196608∨h=262144) (h1 : -w≤x) (h2:x<w):hasB [(-w,-h),(w,-h),(x,h)] 0 0=true:=by
 refine hasB_true (made_tri _ _ _ (by omega) (by omega) (by omega) (by omega) h1 h2) (by decide) ?_
 intro i hi
 simp only [List.length_cons,List.length_nil] at hi
 match i,hi with
 | 0,_=>rcases hw with rfl | rfl | rfl | rfl <;> rcases hh with rfl | rfl | rfl | rfl <;> simp [edgeP,sideZ,px,py]
 | 1,_=>rcases hw with rfl | rfl | rfl | rfl <;> rcases hh with rfl | rfl | rfl | rfl <;> simp [edgeP,sideZ,px,py] <;> omega
 | 2,_=>rcases hw with rfl | rfl | rfl | rfl <;> rcases hh with rfl | rfl | rfl | rfl <;> simp [edgeP,sideZ,px,py] <;> omega
theorem made_has {l:List V} (h:Made l):hasB l 0 0=true:=by
 obtain ⟨a,b,k,x,ha,hb,hk,h1,h2,rfl⟩:=h
 rcases hk with rfl | rfl | rfl | rfl
 ·rw [formL_nox _ _ _ _ (by decide)];rcases ha with rfl | rfl | rfl | rfl <;> rcases hb with rfl | rfl | rfl | rfl <;> decide
 ·exact tri_has (by omega) (by omega) h1 h2
 ·rw [formL_nox _ _ _ _ (by decide)];rcases ha with rfl | rfl | rfl | rfl <;> rcases hb with rfl | rfl | rfl | rfl <;> decide
 ·rw [formL_nox _ _ _ _ (by decide)];rcases ha with rfl | rfl | rfl | rfl <;> rcases hb with rfl | rfl | rfl | rfl <;> decide
theorem made_shape {l:List V} (h:Made l):shapeE l=0:=by
 have hw:allWithin 2097152 l=true:=by
  have:=made_within h
  unfold allWithin at this ⊢
  rw [List.all_eq_true] at this ⊢
  intro p hp
  have:=withinB_iff.1 (this p hp)
  exact withinB_iff.2 (by omega)
 unfold shapeE
 rw [if_neg (by simp [made_check h]),if_neg (by simp [hw]),if_neg (by simp [made_fat h,made_has h])]
theorem madeB_num {b:Bd} (h:MadeB b):numE b=0:=by
 obtain ⟨hpx,hpy,ang,bo,ru,asl,ca,k⟩:=h
 have a1:withinB 58982400 b.px b.py=true:=withinB_iff.2 (by omega)
 have a2:withinB 268435456 b.vx b.vy=true:=withinB_iff.2 (by rcases k with k | k <;> omega)
 have a3:inB b.spin (-16777216) 16777216=true:=inB_iff.2 (by rcases k with k | k <;> omega)
 have a4:inB b.ang 0 65535=true:=inB_iff.2 ang
 have a5:inB b.mass 0 1099511627776=true:=inB_iff.2 (by rcases k with k | k <;> omega)
 have a6:inB b.iner 0 1099511627776=true:=inB_iff.2 (by rcases k with k | k <;> omega)
 have a7:inB b.bounce 0 65536=true:=inB_iff.2 bo
 have a8:inB b.rub 0 65536=true:=inB_iff.2 ru
 have a9:inB b.calm 0 1000=true:=inB_iff.2 (by omega)
 unfold numE
 rw [if_pos (by simp [a1,a2,a3,a4]),if_pos (by simp [a5,a6,a7,a8,a9])]
 rcases k with ⟨k1,k2,k3,k4,k5⟩ | ⟨k1,k2,k3,k4,k5⟩
 ·rw [if_neg (by simp [stillB,k1,k2,k3,k4,k5,asl,ca])]
 ·have m1 : (b.mass == 0) = false := by simp; omega
  have m2:(b.iner == 0)=false:=by simp;omega
  rw [if_neg (by simp [m1,m2,asl])]
theorem madeB_ok {b:Bd} {l:List V} (h:MadeB b) (hl:Made l):bodyE b l=0:=by
 unfold bodyE
 rw [if_neg (by simp [made_shape hl])]
 exact madeB_num h
end
end Go.Proofs.YtodpincpofoiiaaGreat
namespace Go.Proofs.YtodpincpofoiiaaGreat
section
set_option linter.unusedVariables false
set_option linter.unusedSimpArgs false
open Go.RowKit





theorem castLaw_some {L:List BE} {f u:V} {a:Nat} {b:Int} (h:castO L f u=some (a,b)) (hv:∀ x ∈ L,bodyE x.b x.l=0):∃ ha:a<L.length,∃ N M:Int,0<M∧0≤N∧N≤M∧b=N*65536 / M∧inP (cyP (placeL L[a].b L[a].l)) (M*f.1+N*u.1,M*f.2+N*u.2) M:=by
 have ok:=frTo_ok (fun p=>lineR p f u) L L.length (Nat.le_refl _)
 unfold castO at h
 rw [h] at ok
 obtain ⟨h1,h2,-⟩:=ok
 rw [hitAt_lt h1] at h2
 obtain ⟨N,M,k0,k1,k2,k3,k4⟩:=lineR_some h2
 have h3:=(checkE_zero (placed_ok (hv _ (List.getElem_mem h1)))).2.1
 exact ⟨h1,N,M,k0,k1,k2,k3,(line_inP (by omega)).1 k4⟩

end
end Go.Proofs.YtodpincpofoiiaaGreat
namespace Go.Proofs.YtodpincpofoiiaaGreat
section
set_option linter.unusedVariables false
set_option linter.unusedSimpArgs false
open Go.RowKit

theorem lineR_least {D:List V} {f u:V} {N L:Int} (hL:0<L) (h0:0≤N) (h1:N≤L) (hin:∀ t,t<D.length→0≤L*rnum D f t-N*rden D u t):∃ T,lineR D f u=some T∧T≤N*65536 / L∧0≤T:=by
 cases h:lineR D f u with
 | none=>exact absurd hin (lineR_none h hL h0 h1)
 | some T =>
  refine ⟨T,rfl,?_⟩
  have ok:=ln_ok (rnum D f) (rden D u) D.length
  unfold lineR at h
  generalize lnF (rnum D f) (rden D u) D.length=s at ok h
  match s,ok,h with
  | none,ok,h=>cases h
  | some (e,v),ok,h =>
   obtain ⟨e2,v2,e1,hv,-,hx⟩:=ok
   have h:(if v.1*e.2<e.1*v.2 then none else some (e.1*65536 / e.2))=some T:=h
   by_cases c:v.1*e.2<e.1*v.2
   ·rw [if_pos c] at h;cases h
   ·rw [if_neg c] at h
    cases h
    obtain ⟨a,-⟩:=(hx N L hL h0 h1).1 hin
    refine ⟨?_,Int.ediv_nonneg (by omega) (by omega)⟩
    have q1:=Int.ediv_mul_le (e.1*65536) (show e.2≠0 by omega)
    refine (Int.le_ediv_iff_mul_le hL).2 ?_
    refine Int.le_of_mul_le_mul_right (show e.1*65536 / e.2*L*e.2≤N*65536*e.2 from ?_) e2
    have q2:=Int.mul_le_mul_of_nonneg_right q1 (show 0≤L by omega)
    have g1:e.1*65536 / e.2*L*e.2=e.1*65536 / e.2*e.2*L:=by grind
    have g2:e.1*65536*L=65536*(e.1*L):=by grind
    have g3:N*65536*e.2=65536*(N*e.2):=by grind
    rw [g1,g3]
    rw [g2] at q2
    omega

theorem spot_diff {q:List V} (hq:checkE q=0) {f u:V} {h N L:Int} (hs:checkE (spotL f.1 f.2 h)=0) (hL:0<L) (hY:inP (cyP q) (L*f.1+N*u.1,L*f.2+N*u.2) L) :
  ∀ t,t<(minusL q (spotL f.1 f.2 h)).length→0≤L*rnum (minusL q (spotL f.1 f.2 h)) (0,0) t-N*rden (minusL q (spotL f.1 f.2 h)) u t:=fun t ht=>by
 have hD:=minus_dif hq hs
 have h3:=(checkE_zero hq).2.1
 rw [rnd_in]
 obtain ⟨j,hj⟩:∃ t2,cr (vsub (cyP (minusL q (spotL f.1 f.2 h)) (t+1)) (cyP (minusL q (spotL f.1 f.2 h)) t)) (vsub (L*(cyP q t2).1,L*(cyP q t2).2) (L*f.1+N*u.1,L*f.2+N*u.2))≤0:=by
  rcases Classical.em (∃ t2,cr (vsub (cyP (minusL q (spotL f.1 f.2 h)) (t+1)) (cyP (minusL q (spotL f.1 f.2 h)) t)) (vsub (L*(cyP q t2).1,L*(cyP q t2).2) (L*f.1+N*u.1,L*f.2+N*u.2))≤0) with g | g
  ·exact g
  ·exact absurd (fun t2=>by
    rcases Int.lt_or_le 0 (cr (vsub (cyP (minusL q (spotL f.1 f.2 h)) (t+1)) (cyP (minusL q (spotL f.1 f.2 h)) t)) (vsub (L*(cyP q t2).1,L*(cyP q t2).2) (L*f.1+N*u.1,L*f.2+N*u.2))) with g2 | g2
    ·exact g2
    ·exact absurd ⟨t2,g2⟩ g) (hull_dir (pol_of hq) hL hY _)
 obtain ⟨i,hi,hc⟩:=cyP_ex (l:=q) (by omega) j
 rw [hc] at hj
 have k0:=hD.left t i 0 hi (by show 0<4;omega)
 have k1:=hD.left t i 1 hi (by show 1<4;omega)
 have k2:=hD.left t i 2 hi (by show 2<4;omega)
 have k3:=hD.left t i 3 hi (by show 3<4;omega)
 rw [show dpt2 q (spotL f.1 f.2 h) i 0=(px q i-(f.1-h),py q i-(f.2-h)) from rfl] at k0
 rw [show dpt2 q (spotL f.1 f.2 h) i 1=(px q i-(f.1+h),py q i-(f.2-h)) from rfl] at k1
 rw [show dpt2 q (spotL f.1 f.2 h) i 2=(px q i-(f.1+h),py q i-(f.2+h)) from rfl] at k2
 rw [show dpt2 q (spotL f.1 f.2 h) i 3=(px q i-(f.1-h),py q i-(f.2+h)) from rfl] at k3
 generalize vsub (cyP (minusL q (spotL f.1 f.2 h)) (t+1)) (cyP (minusL q (spotL f.1 f.2 h)) t)=e at *
 generalize cyP (minusL q (spotL f.1 f.2 h)) t=c at *
 generalize px q i=a at *
 generalize py q i=b at *
 have s4:0≤cr e (vsub (a-(f.1-h),b-(f.2-h)) c)+cr e (vsub (a-(f.1+h),b-(f.2+h)) c):=by omega
 have e1:cr e (vsub (a-(f.1-h),b-(f.2-h)) c)+cr e (vsub (a-(f.1+h),b-(f.2+h)) c)=2*cr e (vsub (a-f.1,b-f.2) c):=by unfold cr vsub;grind
 have p1:0≤cr e (vsub (a-f.1,b-f.2) c):=by omega
 have p2:=Int.mul_nonneg (show 0≤L by omega) p1
 have e2:cr e (vsub (L*((0,0):V).1+N*u.1,L*((0,0):V).2+N*u.2) (L*c.1,L*c.2))=L*cr e (vsub (a-f.1,b-f.2) c)-cr e (vsub (L*a,L*b) (L*f.1+N*u.1,L*f.2+N*u.2)):=by unfold cr vsub;grind
 refine Int.le_trans ?_ (Int.le_of_eq e2.symm)
 have hj2:cr e (vsub (L*a,L*b) (L*f.1+N*u.1,L*f.2+N*u.2))≤0:=hj
 omega

theorem cast_law {L:List BE} (hv:∀ x ∈ L,bodyE x.b x.l=0) {f u:V} {h:Int} (hs:checkE (spotL f.1 f.2 h)=0) {a:Nat} {b:Int} (hc:castO L f u=some (a,b)) :
  ∃ ha:a<L.length,(∃ k s,shapeO L (spotL f.1 f.2 h) u=some (k,s)∧s≤b)∧∃ s,castO [L[a]] (f.1+u.1,f.2+u.2) (-u.1,-u.2)=some (0,s)∧s≤65536-b:=by
 obtain ⟨ha,N,M,hM,h0,h1,hb,hin⟩:=castLaw_some hc hv
 have hva:=hv _ (List.getElem_mem ha)
 have hq:=placed_ok hva
 have h3:=(checkE_zero hq).2.1
 refine ⟨ha,?_,?_⟩
 ·obtain ⟨T, hT, hle, -⟩ := lineR_least hM h0 h1 (spot_diff hq hs hM hin)
  have ok:=frTo_ok (fun q=>lineR (minusL q (spotL f.1 f.2 h)) (0,0) u) L L.length (Nat.le_refl _)
  have hat:hitAt (fun q=>lineR (minusL q (spotL f.1 f.2 h)) (0,0) u) L a=some T:=by rw [hitAt_lt ha];exact hT
  unfold shapeO
  cases hf:frTo (fun q=>lineR (minusL q (spotL f.1 f.2 h)) (0,0) u) L L.length with
  | none =>
   rw [hf] at ok
   have:=ok a ha
   rw [hat] at this
   cases this
  | some ks =>
   obtain ⟨k,s⟩:=ks
   rw [hf] at ok
   have:=(ok.2.2 a T ha hat).1
   exact ⟨k,s,rfl,by omega⟩
 ·have hin2:inP (cyP (placeL L[a].b L[a].l)) (M*(f.1+u.1)+(M-N) * -u.1,M*(f.2+u.2)+(M-N) * -u.2) M:=by
   have e1:M*(f.1+u.1)+(M-N) * -u.1=M*f.1+N*u.1:=by grind
   have e2:M*(f.2+u.2)+(M-N) * -u.2=M*f.2+N*u.2:=by grind
   rw [e1,e2];exact hin
  obtain ⟨T,hT,hle,-⟩:=lineR_least (D:=placeL L[a].b L[a].l) (f:=(f.1+u.1,f.2+u.2)) (u:=(-u.1,-u.2)) hM (show 0≤M-N by omega) (by omega) ((line_inP (by omega)).2 hin2)
  refine ⟨T,?_,?_⟩
  ·unfold castO
   show frTo _ [L[a]] 1=_
   rw [frTo_succ (by simp)]
   show frStep 0 (lineR (placeL L[a].b L[a].l) (f.1+u.1,f.2+u.2) (-u.1,-u.2)) none=_
   rw [hT]
   rfl
  ·refine Int.le_trans hle ?_
   rw [hb]
   have q1:=Int.ediv_mul_le (N*65536) (show M≠0 by omega)
   have q2:=Int.ediv_mul_le ((M-N)*65536) (show M≠0 by omega)
   have q3:(N*65536 / M+(M-N)*65536 / M)*M≤65536*M:=by
    rw [Int.add_mul]
    have:(M-N)*65536=65536*M-N*65536:=by grind
    omega
   have:=Int.le_of_mul_le_mul_right q3 hM
   omega
end
end Go.Proofs.YtodpincpofoiiaaGreat
