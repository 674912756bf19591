/- Parts of a proof: contracts and laws. -/
import Derived.Test.YtodpincpofoiiaaGreatQM48
import Derived.Test.YtodpincpofoiiaaGreatQM07
import Derived.Test.YtodpincpofoiiaaGreatQM41
import Derived.Test.YtodpincpofoiiaaGreatQM47
import Derived.Test.YtodpincpofoiiaaGreatQM10
import Derived.Test.YtodpincpofoiiaaGreatQM43
import Derived.Test.YtodpincpofoiiaaGreatQM24
import Derived.Test.YtodpincpofoiiaaGreatQM14
import Derived.Test.YtodpincpofoiiaaGreatQM02
import Derived.BigQuiet
import Derived.BigRegion
import Derived.Deep.DeepCutAuto
import Derived.Test.YtodpincpofoiiaaGreatQM13
import Derived.Test.YtodpincpofoiiaaGreatQM09
import Derived.Test.YtodpincpofoiiaaGreatQM44
import Derived.Test.YtodpincpofoiiaaGreatQMLB
import Derived.Test.YtodpincpofoiiaaGreatQM27
set_option maxRecDepth 100000
set_option maxHeartbeats 16000000
namespace Go.Proofs.YtodpincpofoiiaaGreat
section
set_option linter.unusedVariables false
set_option linter.unusedSimpArgs false
open Go.RowKit
def nmeetB (a b:List V):Bool:=decide (bothE a b=0) && ninB (minusL a b)
theorem nmeet_calls (A B:Option Addr) (n c n' c':Nat) (a b:List V) (w:World) (hS:Sl w A n c a) (hM:Sl w B n' c' b) :
  Calls Tryz.prog 38 #[.slice A n c,.slice B n' c'] w (Ret (.tuple #[.bool (nmeetB a b),.int .i64 (bothE a b)]) w):=by
 have HMN:=hid (nminus_calls A B n c n' c' a b w hS hM)
 obtain ⟨mw,ml⟩:=minus_bd a b
 have HAZ:Hid (nmeetB a b=(decide (bothE a b=0) && ninB (minusL a b))):=rfl
 obtain ⟨m,hm⟩:∃ m,m=minusL a b:=⟨_,rfl⟩
 obtain ⟨E,hE⟩:∃ E,E=bothE a b:=⟨_,rfl⟩
 obtain ⟨Z,hZ⟩:∃ Z,Z=nmeetB a b:=⟨_,rfl⟩
 rw [← hm,← hE] at HMN HAZ
 rw [← hm] at mw ml
 rw [← hZ] at HAZ
 rw [← hZ,← hE]
 have HMW:=hid mw
 clear hm hE hZ hS hM mw
 go_enter Tryz.func38,Tryz.ntmps38
 go_wp2_with fail
 refine HMN.out.mono ?_
 rintro e w1 ⟨Am,nm,cm,rfl,s1,f1,hb1⟩
 have hnm:=s1.len
 subst hnm
 have HS1:=hid s1
 clear s1 f1 HMN
 by_cases hE0:E=0
 ·have HZ : Hid (Z = ninB m) := by show _ = _; rw [HAZ.out, hE0]; simp
  subst hE0
  have HIN:=hid (ninside_calls Am m.length cm m w1 HS1.out HMW.out (by omega))
  clear HAZ
  go_wp2_with fail
  refine HIN.out.mono ?_
  rintro e w2 ⟨rfl,hb2⟩
  have hB2:=keepBelow hb2 hb1
  clear HS1 hb1 hb2 HIN
  go_wp2
  refine bodyPost_ret (v:=.tuple #[.bool (ninB m),.int .i64 0]) (by simp [results,Tryz.results38,go_sem]) rfl ⟨by rw [HZ.out],hB2⟩
 ·have HZ : Hid (Z = false) := by show _ = _; rw [HAZ.out]; simp [hE0]
  have hne:(E != 0)=true:=by simp [hE0]
  clear HAZ hE0
  go_wp2
  refine bodyPost_ret (v:=.tuple #[.bool false,.int .i64 E]) (by simp [results,Tryz.results38,go_sem]) rfl ⟨by rw [HZ.out],hb1⟩
end
end Go.Proofs.YtodpincpofoiiaaGreat
namespace Go.Proofs.YtodpincpofoiiaaGreat
section
set_option linter.unusedVariables false
set_option linter.unusedSimpArgs false
open Go.RowKit

theorem wpList_append_int {w : World} {ops : Array Oper} {rest : List Oper} {o : Oper} {a : Act} {Q : Exit → Act → World → Prop} (hgd : o.guard = none) (s x : Operand)
  (ho:o.op = .call { callee:=.builtin .append,args:=#[s,x],argTypes:=#[45,45] })
  (B:Nat) (v:Value) (r:List Int) (hs:a.eval s=v) (hown:OwnI w B v r) (b n c:Nat) (z:Int) (hx:a.eval x = .slice (some ⟨b,0,none⟩) 1 1) (hc:w.cell? ⟨b,0,none⟩=some (.int .i64 z))
  (hl:r.length+1≤8796093022208) (hB:B≤w.heap.size)
  (h:∀ v' w',OwnI w' B v' (r ++ [z])→w.grownBy w' v.ownBlock→(v'.ownBlock=v.ownBlock∨v'.ownBlock=some w.heap.size)→wpList Tryz.prog ops Q rest (a.put o.dst v') w'):wpList Tryz.prog ops Q (o :: rest) a w:=by
 obtain ⟨i0,hi,hz0,hz1,hz2⟩:=info_parts info_int
 obtain ⟨v',w',hr,h2,h3,h4,h5⟩:=run_append_own_at (P:=Tryz.prog) w B 45 o.type 3 i0 (.int .i64 0) 1 8 Tryz.underlying45 hi hz0 hz1 hz2 rfl (by decide) v r.length (r.map fun x=>.int .i64 x) hown ⟨b,0,none⟩ 1 1 [.int .i64 z] rfl (fun j u hj=>by
  cases j with
  | zero=>simp at hj;subst hj;simpa [Addr.add] using hc
  | succ j=>simp at hj) (by simp [Value.oneCell']) (by unfold maxLen;omega) (by omega) hB
 refine wpList_plain hgd fun K hK=>?_
 unfold Oper.wp execOp
 simp only [ho,resolve,invoke,builtin,Sem.run_bind,Sem.run_pure,Result.andThen_ok,List.map_toArray,List.map_cons,List.map_nil,hs,hx,hr]
 refine hK _ _ (h v' w' ?_ h3 h5)
 unfold OwnI
 simpa using h2

def meetTo (hit : List V → Bool) (L : List BE) : Nat → List Int
 | 0=>[]
 | k+1=>meetTo hit L k ++ (match L[k]? with | some x=>if hit (placeL x.b x.l)=true then [(k:Int)] else [] | none=>[])
theorem meetTo_succ {hit:List V→Bool} {L:List BE} {k:Nat} (h:k<L.length):meetTo hit L (k+1)=if hit (placeL L[k].b L[k].l)=true then meetTo hit L k ++ [(k:Int)] else meetTo hit L k:=by
 show meetTo hit L k ++ (match L[k]? with | some x=>if hit (placeL x.b x.l)=true then [(k:Int)] else [] | none=>[])=_
 rw [List.getElem?_eq_getElem h]
 by_cases c:hit (placeL L[k].b L[k].l)=true
 ·simp [c]
 ·simp [c]
theorem meetTo_len (hit : List V → Bool) (L : List BE) : ∀ k, (meetTo hit L k).length ≤ k
 | 0=>by simp [meetTo]
 | k+1=>by
  have ih:=meetTo_len hit L k
  show (meetTo hit L k ++ _).length≤k+1
  rw [List.length_append]
  have:(match L[k]? with | some x=>if hit (placeL x.b x.l)=true then [(k:Int)] else [] | none=>[]).length≤1:=by
   split
   ·split <;> simp
   ·simp
  omega
def meetE (L:List BE) (p:List V):Int:=if bodiesE L≠0 then bodiesE L else checkE p
def meetL (L:List BE) (p:List V):List Int:=if meetE L p=0 then meetTo (fun q=>nmeetB q p) L L.length else []

def RetIE (l:List Int) (er:Int) (w:World) (e:Ending) (w':World):Prop:=∃ A n c,e = .returned (.tuple #[.slice A n c,.int .i64 er])∧SlI w' A n c l∧Below w.heap.size w w'
theorem slI_nil (w:World):SlI w none 0 0 []:=by
 obtain ⟨A,n,c,h1,h2⟩:=(OwnI.nil w 0).sl
 cases h1
 exact h2
theorem rayMeet_calls (A B:Option Addr) (n c n' c':Nat) (L:List BE) (p:List V) (w:World) (hS:SlB w A n c L) (hP:Sl w B n' c' p) :
  Calls Tryz.prog 40 #[.slice A n c,.slice B n' c'] w (RetIE (meetL L p) (meetE L p) w):=by
 have hn:=hS.sl.len
 have hcap:=hS.sl.cap
 have hbig:=hS.sl.big
 subst hn
 have HS:=hid hS
 have HPW:=hid hP
 clear hS hP
 go_enter Tryz.func40,Tryz.ntmps40
 go_wp2_with fail
 refine (kcheck_calls A L.length c L _ HS.out).mono ?_
 rintro e w1 ⟨rfl,hb1⟩
 by_cases hE:bodiesE L=0
 case neg =>
  have HR:Hid (meetE L p=bodiesE L∧meetL L p=[]):=by
   have e:meetE L p=bodiesE L:=by unfold meetE;rw [if_pos hE]
   exact ⟨e,by unfold meetL;rw [e,if_neg hE]⟩
  have hne:(bodiesE L != 0)=true:=by simp [hE]
  generalize bodiesE L=z at *
  go_wp2
  refine bodyPost_ret (v:=.tuple #[.slice none 0 0,.int .i64 z]) (by simp [results,Tryz.results40,go_sem]) rfl ⟨none,0,0,by rw [HR.out.1],by rw [HR.out.2];exact slI_nil _,hb1⟩
 obtain ⟨h64,hval⟩:=bodiesE_zero hE
 have HV:=hid hval
 have HE1:Hid (meetE L p=checkE p):=by show _=_;unfold meetE;rw [if_neg (by simp [hE])]
 rw [hE]
 clear hE hval
 go_wp2_with fail
 refine (check_calls B n' c' p _ (HPW.out.below hb1)).mono ?_
 rintro e w2 ⟨rfl,hb2⟩
 have hB2:=keepBelow hb2 hb1
 clear hb2 hb1
 by_cases hE:checkE p=0
 case neg =>
  have HR:Hid (meetL L p=[]):=by show _=_;unfold meetL;rw [HE1.out,if_neg hE]
  have hne:(checkE p != 0)=true:=by simp [hE]
  generalize checkE p=z at *
  go_wp2
  refine bodyPost_ret (v:=.tuple #[.slice none 0 0,.int .i64 z]) (by simp [results,Tryz.results40,go_sem]) rfl ⟨none,0,0,by rw [HE1.out],by rw [HR.out];exact slI_nil _,hB2⟩
 have HML:Hid (meetL L p=meetTo (fun q=>nmeetB q p) L L.length):=by show _=_;unfold meetL;rw [HE1.out,if_pos hE]
 have HME:Hid (meetE L p=0):=by show _=_;rw [HE1.out,hE]
 have HPK:=hid hE
 rw [hE]
 clear HE1 hE
 go_wp2
 go_loopw [8,25] (fun o i wr=>∃ k:Nat,k≤L.length∧i = .int .i64 k∧OwnI wr w.heap.size o (meetTo (fun q=>nmeetB q p) L k)∧Below w.heap.size w wr) (fun _ i _=>L.length-(intOf i).toNat)
 case atStart=>exact ⟨0,Nat.zero_le _,rfl,OwnI.nil _ _,hB2⟩
 case round =>
  obtain ⟨k,hk,rfl,ho,hB⟩:=hrel
  obtain ⟨wo,rfl⟩:∃ wo:World,wo=wr:=⟨_,rfl⟩
  have HO:=hid ho
  clear ho
  have HSw:=hid (HS.out.below hB)
  by_cases hlt:k<L.length
  ·obtain ⟨ba, off, hA, hC⟩ := HSw.out.sl.at_ (by intro h; subst h; simp at hlt)
   subst hA
   obtain ⟨x,hx⟩:∃ x,x=L[k]:=⟨_,rfl⟩
   have hxm:x ∈ L:=by rw [hx];exact List.getElem_mem hlt
   have HX:=hid (show Sl wo x.A x.n x.c x.l from HSw.out.co x hxm)
   obtain ⟨d0,d1,d2,d3,d4,d5,d6,d7,d8,d9,d10,d11,d12⟩:=cells_bd hC hlt hx
   have hbo:=hC.lt
   have hlt':(k:Int)<(L.length:Int):=by omega
   have hkw:IntKind.i64.wrap ((k:Int)+1)=(k:Int)+1:=IntWalk.i64_in _ (by omega)
   have HPR:Hid (placeR x.b x.l=placeL x.b x.l):=by show _=_;unfold placeR;rw [if_neg (by rw [HV.out x hxm];simp)]
   have HST:Hid (meetTo (fun q=>nmeetB q p) L (k+1)=if nmeetB (placeL x.b x.l) p=true then meetTo (fun q=>nmeetB q p) L k ++ [(k:Int)] else meetTo (fun q=>nmeetB q p) L k):=by show _=_;rw [meetTo_succ hlt,hx]
   have HLE:=hid (meetTo_len (fun q=>nmeetB q p) L k)
   clear hC hx HSw hxm
   go_wp2_with fail
   have HX2:=hid (HX.out.alloc (.cells #[.int .i64 x.b.px,.int .i64 x.b.py,.int .i64 x.b.vx,.int .i64 x.b.vy,.int .i64 x.b.ang,.int .i64 x.b.spin,.int .i64 x.b.mass,.int .i64 x.b.iner,.int .i64 x.b.bounce,.int .i64 x.b.rub,.slice x.A x.n x.c,.bool x.b.asleep,.int .i64 x.b.calm] 27))
   have HO2:=hid (HO.out.alloc (.cells #[.int .i64 x.b.px,.int .i64 x.b.py,.int .i64 x.b.vx,.int .i64 x.b.vy,.int .i64 x.b.ang,.int .i64 x.b.spin,.int .i64 x.b.mass,.int .i64 x.b.iner,.int .i64 x.b.bounce,.int .i64 x.b.rub,.slice x.A x.n x.c,.bool x.b.asleep,.int .i64 x.b.calm] 27))
   refine (bplace_calls x.b x.A x.n x.c x.l _ HX2.out).mono ?_
   rintro e w3 ⟨A1,n1,c1',rfl,hs1,-,-,hb1⟩
   rw [HPR.out] at hs1
   have HO3:=hid (HO2.out.below hb1)
   have hB1:Below w.heap.size w w3:=keepBelow hb1 (hB.alloc hB.size _)
   have HNM:=hid (nmeet_calls A1 B n1 c1' n' c' (placeL x.b x.l) p w3 hs1 (HPW.out.below hB1))
   clear hb1 HX HX2 HO HO2 hB hs1 HPR d0 d1 d2 d3 d4 d5 d6 d7 d8 d9 d10 d11 d12 hbo
   generalize placeL x.b x.l=pl at *
   generalize bothE pl p=er at *
   generalize meetTo (fun q=>nmeetB q p) L k=o0 at *
   go_wp2_with fail
   refine HNM.out.mono ?_
   rintro e w4 ⟨rfl,hb2⟩
   have hB2':=keepBelow hb2 hB1
   have HO4:=hid (HO3.out.below hb2)
   clear hb2 hB1 HO3 HNM
   cases hh:nmeetB pl p with
   | true =>
    rw [hh,if_pos rfl] at HST
    go_wp2_with (at_builtin;refine Hid.out ?_)
    refine hid ?_
    refine wpList_append_int rfl _ _ rfl w.heap.size _ _ rfl (HO4.out.alloc _) w4.heap.size 1 1 k ?c3 ?c4 ?c5 ?c6 ?c7
    case c3=>rfl
    case c4=>go_simp
    case c5=>have:=HLE.out;omega
    case c6=>have:=hB2'.size;simp;omega
    case c7 =>
     intro v' w7 ho1 hg1 hat
     have HO7:=hid ho1
     have hB7:Below w.heap.size w w7:=(hB2'.alloc hB2'.size (.cells #[.int .i64 (k:Int)] 3)).grown hg1 (by have:=hB2'.size;simp;omega) (fun k2 hk2=>(World.ownsRow.lt (OwnI.alloc HO4.out (.cells #[.int .i64 (k:Int)] 3)) k2 hk2).1)
     clear ho1 hg1 hat
     go_wp2
     go_roundw
     case rel=>exact ⟨k+1,by omega,by go_num,by rw [HST.out];exact HO7.out,hB7⟩
     case measure=>simp [intOf] <;> omega
   | false =>
    rw [hh,if_neg (by simp)] at HST
    go_wp2
    go_roundw
    case rel=>exact ⟨k+1,by omega,by go_num,by rw [HST.out];exact HO4.out,hB2'⟩
    case measure=>simp [intOf] <;> omega
  ·have hkn : k = L.length := by omega
   subst hkn
   obtain ⟨A2,n2,c2,rfl,hs2⟩:=HO.out.sl
   clear HSw HO
   go_wp2
   refine bodyPost_ret (v:=.tuple #[.slice A2 n2 c2,.int .i64 0]) (by simp [results,Tryz.results40,go_sem]) rfl ⟨A2,n2,c2,by rw [HME.out],by unfold meetL;rw [HME.out,if_pos rfl];exact hs2,hB⟩
end
end Go.Proofs.YtodpincpofoiiaaGreat
namespace Go.Proofs.YtodpincpofoiiaaGreat
section
set_option linter.unusedVariables false
set_option linter.unusedSimpArgs false
open Go.RowKit
theorem lineR_none {D:List V} {f u:V} (h:lineR D f u=none) {N L:Int} (hL:0<L) (h0:0≤N) (h1:N≤L):¬ ∀ t,t<D.length→0≤L*rnum D f t-N*rden D u t:=fun hin=>by
 have ok:=ln_ok (rnum D f) (rden D u) D.length
 unfold lineR at h
 generalize lnF (rnum D f) (rden D u) D.length=s at ok h
 match s,ok,h with
 | none,ok,h =>
  obtain ⟨t,ht,hd,hn⟩:=ok
  have:=hin t ht
  rw [hd,Int.mul_zero,Int.sub_zero] at this
  have:=Int.mul_pos hL (show 0 < -rnum D f t by omega)
  rw [Int.mul_neg] at this
  omega
 | some (e,v),ok,h =>
  obtain ⟨e2,v2,e1,hv,-,hx⟩:=ok
  have h:(if v.1*e.2<e.1*v.2 then none else some (e.1*65536 / e.2))=none:=h
  by_cases c:v.1*e.2<e.1*v.2
  ·obtain ⟨a, b⟩ := (hx N L hL h0 h1).1 hin
   have p1:=Int.mul_le_mul_of_nonneg_right a (show 0≤v.2 by omega)
   have p2:=Int.mul_le_mul_of_nonneg_right b (show 0≤e.2 by omega)
   have p3:=Int.mul_lt_mul_of_pos_right c hL
   have e3:e.1*L*v.2=e.1*v.2*L:=by grind
   have e4:v.1*L*e.2=v.1*e.2*L:=by grind
   have e5:N*e.2*v.2=N*v.2*e.2:=by grind
   omega
  ·rw [if_neg c] at h;cases h
theorem lineR_some {D:List V} {f u:V} {T:Int} (h:lineR D f u=some T):∃ N L:Int,0<L∧0≤N∧N≤L∧T=N*65536 / L∧∀ t,t<D.length→0≤L*rnum D f t-N*rden D u t:=by
 have ok:=ln_ok (rnum D f) (rden D u) D.length
 unfold lineR at h
 generalize lnF (rnum D f) (rden D u) D.length=s at ok h
 match s,ok,h with
 | none,ok,h=>cases h
 | some (e,v),ok,h =>
  obtain ⟨e2,v2,e1,hv,-,hx⟩:=ok
  have h:(if v.1*e.2<e.1*v.2 then none else some (e.1*65536 / e.2))=some T:=h
  by_cases c:v.1*e.2<e.1*v.2
  ·rw [if_pos c] at h;cases h
  ·rw [if_neg c] at h
   cases h
   have p1:=Int.mul_le_mul_of_nonneg_right hv (show 0≤e.2 by omega)
   have p2:e.1*v.2≤e.2*v.2:=by rw [Int.mul_comm e.2];omega
   have hle:e.1≤e.2:=Int.le_of_mul_le_mul_right p2 v2
   refine ⟨e.1,e.2,e2,e1,hle,rfl,(hx e.1 e.2 e2 e1 hle).2 ⟨by omega,by omega⟩⟩
theorem rnd_in (D:List V) (f u:V) (N L:Int) (t:Nat):L*rnum D f t-N*rden D u t=cr (vsub (cyP D (t+1)) (cyP D t)) (vsub (L*f.1+N*u.1,L*f.2+N*u.2) (L*(cyP D t).1,L*(cyP D t).2)):=by
 unfold rnum rden cr vsub
 grind

theorem line_inP {D:List V} (h0:0<D.length) {f u:V} {N L:Int}:(∀ t,t<D.length→0≤L*rnum D f t-N*rden D u t)↔inP (cyP D) (L*f.1+N*u.1,L*f.2+N*u.2) L:=by
 constructor
 ·intro h
  exact per_all (p:=fun a b=>0≤cr (vsub b a) (vsub (L*f.1+N*u.1,L*f.2+N*u.2) (L*a.1,L*a.2))) h0 (fun t ht=>by rw [← rnd_in];exact h t ht)
 ·intro h t _
  rw [rnd_in]
  exact h t




end
end Go.Proofs.YtodpincpofoiiaaGreat
namespace Go.Proofs.YtodpincpofoiiaaGreat
section
set_option linter.unusedVariables false
set_option linter.unusedSimpArgs false
open Go.RowKit
theorem BdAt.far {w:World} {g:Nat} {b:Bd} {A:Option Addr} {n c:Nat} (h:BdAt w g b A n c) (k o:Nat) (v:Value) (hne:k≠g):BdAt (w.setCell ⟨k,o,none⟩ v) g b A n c :=
 ⟨far1 hne h.c0,far1 hne h.c1,far1 hne h.c2,far1 hne h.c3,far1 hne h.c4,far1 hne h.c5,far1 hne h.c6,far1 hne h.c7,far1 hne h.c8,far1 hne h.c9,far1 hne h.c10,far1 hne h.c11,far1 hne h.c12,fun j=>by rw [World.frozen?_setCell];exact h.free j⟩
def RetMade (w:World) (e:Ending) (w':World):Prop:=∃ b l A n c,e = .returned (bodyV b A n c)∧MadeB b∧Made l∧Sl w' A n c l∧(∀ bx off,A=some ⟨bx,off,none⟩→w.heap.size≤bx)∧Below w.heap.size w w'
theorem mBody_calls (A:Option Addr) (n c:Nat) (r:List Int) (w:World) (hS:SlI w A n c r):Calls Tryz.prog 35 #[.slice A n c] w (RetMade w):=by
 obtain ⟨W,hW⟩:∃ W,W=(w.alloc (.cells #[.int .i64 0,.int .i64 0,.int .i64 0,.int .i64 0,.int .i64 0,.int .i64 0,.int .i64 0,.int .i64 0,.int .i64 0,.int .i64 0,.slice none 0 0,.bool false,.int .i64 0] 27)).alloc (.cells #[.slice A n c] 111):=⟨_,rfl⟩
 have HZ0:=hid (show BdZ W w.heap.size by rw [hW];have:=BdAt.here w bd0 none 0 0 27;simp only [bd0] at this;exact (BdZ.of this).alloc _)
 have hB0:Below w.heap.size w W:=by rw [hW];go_grown
 have hsz:W.heap.size=w.heap.size+2:=by rw [hW];simp
 have hI:=hS.below hB0
 have hs:Stm W (w.heap.size+1) r:=⟨by omega,by rw [hW];go_simp,A,n,c,by rw [hW];go_simp,hI,fun hr b off e=>by obtain ⟨b',off',e2,h,_⟩:=hS.at_ hr;rw [e] at e2;cases e2;omega⟩
 have HS:=hid hs
 clear hs hS hI
 go_enter Tryz.func35,Tryz.ntmps35
 go_wp2_with fail
 rw [← hW]
 clear hW
 refine (mbody_calls (w.heap.size+1) r _ HS.out).mono ?_
 rintro e w1 ⟨b,l,A1,n1,c1,rfl,hmb,hml,hs1,hf1,hg1⟩
 have HZ1:=hid (HZ0.out.grown hg1 (by omega))
 have hB1:Below w.heap.size w w1:=hB0.trans (below_of_grown hg1 (by omega) (by omega))
 have HMB:=hid hmb
 have HML:=hid hml
 have HS1:=hid hs1
 have HNF:Hid (∀ bx off,A1=some ⟨bx,off,none⟩→w.heap.size≤bx):=fun bx off e=>by have:=hf1 bx off e;omega
 have HNZ:Hid (∀ bx off,A1=some ⟨bx,off,none⟩→bx≠w.heap.size):=fun bx off e=>by have:=hf1 bx off e;omega
 obtain ⟨z0,z1,z2,z3,z4,z5,z6,z7,z8,z9,z10,z11,z12,y0,y1,y2,y3,y4,y5,y6,y7,y8,y9,y10,y11,y12⟩:=HZ1.out.all
 have yf:=HZ1.out.free
 have hl1:=HZ1.out.lt
 clear HZ0 hB0 hmb hml hs1 hf1 hg1 HZ1
 go_wp2
 refine bodyPost_ret (v:=bodyV b A1 n1 c1) (by simp [results,Tryz.results35,go_sem,y0,y1,y2,y3,y4,y5,y6,y7,y8,y9,y10,y11,y12,hl1]) rfl ⟨_,_,_,_,_,rfl,HMB.out,HML.out,?_,HNF.out,?_⟩
 ·iterate 13 refine Sl.setAt ?_ HNZ.out
  exact HS1.out
 ·go_grown
end
end Go.Proofs.YtodpincpofoiiaaGreat
namespace Go.Proofs.YtodpincpofoiiaaGreat
section
set_option linter.unusedVariables false
set_option linter.unusedSimpArgs false
open Go.RowKit
theorem absZ_le {a M:Int} (h1 : -M≤a) (h2:a≤M):absZ a≤M:=by unfold absZ;split <;> omega
theorem sizeL_made {l:List V} (h:allWithin 262144 l=true) {i k:Nat} (hi:i<l.length) (hk:k<l.length):sizeL l i k≤1048576:=by
 have h1:=withinB_iff.1 (allWithin_at h hi)
 have h2:=withinB_iff.1 (allWithin_at h hk)
 have e1:=absZ_le (a:=px l k-px l i) (M:=524288) (by omega) (by omega)
 have e2:=absZ_le (a:=py l k-py l i) (M:=524288) (by omega) (by omega)
 unfold sizeL
 omega
theorem fatBad_not {l:List V} (hw:allWithin 262144 l=true) {i k:Nat} (hi:i<l.length) (hk:k<l.length) (h:k=i∨k=(i+1) % l.length∨16777216≤sideL l i ((i+1) % l.length) k):fatBad l i k=false:=by
 unfold fatBad
 refine decide_eq_false ?_
 rintro ⟨n1,n2,n3⟩
 rcases h with h | h | h
 ·exact n1 h
 ·exact n2 h
 ·have a1 := sizeL_made hw hi (Nat.mod_lt (i + 1) (show 0 < l.length by omega))
  have a2:=sizeL_made hw hi hk
  omega
theorem fat_of {l:List V} (hw:allWithin 262144 l=true) (h:∀ i,i<l.length→∀ k,k<l.length→(k=i∨k=(i+1) % l.length∨16777216≤sideL l i ((i+1) % l.length) k)):fatB l=true :=
 fatB_ok fun i hi k hk=>fatBad_not hw hi hk (h i hi k hk)
theorem tri_fat {w h x:Int} (hw:w=65536∨w=131072∨w=196608∨w=262144) (hh:h=65536∨h=131072∨h=196608∨h=262144) (h1 : -w≤x) (h2:x<w):fatB [(-w,-h),(w,-h),(x,h)]=true:=by
 have hp:4294967296≤w*h:=by rcases hw with rfl | rfl | rfl | rfl <;> omega
 refine fat_of (by simp [allWithin,withinB];omega) ?_
 intro i hi k hk
 simp only [List.length_cons,List.length_nil] at hi hk
 match i,hi,k,hk with
 | 0,_,0,_=>exact .inl rfl
 | 0,_,1,_=>exact .inr (.inl rfl)
 | 0,_,2,_=>refine .inr (.inr ?_);simp [sideL,sideZ,px,py];grind
 | 1,_,0,_=>refine .inr (.inr ?_);simp [sideL,sideZ,px,py];grind
 | 1,_,1,_=>exact .inl rfl
 | 1,_,2,_=>exact .inr (.inl rfl)
 | 2,_,0,_=>exact .inr (.inl (by simp))
 | 2,_,1,_=>refine .inr (.inr ?_);simp [sideL,sideZ,px,py];grind
 | 2,_,2,_=>exact .inl rfl
theorem made_fat {l:List V} (h:Made l):fatB l=true:=by
 obtain ⟨a,b,k,x,ha,hb,hk,h1,h2,rfl⟩:=h
 rcases hk with rfl | rfl | rfl | rfl
 ·rw [formL_nox _ _ _ _ (by decide)];rcases ha with rfl | rfl | rfl | rfl <;> rcases hb with rfl | rfl | rfl | rfl <;> decide
 ·exact tri_fat (by omega) (by omega) h1 h2
 ·rw [formL_nox _ _ _ _ (by decide)];rcases ha with rfl | rfl | rfl | rfl <;> rcases hb with rfl | rfl | rfl | rfl <;> decide
 ·rw [formL_nox _ _ _ _ (by decide)];rcases ha with rfl | rfl | rfl | rfl <;> rcases hb with rfl | rfl | rfl | rfl <;> decide
theorem tri_has {w h x:Int} (hw:w=65536∨w=131072∨w=196608∨w=262144) (hh:h=65536∨h=131072∨h=196608∨h=262144) (h1 : -w≤x) (h2:x<w):hasB [(-w,-h),(w,-h),(x,h)] 0 0=true:=by
 refine hasB_true (made_tri _ _ _ (by omega) (by omega) (by omega) (by omega) h1 h2) (by decide) ?_
 intro i hi
 simp only [List.length_cons,List.length_nil] at hi
 match i,hi with
 | 0,_=>rcases hw with rfl | rfl | rfl | rfl <;> rcases hh with rfl | rfl | rfl | rfl <;> simp [edgeP,sideZ,px,py]
 | 1,_=>rcases hw with rfl | rfl | rfl | rfl <;> rcases hh with rfl | rfl | rfl | rfl <;> simp [edgeP,sideZ,px,py] <;> omega
 | 2,_=>rcases hw with rfl | rfl | rfl | rfl <;> rcases hh with rfl | rfl | rfl | rfl <;> simp [edgeP,sideZ,px,py] <;> omega
theorem made_has {l:List V} (h:Made l):hasB l 0 0=true:=by
 obtain ⟨a,b,k,x,ha,hb,hk,h1,h2,rfl⟩:=h
 rcases hk with rfl | rfl | rfl | rfl
 ·rw [formL_nox _ _ _ _ (by decide)];rcases ha with rfl | rfl | rfl | rfl <;> rcases hb with rfl | rfl | rfl | rfl <;> decide
 ·exact tri_has (by omega) (by omega) h1 h2
 ·rw [formL_nox _ _ _ _ (by decide)];rcases ha with rfl | rfl | rfl | rfl <;> rcases hb with rfl | rfl | rfl | rfl <;> decide
 ·rw [formL_nox _ _ _ _ (by decide)];rcases ha with rfl | rfl | rfl | rfl <;> rcases hb with rfl | rfl | rfl | rfl <;> decide
theorem made_shape {l:List V} (h:Made l):shapeE l=0:=by
 have hw:allWithin 2097152 l=true:=by
  have:=made_within h
  unfold allWithin at this ⊢
  rw [List.all_eq_true] at this ⊢
  intro p hp
  have:=withinB_iff.1 (this p hp)
  exact withinB_iff.2 (by omega)
 unfold shapeE
 rw [if_neg (by simp [made_check h]),if_neg (by simp [hw]),if_neg (by simp [made_fat h,made_has h])]
theorem madeB_num {b:Bd} (h:MadeB b):numE b=0:=by
 obtain ⟨hpx,hpy,ang,bo,ru,asl,ca,k⟩:=h
 have a1:withinB 58982400 b.px b.py=true:=withinB_iff.2 (by omega)
 have a2:withinB 268435456 b.vx b.vy=true:=withinB_iff.2 (by rcases k with k | k <;> omega)
 have a3:inB b.spin (-16777216) 16777216=true:=inB_iff.2 (by rcases k with k | k <;> omega)
 have a4:inB b.ang 0 65535=true:=inB_iff.2 ang
 have a5:inB b.mass 0 1099511627776=true:=inB_iff.2 (by rcases k with k | k <;> omega)
 have a6:inB b.iner 0 1099511627776=true:=inB_iff.2 (by rcases k with k | k <;> omega)
 have a7:inB b.bounce 0 65536=true:=inB_iff.2 bo
 have a8:inB b.rub 0 65536=true:=inB_iff.2 ru
 have a9:inB b.calm 0 1000=true:=inB_iff.2 (by omega)
 unfold numE
 rw [if_pos (by simp [a1,a2,a3,a4]),if_pos (by simp [a5,a6,a7,a8,a9])]
 rcases k with ⟨k1,k2,k3,k4,k5⟩ | ⟨k1,k2,k3,k4,k5⟩
 ·rw [if_neg (by simp [stillB,k1,k2,k3,k4,k5,asl,ca])]
 ·have m1 : (b.mass == 0) = false := by simp; omega
  have m2:(b.iner == 0)=false:=by simp;omega
  rw [if_neg (by simp [m1,m2,asl])]
theorem madeB_ok {b:Bd} {l:List V} (h:MadeB b) (hl:Made l):bodyE b l=0:=by
 unfold bodyE
 rw [if_neg (by simp [made_shape hl])]
 exact madeB_num h
end
end Go.Proofs.YtodpincpofoiiaaGreat
namespace Go.Proofs.YtodpincpofoiiaaGreat
section
set_option linter.unusedVariables false
set_option linter.unusedSimpArgs false
open Go.RowKit

theorem lineR_least {D:List V} {f u:V} {N L:Int} (hL:0<L) (h0:0≤N) (h1:N≤L) (hin:∀ t,t<D.length→0≤L*rnum D f t-N*rden D u t):∃ T,lineR D f u=some T∧T≤N*65536 / L∧0≤T:=by
 cases h:lineR D f u with
 | none=>exact absurd hin (lineR_none h hL h0 h1)
 | some T =>
  refine ⟨T,rfl,?_⟩
  have ok:=ln_ok (rnum D f) (rden D u) D.length
  unfold lineR at h
  generalize lnF (rnum D f) (rden D u) D.length=s at ok h
  match s,ok,h with
  | none,ok,h=>cases h
  | some (e,v),ok,h =>
   obtain ⟨e2,v2,e1,hv,-,hx⟩:=ok
   have h:(if v.1*e.2<e.1*v.2 then none else some (e.1*65536 / e.2))=some T:=h
   by_cases c:v.1*e.2<e.1*v.2
   ·rw [if_pos c] at h;cases h
   ·rw [if_neg c] at h
    cases h
    obtain ⟨a,-⟩:=(hx N L hL h0 h1).1 hin
    refine ⟨?_,Int.ediv_nonneg (by omega) (by omega)⟩
    have q1:=Int.ediv_mul_le (e.1*65536) (show e.2≠0 by omega)
    refine (Int.le_ediv_iff_mul_le hL).2 ?_
    refine Int.le_of_mul_le_mul_right (show e.1*65536 / e.2*L*e.2≤N*65536*e.2 from ?_) e2
    have q2:=Int.mul_le_mul_of_nonneg_right q1 (show 0≤L by omega)
    have g1:e.1*65536 / e.2*L*e.2=e.1*65536 / e.2*e.2*L:=by grind
    have g2:e.1*65536*L=65536*(e.1*L):=by grind
    have g3:N*65536*e.2=65536*(N*e.2):=by grind
    rw [g1,g3]
    rw [g2] at q2
    omega


end
end Go.Proofs.YtodpincpofoiiaaGreat
namespace Go.Proofs.YtodpincpofoiiaaGreat
section
set_option linter.unusedVariables false
set_option linter.unusedSimpArgs false
open Go.RowKit
theorem ptsR_ne (ref inc:List V) (e:Nat) (way:V) (id0:Int):ptsR ref inc e way id0≠[]:=by
 unfold ptsR
 split
 ·simp
 ·assumption
theorem pts_ne {l m:List V} (hm:meetsB l m=true):ptsZ l m≠[]:=by
 obtain ⟨s,e,d,hso,-,-⟩:=least_some hm
 unfold ptsZ
 rw [hso]
 dsimp only
 split
 ·exact ptsR_ne _ _ _ _ _
 ·exact ptsR_ne _ _ _ _ _
theorem pts_nil {l m:List V} (hm:meetsB l m=false):ptsZ l m=[]:=by
 unfold ptsZ leastO
 rw [if_neg (by rw [hm];simp)]

theorem stops_still {q p:List V} (hq:checkE q=0) (hp:checkE p=0):lineR (minusL q p) (0,0) (0,0)=if nmeetB q p=true then some 0 else none:=by
 cases h:nmeetB q p with
 | true =>
  rw [if_pos rfl]
  have hD:=minus_dif hq hp
  have h3:=hD.pol.pos
  unfold nmeetB at h
  rw [decide_eq_true (bothE_zero.2 ⟨hq,hp⟩),Bool.true_and] at h
  obtain ⟨T,hT,h1,h2⟩:=lineR_least (D:=minusL q p) (f:=(0,0)) (u:=(0,0)) (N:=0) (L:=1) (by omega) (by omega) (by omega) (fun t ht=>by
   have:=(ninB_iff (by omega)).1 h t
   have e:rnum (minusL q p) (0,0) t=cr (cyP (minusL q p) t) (cyP (minusL q p) (t+1)):=by unfold rnum cr vsub;grind
   rw [e]
   omega)
  have hT0:T=0:=by
   have:(0:Int)*65536 / 1=0:=by decide
   omega
  rw [hT,hT0]
 | false =>
  rw [if_neg (by simp)]
  cases hl:lineR (minusL q p) (0,0) (0,0) with
  | none=>rfl
  | some T =>
   exfalso
   obtain ⟨N,M,hM,-,-,-,hall⟩:=lineR_some hl
   have hD:=minus_dif hq hp
   have h3:=hD.pol.pos
   unfold nmeetB at h
   rw [decide_eq_true (bothE_zero.2 ⟨hq,hp⟩),Bool.true_and] at h
   have:ninB (minusL q p)=true:=(ninB_iff (by omega)).2 (fun t=>by
    have hin:=(line_inP (D:=minusL q p) (by omega) (f:=(0,0)) (u:=(0,0)) (N:=N) (L:=M)).1 hall t
    have e:cr (vsub (cyP (minusL q p) (t+1)) (cyP (minusL q p) t)) (vsub (M*((0,0):V).1+N*((0,0):V).1,M*((0,0):V).2+N*((0,0):V).2) (M*(cyP (minusL q p) t).1,M*(cyP (minusL q p) t).2))=M*cr (cyP (minusL q p) t) (cyP (minusL q p) (t+1)):=by unfold cr vsub;grind
    rw [e] at hin
    rcases Int.lt_or_le (cr (cyP (minusL q p) t) (cyP (minusL q p) (t+1))) 0 with g | g
    ·have := Int.mul_pos hM (show 0 < -cr (cyP (minusL q p) t) (cyP (minusL q p) (t + 1)) by omega)
     rw [Int.mul_neg] at this
     omega
    ·exact g)
   rw [this] at h
   cases h
theorem meets_nmeet {a b:List V} (ha:checkE a=0) (hb:checkE b=0):nmeetB a b=meetsB a b:=by
 unfold nmeetB
 rw [decide_eq_true (bothE_zero.2 ⟨ha,hb⟩),Bool.true_and,meets_nin ha hb]

theorem shape_one {x:BE} {p:List V} (hx:bodyE x.b x.l=0) (hp:checkE p=0):shapeO [x] p (0,0)=if nmeetB (placeL x.b x.l) p=true then some (0,0) else none:=by
 unfold shapeO
 show frTo _ [x] 1=_
 rw [frTo_succ (by simp)]
 show frStep 0 (lineR (minusL (placeL x.b x.l) p) (0,0) (0,0)) none=_
 rw [stops_still (placed_ok hx) hp]
 cases nmeetB (placeL x.b x.l) p <;> rfl
theorem meet_one {x:BE} {p:List V}:meetTo (fun q=>nmeetB q p) [x] 1=if nmeetB (placeL x.b x.l) p=true then [0] else []:=by
 rw [meetTo_succ (by simp)]
 rfl
theorem apart_pos {a b:List V}:0≤apartZ a b:=by
 unfold apartZ
 split
 ·split
  ·omega
  ·rename_i h _
   obtain ⟨hw,hl⟩:=minus_bd a b
   have key:∀ k,k≤(minusL a b).length→0≤farTo (minusL a b) k:=fun k=>by
    induction k with
    | zero=>intro _;show (0:Int)≤1073741824;omega
    | succ k ih =>
     intro hk
     rw [farTo]
     split
     ·have h1 := withinB_iff.1 (allWithin_at hw (show k < (minusL a b).length by omega))
      have h2:=withinB_iff.1 (allWithin_at hw (Nat.mod_lt (k+1) (show 0<(minusL a b).length by omega)))
      exact (farZ_bd (by omega) (by omega) (by omega) (by omega)).1
     ·exact ih (by omega)
   exact key _ (Nat.le_refl _)
 ·omega
theorem apart_zero {a b:List V} (h:nmeetB a b=true):apartZ a b=0:=by
 unfold nmeetB at h
 rw [Bool.and_eq_true,decide_eq_true_iff] at h
 unfold apartZ
 rw [if_pos h.1,if_pos h.2]
theorem dep_nnT {l m:List V} (hl:checkE l=0) (hm:checkE m=0) {i:Nat} (hi:i<l.length) (hd:0≤deepZ l m i):0≤depZ l m i:=by
 obtain ⟨_,l3,wl,_⟩:=checkE_zero hl
 obtain ⟨_,m3,wm,_⟩:=checkE_zero hm
 have bn:=nrm_bd wl hi
 have L0:0<lenZ (nrmX l i) (nrmY l i):=(len_bd (by omega) (by omega)).2.2 (nrm_ne hl hi)
 have hb:=deepTo_bd wl wm hi (m.length-1) (by omega)
 unfold depZ
 rw [overQ_rnd L0 (by unfold deepZ;omega)]
 exact Int.ediv_nonneg (by omega) (by omega)
theorem tst_nnT {l m:List V} (h:meetsB l m=true):0≤tstD l m:=by
 have h0:=h
 unfold meetsB at h0
 rw [decide_eq_true_iff] at h0
 obtain ⟨hE,d1,d2⟩:=h0
 obtain ⟨hl,hm⟩:=bothE_zero.1 hE
 obtain ⟨s,e,d,h1,h2,h3⟩:=least_dep h
 have:tstD l m=d:=by unfold tstD;rw [h1];rfl
 rw [this]
 cases s with
 | true=>obtain ⟨he,hd⟩:=h2 rfl;rw [hd];exact dep_nnT hm hl he (d2 e he)
 | false=>obtain ⟨he,hd⟩:=h3 rfl;rw [hd];exact dep_nnT hl hm he (d1 e he)
theorem tst_zeroT {l m:List V} (h:meetsB l m=false):tstD l m=0:=by unfold tstD leastO;rw [if_neg (by rw [h];simp)];rfl
end
end Go.Proofs.YtodpincpofoiiaaGreat
