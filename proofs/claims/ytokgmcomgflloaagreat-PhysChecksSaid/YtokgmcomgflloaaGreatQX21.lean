/- Parts of a proof: contracts and laws. -/
import Derived.Test.YtokgmcomgflloaaGreatQX16
import Derived.Test.YtokgmcomgflloaaGreatQX20
import Derived.Test.YtokgmcomgflloaaGreatQX04
import Derived.Test.YtokgmcomgflloaaGreatQX12
import Derived.Shelf.SlSortCmp.InsertionK
import Derived.Shelf.SlSortCmp.Kit1
set_option maxRecDepth 100000
set_option maxHeartbeats 16000000
namespace Go.Proofs.YtokgmcomgflloaaGreat
section
set_option linter.unusedVariables false
set_option linter.unusedSimpArgs false
open Go.RowKit
variable {w0 w w':World}
theorem F6 (a b:Int):Lib.compareInt a b=lK a b:=by unfold Lib.compareInt lK;(repeat' split) <;> omega
theorem iF (x y:Int) (w:World):Calls Tryz.prog 75 #[.int .i64 x,.int .i64 y] w (dw (.int .i64 (lK x y)) w) :=
 (iV x y w).mono fun e w' h=>by
  obtain ⟨rfl,rfl⟩:=h
  exact aj (F6 x y) (Below.refl _ _)
def wu (x y z:Int):Int:=if x≠0 then x else if y≠0 then y else z
theorem BU (b c:Nat) (x y z:Int) (W:World) (h0:W.cell? ⟨b,0,none⟩=some (.int .i64 x)) (h1:W.cell? ⟨b,1,none⟩=some (.int .i64 y)) (h2:W.cell? ⟨b,2,none⟩=some (.int .i64 z)) :
  Calls Tryz.prog 80 #[.slice (some ⟨b,0,none⟩) 3 c] W (dw (.int .i64 (wu x y z)) W):=by
 have HZ:Hid (wu x y z=if x≠0 then x else if y≠0 then y else z):=rfl;generalize wu x y z=q at *
 have hbl:=lt_of_cell h0
 go_enter Tryz.func80,Tryz.ntmps80
 go_wp2
 go_loopw [8] (fun j wr=>∃ k:Nat,k≤3∧j = .int .i64 k∧(1≤k→x=0)∧(2≤k→y=0)∧(3≤k→z=0)∧wr=W) (fun j _=>3-(intOf j).toNat)
 case atStart=>exact ⟨0,by omega,rfl,by omega,by omega,by omega,rfl⟩
 case round =>
  obtain ⟨k,hk,rfl,hx,hy,hz,rfl⟩:=hrel;have tri:k=0∨k=1∨k=2∨k=3:=by omega
  rcases tri with rfl | rfl | rfl | rfl
  ·by_cases hq : x = 0
   ·subst hq;clear hx hy hz;go_wp2;go_roundw
    case rel=>exact ⟨1,by omega,rfl,fun _=>by simp,by omega,by omega,by simp⟩
    case measure=>simp [intOf]
   ·have hne : (x != 0) = true := by simp [hq]
    clear hx hy hz;go_wp2
    go_returns
    exact aj (by rw [HZ.out];simp [hq]) (Below.refl _ _)
  ·obtain rfl := hx (by omega)
   by_cases hq:y=0
   ·subst hq;clear hx hy hz;go_wp2;go_roundw
    case rel=>exact ⟨2,by omega,rfl,fun _=>by simp,fun _=>by simp,by omega,by simp⟩
    case measure=>simp [intOf]
   ·have hne : (y != 0) = true := by simp [hq]
    clear hx hy hz;go_wp2
    go_returns
    exact aj (by rw [HZ.out];simp [hq]) (Below.refl _ _)
  ·obtain rfl := hx (by omega);obtain rfl:=hy (by omega)
   by_cases hq:z=0
   ·subst hq;clear hx hy hz;go_wp2;go_roundw
    case rel=>exact ⟨3,by omega,rfl,fun _=>by simp,fun _=>by simp,fun _=>by simp,by simp⟩
    case measure=>simp [intOf]
   ·have hne : (z != 0) = true := by simp [hq]
    clear hx hy hz;go_wp2
    go_returns
    exact aj (by rw [HZ.out];simp) (Below.refl _ _)
  ·obtain rfl := hx (by omega);obtain rfl:=hy (by omega);obtain rfl:=hz (by omega);clear hx hy hz;go_wp2
   go_returns
   exact aj (by rw [HZ.out];simp) (Below.refl _ _)
theorem wT (x y:Ct) (w:World):Calls Tryz.prog 60 #[.agg #[.int .i64 x.a,.int .i64 x.b,.int .i64 x.id,.int .i64 x.px,.int .i64 x.py,.int .i64 x.nx,.int .i64 x.ny,.int .i64 x.dep,.int .i64 x.push,.int .i64 x.sli],.agg #[.int .i64 y.a,.int .i64 y.b,.int .i64 y.id,.int .i64 y.px,.int .i64 y.py,.int .i64 y.nx,.int .i64 y.ny,.int .i64 y.dep,.int .i64 y.push,.int .i64 y.sli]] w (dw (.int .i64 (Ad x y)) w):=by
 have HC1:=hid (iF x.a y.a);have HC2:=hid (iF x.b y.b);have HC3:=hid (iF x.id y.id);have HR:Hid (Ad x y=wu (lK x.a y.a) (lK x.b y.b) (lK x.id y.id)):=rfl;generalize lK x.a y.a=z1 at *
 generalize lK x.b y.b=z2 at *
 generalize lK x.id y.id=z3 at *
 obtain ⟨g,hg⟩:∃ g,g=w.heap.size:=⟨_,rfl⟩;obtain ⟨W,hW⟩:∃ W,W=(w.alloc (.cells #[.int .i64 x.a,.int .i64 x.b,.int .i64 x.id,.int .i64 x.px,.int .i64 x.py,.int .i64 x.nx,.int .i64 x.ny,.int .i64 x.dep,.int .i64 x.push,.int .i64 x.sli] 106)).alloc (.cells #[.int .i64 y.a,.int .i64 y.b,.int .i64 y.id,.int .i64 y.px,.int .i64 y.py,.int .i64 y.nx,.int .i64 y.ny,.int .i64 y.dep,.int .i64 y.push,.int .i64 y.sli] 106):=⟨_,rfl⟩;have hB:Below w.heap.size w W:=by rw [hW];go_grown
 have x0:W.cell? ⟨g,0,none⟩=some (.int .i64 x.a):=by rw [hW,hg];go_simp
 have x1:W.cell? ⟨g,1,none⟩=some (.int .i64 x.b):=by rw [hW,hg];go_simp
 have x2:W.cell? ⟨g,2,none⟩=some (.int .i64 x.id):=by rw [hW,hg];go_simp
 have y0:W.cell? ⟨g+1,0,none⟩=some (.int .i64 y.a):=by rw [hW,hg];go_simp
 have y1:W.cell? ⟨g+1,1,none⟩=some (.int .i64 y.b):=by rw [hW,hg];go_simp
 have y2:W.cell? ⟨g+1,2,none⟩=some (.int .i64 y.id):=by rw [hW,hg];go_simp
 go_enter Tryz.func60,Tryz.ntmps60
 go_upto_region 1 with fail
 rw [← hW,← hg];clear hW hg;refine wp_region_noPanic ?_;refine au (S:=(S3 (fun w'=>w'.cell? ⟨g,0,none⟩=some (.int .i64 x.a)∧w'.cell? ⟨g,1,none⟩=some (.int .i64 x.b)∧w'.cell? ⟨g,2,none⟩=some (.int .i64 x.id)∧w'.cell? ⟨(g+1),0,none⟩=some (.int .i64 y.a)∧w'.cell? ⟨(g+1),1,none⟩=some (.int .i64 y.b)∧w'.cell? ⟨(g+1),2,none⟩=some (.int .i64 y.id)∧Below w.heap.size w w') (fun w'=>Below w.heap.size w w'))) (T:=(fun j=>[0,0,0,0,0,0,0,0,0,0,0,0,0,0,0,1].getD j 0)) (by kernel_rfl) (D9 ⟨x0,x1,x2,y0,y1,y2,hB.drew⟩) (fun hH=>?_);have hWr1:aO (S3 (fun w'=>w'.cell? ⟨g,0,none⟩=some (.int .i64 x.a)∧w'.cell? ⟨g,1,none⟩=some (.int .i64 x.b)∧w'.cell? ⟨g,2,none⟩=some (.int .i64 x.id)∧w'.cell? ⟨(g+1),0,none⟩=some (.int .i64 y.a)∧w'.cell? ⟨(g+1),1,none⟩=some (.int .i64 y.b)∧w'.cell? ⟨(g+1),2,none⟩=some (.int .i64 y.id)∧Below w.heap.size w w') (fun w'=>Below w.heap.size w w')):=Bl (fun _ ⟨q0,q1,q2,q3,q4,q5,q6⟩=>q6);refine gH [(0,5),(1,6),(2,7),(3,8),(5,10),(6,11),(7,12),(8,13),(10,15),(11,16),(12,17),(13,18)] 6 0 0 (L':=?Lr1_1) hWr1 hH ?hyr1_1 ?_
 case hyr1_1=>((iterate 12 apply gK;rfl;kernel_rfl;intro w' hSw;replace hSw:=yT hSw;(try dsimp only at hSw);have q0:=hSw.1;have q1:=hSw.2.1;have q2:=hSw.2.2.1;have q3:=hSw.2.2.2.1;have q4:=hSw.2.2.2.2.1;have q5:=hSw.2.2.2.2.2.1;have q6:=hSw.2.2.2.2.2.2;(try simp only [sB,sC]);go_simp;(try with_reducible rfl));exact gF)
 simp only [sB,sC];refine U1 4 0 rfl (fun K hK=>?_)
 try clear hb
 go_simp
 (go_at_call 75;refine (HC1.out _).mono ?_;rintro e wn ⟨rfl,hb⟩)
 refine hK.out _ _ ?hsr1_13 (fun hH2=>?hrr1_13)
 case hsr1_13=>exact D9 (by have hG:=hH;replace hG:=yT hG;(try dsimp only at hG);have q0:=hG.1;have q1:=hG.2.1;have q2:=hG.2.2.1;have q3:=hG.2.2.2.1;have q4:=hG.2.2.2.2.1;have q5:=hG.2.2.2.2.2.1;have q6:=hG.2.2.2.2.2.2;exact ⟨keepCell hb q0,keepCell hb q1,keepCell hb q2,keepCell hb q3,keepCell hb q4,keepCell hb q5,ah hb q6⟩)
 clear hK K hH;have hH:=hH2;clear hH2
 try simp only [Act.put,sA,sB,sC]
 refine U1 9 0 rfl (fun K hK=>?_)
 try clear hb
 go_simp
 (go_at_call 75;refine (HC2.out _).mono ?_;rintro e wn ⟨rfl,hb⟩)
 refine hK.out _ _ ?hsr1_14 (fun hH2=>?hrr1_14)
 case hsr1_14=>exact D9 (by have hG:=hH;replace hG:=yT hG;(try dsimp only at hG);have q0:=hG.1;have q1:=hG.2.1;have q2:=hG.2.2.1;have q3:=hG.2.2.2.1;have q4:=hG.2.2.2.2.1;have q5:=hG.2.2.2.2.2.1;have q6:=hG.2.2.2.2.2.2;exact ⟨keepCell hb q0,keepCell hb q1,keepCell hb q2,keepCell hb q3,keepCell hb q4,keepCell hb q5,ah hb q6⟩)
 clear hK K hH;have hH:=hH2;clear hH2
 try simp only [Act.put,sA,sB,sC]
 refine U1 14 0 rfl (fun K hK=>?_)
 try clear hb
 go_simp
 (go_at_call 75;refine (HC3.out _).mono ?_;rintro e wn ⟨rfl,hb⟩)
 refine hK.out _ _ ?hsr1_15 (fun hH2=>?hrr1_15)
 case hsr1_15=>exact D9 (by have hG:=hH;replace hG:=yT hG;(try dsimp only at hG);have q0:=hG.1;have q1:=hG.2.1;have q2:=hG.2.2.1;have q3:=hG.2.2.2.1;have q4:=hG.2.2.2.2.1;have q5:=hG.2.2.2.2.2.1;have q6:=hG.2.2.2.2.2.2;exact ⟨keepCell hb q0,keepCell hb q1,keepCell hb q2,keepCell hb q3,keepCell hb q4,keepCell hb q5,ah hb q6⟩)
 clear hK K hH;have hH:=hH2;clear hH2
 try simp only [Act.put,sA,sB,sC]
 refine U1 15 1 rfl (fun K hK=>?_)
 try clear hb
 have hG:=hH;replace hG:=yT hG;(try dsimp only at hG);have q0:=hG.1;have q1:=hG.2.1;have q2:=hG.2.2.1;have q3:=hG.2.2.2.1;have q4:=hG.2.2.2.2.1;have q5:=hG.2.2.2.2.2.1;have q6:=hG.2.2.2.2.2.2;go_simp;refine hK.out _ _ ?hsr1_16 (fun hH2=>?hrr1_16)
 case hsr1_16=>exact GN (ah Ba q6)
 clear hK K hH;have hH:=hH2;clear hH2
 try simp only [Act.put,sA,sB,sC]
 refine U1 16 1 rfl (fun K hK=>?_);go_simp
 (go_at_call 80;refine (BU _ _ z1 z2 z3 _ (by go_simp) (by go_simp) (by go_simp)).mono ?_;rintro e wn ⟨rfl,hb⟩)
 refine hK.out _ _ ?hsr1_17 (fun hH2=>?hrr1_17)
 case hsr1_17=>exact GN (ah hb (Gs hH))
 clear hK K hH;have hH:=hH2;clear hH2
 try simp only [Act.put,sA,sB,sC]
 refine Ut 17 4 0 1 1 (v:=?vr1_18) rfl hWr1 hH ?hyr1_18 ?_
 case hyr1_18=>(intro w' hSw;clear hSw;go_simp;try (with_reducible rfl))
 simp only [sB,sC];refine ak (by kernel_rfl) ?_ _ _;refine NoPanic.normal ?_;clear hWr1;replace hH:=Gs hH
 (try dsimp only at hH)
 have t6:=hH;go_wp2
 go_returns
 exact aj HR.out.symm t6

structure Kg (w : World) (g : Nat) (x : Ct) : Prop where
 c0:w.cell? ⟨g,0,none⟩=some (.int .i64 x.a)
 c1:w.cell? ⟨g,1,none⟩=some (.int .i64 x.b)
 c2:w.cell? ⟨g,2,none⟩=some (.int .i64 x.id)
 c3:w.cell? ⟨g,3,none⟩=some (.int .i64 x.px)
 c4:w.cell? ⟨g,4,none⟩=some (.int .i64 x.py)
 c5:w.cell? ⟨g,5,none⟩=some (.int .i64 x.nx)
 c6:w.cell? ⟨g,6,none⟩=some (.int .i64 x.ny)
 c7:w.cell? ⟨g,7,none⟩=some (.int .i64 x.dep)
 c8:w.cell? ⟨g,8,none⟩=some (.int .i64 x.push)
 c9:w.cell? ⟨g,9,none⟩=some (.int .i64 x.sli)
theorem jF {g:Nat} {x:Ct} (hb:Below w.heap.size w w') (h:Kg w g x):Kg w' g x:=⟨keepCell hb h.c0,keepCell hb h.c1,keepCell hb h.c2,keepCell hb h.c3,keepCell hb h.c4,keepCell hb h.c5,keepCell hb h.c6,keepCell hb h.c7,keepCell hb h.c8,keepCell hb h.c9⟩
theorem Kg.drew {g:Nat} {x:Ct} (h:Kg w g x):Kg w.drew g x:=jF (Below.refl _ _).drew h

theorem aH.set_push {g i:Nat} {C:List Ct} {x:Ct} (h:aH dH w g 0 C) (hi:i<C.length) (hxi:C[i]=x) (v:Int):aH dH (w.setCell ⟨g,i*10+8,none⟩ (.int .i64 v)) g 0 (C.set i { x with push:=v }):=by
 refine ⟨by simp;exact h.lt,fun j hj k u hu=>?_⟩;have hlen:∀ x:Ct,(kN x).length=10:=fun _=>rfl
 have hj':j<C.length:=by simpa using hj
 by_cases e:j=i
 ·subst e;have hu:(kN { x with push:=v })[k]? = some u:=by have hu2:(kN (C.set j { x with push:=v })[j])[k]? = some u:=hu;rwa [List.getElem_set_self] at hu2
  show (w.setCell ⟨g,j*10+8,none⟩ (.int .i64 v)).cell? ⟨g,0+j*10+k,none⟩=some u;rw [Nat.zero_add]
  by_cases e2:k=8
  ·subst e2;have hu:some (Value.int .i64 v)=some u:=hu
   cases hu
   have h2:=h.at_ j hj' 8 _ (show (kN C[j])[8]? = some (.int .i64 C[j].push) from rfl);rw [Nat.zero_add] at h2;exact bN h2
  ·have hu2:(kN C[j])[k]? = some u:=by
    rw [hxi]
    have hk:k<10:=by
     rcases Nat.lt_or_ge k 10 with q | q
     ·exact q
     ·rw [List.getElem?_eq_none (by rw [hlen];exact q)] at hu;cases hu
    rw [← hu]
    match k,hk,e2 with
    | 0,_,_ | 1,_,_ | 2,_,_ | 3,_,_ | 4,_,_ | 5,_,_ | 6,_,_ | 7,_,_ | 9,_,_=>rfl
    | 8,_,e2=>exact (e2 rfl).elim
   have h2:w.cell? ⟨g,0+j*10+k,none⟩=some u:=h.at_ j hj' k u hu2;rw [Nat.zero_add] at h2;exact aK h2 (by omega)
 ·have hu : (kN C[j])[k]? = some u := by have hu2 : (kN (C.set i { x with push := v })[j])[k]? = some u := hu; rwa [List.getElem_set_ne (by omega)] at hu2
  have hk:k<10:=by
   rcases Nat.lt_or_ge k 10 with q | q
   ·exact q
   ·rw [List.getElem?_eq_none (by rw [hlen];exact q)] at hu;cases hu
  have h2:w.cell? ⟨g,0+j*10+k,none⟩=some u:=h.at_ j hj' k u hu;show (w.setCell ⟨g,i*10+8,none⟩ (.int .i64 v)).cell? ⟨g,0+j*10+k,none⟩=some u;exact aK h2 (by omega)
theorem aH.set_sli {g i:Nat} {C:List Ct} {x:Ct} (h:aH dH w g 0 C) (hi:i<C.length) (hxi:C[i]=x) (v:Int):aH dH (w.setCell ⟨g,i*10+9,none⟩ (.int .i64 v)) g 0 (C.set i { x with sli:=v }):=by
 refine ⟨by simp;exact h.lt,fun j hj k u hu=>?_⟩;have hlen:∀ x:Ct,(kN x).length=10:=fun _=>rfl
 have hj':j<C.length:=by simpa using hj
 by_cases e:j=i
 ·subst e;have hu:(kN { x with sli:=v })[k]? = some u:=by have hu2:(kN (C.set j { x with sli:=v })[j])[k]? = some u:=hu;rwa [List.getElem_set_self] at hu2
  show (w.setCell ⟨g,j*10+9,none⟩ (.int .i64 v)).cell? ⟨g,0+j*10+k,none⟩=some u;rw [Nat.zero_add]
  by_cases e2:k=9
  ·subst e2;have hu:some (Value.int .i64 v)=some u:=hu
   cases hu
   have h2:=h.at_ j hj' 9 _ (show (kN C[j])[9]? = some (.int .i64 C[j].sli) from rfl);rw [Nat.zero_add] at h2;exact bN h2
  ·have hu2:(kN C[j])[k]? = some u:=by
    rw [hxi]
    have hk:k<10:=by
     rcases Nat.lt_or_ge k 10 with q | q
     ·exact q
     ·rw [List.getElem?_eq_none (by rw [hlen];exact q)] at hu;cases hu
    rw [← hu]
    match k,hk,e2 with
    | 0,_,_ | 1,_,_ | 2,_,_ | 3,_,_ | 4,_,_ | 5,_,_ | 6,_,_ | 7,_,_ | 8,_,_=>rfl
    | 9,_,e2=>exact (e2 rfl).elim
   have h2:w.cell? ⟨g,0+j*10+k,none⟩=some u:=h.at_ j hj' k u hu2;rw [Nat.zero_add] at h2;exact aK h2 (by omega)
 ·have hu : (kN C[j])[k]? = some u := by have hu2 : (kN (C.set i { x with sli := v })[j])[k]? = some u := hu; rwa [List.getElem_set_ne (by omega)] at hu2
  have hk:k<10:=by
   rcases Nat.lt_or_ge k 10 with q | q
   ·exact q
   ·rw [List.getElem?_eq_none (by rw [hlen];exact q)] at hu;cases hu
  have h2:w.cell? ⟨g,0+j*10+k,none⟩=some u:=h.at_ j hj' k u hu;show (w.setCell ⟨g,i*10+9,none⟩ (.int .i64 v)).cell? ⟨g,0+j*10+k,none⟩=some u;exact aK h2 (by omega)

structure Cy (w0 : World) (gO gq n cap : Nat) (L : List Ct) (w : World) : Prop where
 co:w.cell? ⟨gO,0,none⟩=some (.slice (some ⟨gq,0,none⟩) n cap)
 cl:aH dH w gq 0 L
 cf:∀ j,w.frozen? ⟨gq,j,none⟩=false
 bel:Below w0.heap.size w0 w
 lo:w0.heap.size≤gq∧gq<gO
 ln:L.length=n
theorem Cy.keep {gO gq n cap:Nat} {L:List Ct} {w w':World} (hb:Below w.heap.size w w') (h:Cy w0 gO gq n cap L w):Cy w0 gO gq n cap L w' :=
 ⟨keepCell hb h.co,h.cl.below hb,fun j=>((bX hb).2 _ _ h.cl.lt).trans (h.cf j),ah hb h.bel,h.lo,h.ln⟩
theorem Cy.set2 {gO gq n cap k:Nat} {L:List Ct} {w:World} {x:Ct} (h:Cy w0 gO gq n cap L w) (hk:k<L.length) (hx:L[k]=x) (p s:Int) :
  Cy w0 gO gq n cap (L.set k { x with push:=p,sli:=s }) ((w.setCell ⟨gq,k*10+8,none⟩ (.int .i64 p)).setCell ⟨gq,k*10+9,none⟩ (.int .i64 s)):=by
 obtain ⟨l1,l2⟩:=h.lo;have h1:=aH.set_push h.cl hk hx p;have h2:=aH.set_sli (x:={ x with push:=p }) h1 (by simpa using hk) (by simp) s;rw [List.set_set] at h2;refine ⟨aW (by omega) (aW (by omega) h.co),h2,fun j=>by rw [World.frozen?_setCell,World.frozen?_setCell];exact h.cf j,?_,h.lo,by simpa using h.ln⟩;exact (h.bel.setCell (p:=⟨gq,_,none⟩) l1 _).setCell (p:=⟨gq,_,none⟩) l1 _

def Am (l:List Ct) (w:World) (e:Ending) (w':World):Prop:=∃ A n c,e = .returned (.slice A n c)∧dD dH w' A n c l∧Below w.heap.size w w'
theorem Cy.sl {gO gq n cap:Nat} {L:List Ct} {w:World} (h:Cy w0 gO gq n cap L w) (h1:n≤cap) (h2:cap≤maxLen):dD dH w (some ⟨gq,0,none⟩) n cap L:=⟨h.ln.symm,h1,h2,fun _=>⟨gq,0,rfl,h.cl⟩⟩
end
section
set_option linter.unusedVariables false
set_option linter.unusedSimpArgs false
open Go.RowKit Go.Sort
variable {w0 w w':World}
section
variable {w0 w w':World}
variable {α:Type} {L:Lay α} {e:TypeId}
theorem wP [Inhabited α] (d:Array α):(flatK L.enc L.k d).toList=dF L d.toList:=by
 apply List.ext_getElem?
 intro t
 rcases Nat.lt_or_ge t (d.size*L.k) with ht | ht
 ·obtain ⟨j, i, hj, hi, e, h⟩ := oG (L := L) d.toList t (by simpa using ht);rw [h];have hp:=L.pos;have hjd:j<d.size:=by simpa using hj
  have e1:t / L.k=j:=by rw [e,Nat.mul_comm,Nat.mul_add_div hp,Nat.div_eq_of_lt hi,Nat.add_zero]
  have e2:t % L.k=i:=by rw [e,Nat.mul_comm,Nat.mul_add_mod,Nat.mod_eq_of_lt hi]
  have g:=get_flatK L.enc L.k d t ht;rw [e1,e2,getElem!_pos _ _ (by simpa using ht),getElem!_pos d j hjd,getElem!_pos _ i (by rw [L.hk];exact hi)] at g;rw [Array.getElem?_toList,Array.getElem?_eq_getElem (by simpa using ht),g,List.getElem?_eq_getElem (by rw [L.hk];exact hi)];simp
 ·rw [List.getElem?_eq_none (by simpa using ht),List.getElem?_eq_none (by rw [jd];simpa using ht)]

theorem aN.holds [Inhabited α] {w:World} {B g n cap:Nat} {l:List α} (h:aN L e w B (.slice (some ⟨g,0,none⟩) n cap) l):HoldsK L.enc L.k w g 0 l.toArray:=by
 rcases h.form with ⟨h1,-⟩ | ⟨g',cap',hv,-,-,-,-,hf,hc⟩
 ·cases h1
 ·cases hv
  intro t ht;rw [size_flatK] at ht;simp only [List.size_toArray] at ht;refine ⟨?_,hf _⟩;obtain ⟨j,i,hj,hi,et,h2⟩:=oG (L:=L) l t ht;have hp:=L.pos;have e1:t / L.k=j:=by rw [et,Nat.mul_comm,Nat.mul_add_div hp,Nat.div_eq_of_lt hi,Nat.add_zero]
  have e2:t % L.k=i:=by rw [et,Nat.mul_comm,Nat.mul_add_mod,Nat.mod_eq_of_lt hi]
  have g1:=get_flatK L.enc L.k l.toArray t (by simpa using ht);rw [e1,e2] at g1;rw [g1];have hg:(L.enc l[j])[i]? = some ((L.enc l[j])[i]'(by rw [L.hk];exact hi)):=List.getElem?_eq_getElem _;have:=hc.at_ j hj i _ hg;rw [show (0:Nat)+j*L.k+i=0+t by omega] at this;rw [this];have hj2:l.toArray[j]! = l[j]:=by rw [getElem!_pos _ _ (by simpa using hj)];simp
  rw [hj2,getElem!_pos _ i (by rw [L.hk];exact hi)];rfl
theorem vH [Inhabited α] {w:World} {g n:Nat} {os:Array Obj} {cur:Array Value} {fr:Nat × Nat} (d:Array α) (hb:w.heap[g]? = some (.cells cur e fr)) :
  (sortWorldK L.enc L.k w g 0 n d os).heap[g]? = some (.cells (putCells id 0 (flatK L.enc L.k d) cur) e fr):=by
 have hg:g<w.heap.size:=(Array.getElem?_eq_some_iff.1 hb).1;unfold sortWorldK putRowK;rw [heap_grow_old _ _ (by simpa [putRow,mapBlock,Sort.ahead] using hg)];simp [putRow,mapBlock,Sort.ahead,Array.getElem?_modify,hb,onCells]
theorem eB [Inhabited α] {w:World} {g n:Nat} {os:Array Obj} (d:Array α):w.grownBy (sortWorldK L.enc L.k w g 0 n d os) (some g):=by
 unfold sortWorldK putRowK;refine ⟨rfl,rfl,rfl,by simp [putRow,mapBlock,Sort.ahead],fun k hk hne=>?_⟩;rw [heap_grow_old _ _ (by simpa [putRow,mapBlock,Sort.ahead] using hk)];have:g≠k:=fun e=>hne (by rw [e])
 simp [putRow,mapBlock,Sort.ahead,Array.getElem?_modify,this]
theorem qM (cur:Array Value) (F:Array Value) (h:F.size≤cur.size):(putCells id 0 F cur).toList.take F.size=F.toList:=by
 apply List.ext_getElem?
 intro j
 by_cases hj:j<F.size
 ·rw [List.getElem?_take_of_lt hj, Array.getElem?_toList];simp [putCells,hj,show j<cur.size by omega]
 ·rw [List.getElem?_take_eq_none (by omega),List.getElem?_eq_none (by simp;omega)]

theorem aN.sorted [Inhabited α] {w:World} {B g n cap m:Nat} {os:Array Obj} {l:List α} (h:aN L e w B (.slice (some ⟨g,0,none⟩) n cap) l) (d:Array α) (hs:d.size=l.length) :
  aN L e (sortWorldK L.enc L.k w g 0 m d os) B (.slice (some ⟨g,0,none⟩) n cap) d.toList:=by
 obtain ⟨h1,⟨h2,-⟩ | ⟨g',cap',cur,hv,hb,hg,hn,hm,hsz,ht⟩⟩:=h
 ·cases h2
 ·cases hv
  refine ⟨by rw [jd],.inr ⟨g,cap,_,by simp [hs],hb,vH d hg,by rw [Array.length_toList,hs];exact hn,hm,by simp [putCells,hsz],?_⟩⟩;have e1:d.toList.length*L.k=(flatK L.enc L.k d).size:=by simp
  rw [e1,qM _ _ (by rw [size_flatK,hs,hsz];exact Nat.mul_le_mul_right _ hn),wP]
end

theorem eP {α:Type} [Inhabited α] (enc:α→Value) (w:World) (g off m:Nat) (d:Array α) (os:Array Obj):sortWorld enc w g off m d os=sortWorldK (fun x=>[enc x]) 1 w g off m d os:=by
 have e:flatK (fun x=>[enc x]) 1 d=d.map enc:=by
  apply Array.ext
  ·simp
  ·intro i h1 h2;have g1:=get_flatK (fun x=>[enc x]) 1 d i (by simpa using h1);rw [getElem!_pos (flatK (fun x=>[enc x]) 1 d) i h1] at g1;rw [g1];have hi:i<d.size:=by simpa using h2
   simp [Nat.mod_one,hi]
 unfold sortWorld sortWorldK putRowK putRow;rw [e]
 congr 2
 funext cur
 unfold putCells;apply Array.ext
 ·simp
 ·intro i h1 h2;rw [Array.getElem_mapIdx,Array.getElem_mapIdx];have es:(d.map enc).size=d.size:=by simp
  by_cases hh:off≤i∧i<off+d.size
  ·rw [if_pos hh, if_pos (by rw [es]; exact hh), getElem!_pos (d.map enc) (i - off) (by simp; omega), getElem!_pos d (i - off) (by omega)];simp
  ·rw [if_neg hh,if_neg (by rw [es];exact hh)]
theorem holds_one {α:Type} [Inhabited α] {enc:α→Value} {w:World} {g off:Nat} {d:Array α} (h:HoldsK (fun x=>[enc x]) 1 w g off d):Holds enc w g off d:=by
 intro j hj;have:=h j (by rw [size_flatK];omega);have g1:=get_flatK (fun x=>[enc x]) 1 d j (by omega);rw [g1] at this;simpa [Nat.mod_one] using this
end
end Go.Proofs.YtokgmcomgflloaaGreat
