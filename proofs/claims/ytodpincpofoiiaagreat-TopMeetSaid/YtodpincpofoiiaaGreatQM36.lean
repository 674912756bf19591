/- Parts of a proof: contracts and laws. -/
import Derived.Test.YtodpincpofoiiaaGreatQM33
import Derived.Test.YtodpincpofoiiaaGreatQM34
import Derived.Test.YtodpincpofoiiaaGreatQMLB
import Derived.Test.YtodpincpofoiiaaGreatQM14
import Derived.Test.YtodpincpofoiiaaGreatQM08
import Derived.Test.YtodpincpofoiiaaGreatQM07
import Derived.Test.YtodpincpofoiiaaGreatQM01
import Derived.Test.YtodpincpofoiiaaGreatQM09
import Derived.Test.YtodpincpofoiiaaGreatQM02
import Derived.Test.YtodpincpofoiiaaGreatQM03
set_option maxRecDepth 100000
set_option maxHeartbeats 16000000
namespace Go.Proofs.YtodpincpofoiiaaGreat
section
set_option linter.unusedVariables false
set_option linter.unusedSimpArgs false
open Go.RowKit
theorem bodiesE_oneP {x:BE} (h:bodyE x.b x.l=0):bodiesE [x]=0:=bodiesE_okJ (by simp) (fun y hy=>by rw [List.mem_singleton.1 hy];exact h)
theorem scene_one {x:BE} {gx gy st:Int} (h:bodyE x.b x.l=0) (hg:¬ gravBad gx gy st):sceneE [x] [] [] gx gy st=0:=by
 have hb:=bodiesE_oneP h
 have hc:contactsE [x] []=0:=by unfold contactsE;rw [if_neg (by simp [hb]),if_neg (by simp)];rfl
 have hj:jointsE [x] []=0:=by unfold jointsE;rw [if_neg (by simp [hb]),if_neg (by simp)];rfl
 unfold sceneE
 rw [if_neg (by simp [hc]),if_neg (by simp [hj]),if_neg (by decide),if_neg hg]
theorem pairs_one (b:Bx):pairsL [b]=[]:=List.eq_nil_iff_forall_not_mem.2 fun p hp=>by
 have:=mem_pairs.1 hp
 simp at this
 omega
theorem one_val {L:List BE} {y:Bd} {l:List V} (h:L.map valB=[(y,l)]):∃ z:BE,L=[z]∧z.b=y∧z.l=l:=by
 match L,h with
 | [z],h =>
  simp only [List.map_cons,List.map_nil,List.cons.injEq,and_true] at h
  exact ⟨z,rfl,congrArg Prod.fst h,congrArg Prod.snd h⟩
 | [],h=>cases h
 | a :: b :: r,h=>cases h
theorem wake_one {x:BE} {f:Nat→Nat} (h:x.b.asleep=false):wakeL [x] f=[x]:=by
 unfold wakeL wkB
 simp [h]
theorem pstep1_calls {w : World} {A Aj Ac : Option Addr} {c nj cj nc cc : Nat} (x : BE) (gx gy st : Int) (y : Bd) (hS : SlB w A 1 c [x]) (hJ : SlE layJ w Aj nj cj []) (hC : SlE layC w Ac nc cc [])
  (hE:bodyE x.b x.l=0) (hg:¬ gravBad gx gy st) (ha:x.b.asleep=false) (hy:(fallB gx gy st x).b=y) (hyE:bodyE y x.l=0) (hyc:0≤y.calm∧y.calm≤1000) (hym:0≤y.mass) :
  Calls Tryz.prog 16 #[.agg #[.slice A 1 c,.slice Aj nj cj,.slice Ac nc cc,.int .i64 gx,.int .i64 gy,.int .i64 st]] w (RetStep [(moveB y x.l (mulF st 65536),x.l)] id [] [] gx gy st w):=by
 have hst:1≤st∧st≤65536:=by unfold gravBad at hg;omega
 have hx3:x.l≠[]:=fun e=>by rw [e] at hE;exact absurd (bodyE_zero hE).1 (by decide)
 have hx8:x.l.length≤8:=(checkE_zero (shapeE_zero (bodyE_zero hE).1)).1
 have hfv:((wakeL [x] id).map (fallB gx gy st)).map valB=[(y,x.l)]:=by
  rw [wake_one ha]
  show [valB (fallB gx gy st x)]=_
  unfold valB
  rw [hy,(fallB_same gx gy st x).2]
 have hm := pstep_calls hS hJ hC gx gy st (scene_one hE hg) (by omega) [] [] id rfl [(y, x.l)] [(y, x.l)] [65536] (fun z hz => by cases hz)
  (fun w' h1 h2 h3=>pcheck0_calls h1 h2 h3 gx gy st rfl rfl)
  (fun w' A' c' Ak nk ck h1 h2 h3=>pislands0_calls h1 h2 h3 (fun z hz=>by cases hz) (fun z hz=>by cases hz) (by omega) rfl rfl)
  (fun w' h1 h2=>kfindn_calls A Ac 1 c nc cc [x] [] w' h1 h2 (bodiesE_oneP hE) (by unfold nearL;rw [show ([x]:List BE).map bxB=[bxB x] from rfl,pairs_one];rfl))
  (fun w' A' n' c' L1 hs hm hj=>by
   rw [hfv] at hm
   have h:=jrun0_calls A' Aj n' c' nj cj L1 [] st 8 w' hs hj rfl
   obtain ⟨z,rfl,hz1,hz2⟩:=one_val hm
   have he:runE [z] [] st 8=0:=by
    have hj:jointsE [z] []=0:=by unfold jointsE;rw [bodiesE_oneP (by rw [hz1,hz2];exact hyE)];rfl
    unfold runE
    rw [if_neg (by simp [hj]),if_neg (by omega)]
   have hq:runQ [z] [] st 8=[(y,x.l)]:=by unfold runQ;rw [if_pos he,hm];rfl
   rwa [he,hq] at h)
  (fun w' A' n' c' L2 B m d hs hm hk=>by
   have h:=srun0_calls A' B n' c' m d L2 [] st 8 w' hs hk rfl
   obtain ⟨z,rfl,hz1,hz2⟩:=one_val hm
   have he:srunE [z] [] st 8=0:=by
    have hc:contactsE [z] []=0:=by unfold contactsE;rw [bodiesE_oneP (by rw [hz1,hz2];exact hyE)];rfl
    unfold srunE
    rw [if_neg (by simp [hc]),if_neg (by omega)]
   have hq:srunS [z] [] st 8=([(y,x.l)],[]):=by unfold srunS;rw [if_pos he,hm];exact solveQ_nil _ _ _
   rwa [he,hq] at h)
  (fun w' A' n' c' L3 hs hm=>by
   obtain ⟨z,rfl,hz1,hz2⟩:=one_val hm
   have hn:n'=1:=hs.sl.len
   subst hn
   have h := partsn_calls A' 1 c' [z] st w' hs (by omega) (fun q hq bx off e => by rw [List.mem_singleton.1 hq] at e; exact sl_lt (hs.co z (List.mem_singleton.2 rfl)) (by rw [hz2]; exact hx3) bx off e) (fun q hq => by rw [List.mem_singleton.1 hq, hz2]; omega)
    (fun p hp=>by rw [show (([z]:List BE).map valB).map (swB st)=[swB st (valB z)] from rfl,pairs_one] at hp;cases hp)
   refine h.mono ?_
   rintro e w2 ⟨gs,rfl,h1,-,h2,-,h3⟩
   refine ⟨gs,rfl,h1,fun j hj=>?_,h3⟩
   have hj0:j=0:=by simpa using hj
   subst hj0
   exact h2 0 (by omega))
  rfl rfl (fun q hq=>by rw [List.mem_singleton.1 hq];exact ⟨hx3,by show x.l.length≤1000;omega,hym,hyc⟩)
 exact hm
end
end Go.Proofs.YtodpincpofoiiaaGreat
namespace Go.Proofs.YtodpincpofoiiaaGreat
section
set_option linter.unusedVariables false
set_option linter.unusedSimpArgs false
open Go.RowKit
def RetBlk (b:Bd) (l:List V) (w:World) (e:Ending) (w':World):Prop:=∃ A n c,e = .returned (bodyV b A n c)∧Sl w' A n c l∧(∀ bx off,A=some ⟨bx,off,none⟩→w.heap.size≤bx)∧Below w.heap.size w w'
end
end Go.Proofs.YtodpincpofoiiaaGreat
namespace Go.Proofs.YtodpincpofoiiaaGreat
section
set_option linter.unusedVariables false
set_option linter.unusedSimpArgs false
open Go.RowKit
theorem st_g:¬ gravBad 0 (-655360) 1024:=by decide

end
end Go.Proofs.YtodpincpofoiiaaGreat
namespace Go.Proofs.YtodpincpofoiiaaGreat
section
set_option linter.unusedVariables false
set_option linter.unusedSimpArgs false
open Go.RowKit
def sumTo (f : Nat → Int) : Nat → Int
 | 0=>0
 | k+1=>sumTo f k+f k
theorem sumTo_bd {f:Nat→Int} {B:Int} (k:Nat) (h:∀ j,j<k → -B≤f j∧f j≤B) : -(B*k)≤sumTo f k∧sumTo f k≤B*k:=by
 induction k with
 | zero=>simp [sumTo]
 | succ k ih =>
  have h1:=ih (fun j hj=>h j (by omega))
  have h2:=h k (by omega)
  have e:B*((k+1:Nat):Int)=B*k+B:=by rw [Int.natCast_add];grind
  simp only [sumTo]
  rw [e]
  omega


def nx (l:List V) (i:Nat):Nat:=(i+1) % l.length
def crsM9 (a b c d:Int):Int:=a*d-b*c
def crsL (l:List V) (i:Nat):Int:=crsM9 (px l i) (py l i) (px l (nx l i)) (py l (nx l i))
def cxL9 (l:List V) (i:Nat):Int:=(px l i+px l (nx l i))*crsL l i
def cyL (l:List V) (i:Nat):Int:=(py l i+py l (nx l i))*crsL l i
def cenX (l:List V):Int:=sumTo (cxL9 l) l.length
def cenY (l:List V):Int:=sumTo (cyL l) l.length


def cenQ (l:List V):V:=(overQ (cenX l) (3*areaZ l),overQ (cenY l) (3*areaZ l))

def sqrL (l:List V) (i:Nat):Int:=px l i*px l i+px l i*px l (nx l i)+px l (nx l i)*px l (nx l i)+py l i*py l i+py l i*py l (nx l i)+py l (nx l i)*py l (nx l i)
def secL (l:List V) (i:Nat):Int:=crsL l i*sqrL l i

def secQ (l:List V) (c:V):Int:=overQ (sumTo (secL (movL l (-c.1) (-c.2))) l.length) 51539607552
def massQ (l:List V) (d:Int):Int:=overQ (areaZ l*d) 8589934592
def inerQ (l:List V) (d:Int):Int:=overQ (secQ l (cenQ l)*d) 4294967296
end
end Go.Proofs.YtodpincpofoiiaaGreat
namespace Go.Proofs.YtodpincpofoiiaaGreat
section
set_option linter.unusedVariables false
set_option linter.unusedSimpArgs false
open Go.RowKit

structure Wd (w : World) (g : Nat) (z : Int) : Prop where
 c0:w.cell? ⟨g,0,none⟩=some (.int .i64 (hiW z))
 c1:w.cell? ⟨g,1,none⟩=some (.int .u64 (loW z))
 f0:w.frozen? ⟨g,0,none⟩=false
 f1:w.frozen? ⟨g,1,none⟩=false
theorem Wd.lt {w:World} {g:Nat} {z:Int} (h:Wd w g z):g<w.heap.size:=lt_of_cell h.c0
theorem keepWd {w w':World} {g:Nat} {z:Int} (hb:Below w.heap.size w w') (h:Wd w g z):Wd w' g z :=
 ⟨keepCell hb h.c0,keepCell hb h.c1,((bcell hb).2 _ _ h.lt).trans h.f0,((bcell hb).2 _ _ h.lt).trans h.f1⟩
theorem Wd.drew {w:World} {g:Nat} {z:Int} (h:Wd w g z):Wd w.drew g z:=⟨h.c0,h.c1,h.f0,h.f1⟩
theorem Wd.alloc {w:World} {g:Nat} {z:Int} (h:Wd w g z) (o:Obj):Wd (w.alloc o) g z:=keepWd Ba h
theorem Wd.far2 {w:World} {g b:Nat} {z:Int} {v0 v1:Value} (h:Wd w g z) (hb:b≠g):Wd ((w.setCell ⟨b,0,none⟩ v0).setCell ⟨b,1,none⟩ v1) g z :=
 ⟨Go.Proofs.YtodpincpofoiiaaGreat.far2 hb h.c0,Go.Proofs.YtodpincpofoiiaaGreat.far2 hb h.c1,by rw [World.frozen?_setCell,World.frozen?_setCell];exact h.f0,by rw [World.frozen?_setCell,World.frozen?_setCell];exact h.f1⟩
theorem Wd.sets2 {w:World} {g:Nat} {y z:Int} (h:Wd w g y):Wd ((w.setCell ⟨g,0,none⟩ (.int .i64 (hiW z))).setCell ⟨g,1,none⟩ (.int .u64 (loW z))) g z:=by
 have a:=h.c0
 have b:=h.c1
 have c:=h.f0
 have d:=h.f1
 have e:=h.lt
 exact ⟨by go_simp,by go_simp,by go_simp,by go_simp⟩
theorem hiW_0:hiW 0=0:=by unfold hiW wrap64;omega
theorem loW_0:loW 0=0:=by unfold loW;omega
theorem Wd.zero {w:World} {g:Nat} (h0:w.cell? ⟨g,0,none⟩=some (.int .i64 0)) (h1:w.cell? ⟨g,1,none⟩=some (.int .u64 0)) (f0:w.frozen? ⟨g,0,none⟩=false) (f1:w.frozen? ⟨g,1,none⟩=false):Wd w g 0 :=
 ⟨by rw [hiW_0];exact h0,by rw [loW_0];exact h1,f0,f1⟩
theorem mcross_any (a b c d:Int) (w:World) :
  Calls Tryz.prog 126 #[vecV a b,vecV c d] w (Ret (.int .i64 (wrap64 (wrap64 (a*d)-wrap64 (b*c)))) w):=by
 go_enter Tryz.func126,Tryz.ntmps126
 go_wp2
 go_returns
 exact ⟨rfl,by go_grown⟩
theorem crsZ_bd {a b c d:Int} (h1:withinB 65536000 a b=true) (h2:withinB 65536000 c d=true):wrap64 (wrap64 (a*d)-wrap64 (b*c))=crsM9 a b c d ∧ -8589934592000000≤crsM9 a b c d∧crsM9 a b c d≤8589934592000000:=by
 obtain ⟨_,_,_,_⟩:=withinB_iff.1 h1
 obtain ⟨_,_,_,_⟩:=withinB_iff.1 h2
 have m1:=mul_bd (x:=a) (y:=d) (M:=65536000) (N:=65536000) (by omega) (by omega) (by omega) (by omega)
 have m2:=mul_bd (x:=b) (y:=c) (M:=65536000) (N:=65536000) (by omega) (by omega) (by omega) (by omega)
 unfold crsM9
 generalize a*d=X at *
 generalize b*c=Y at *
 rw [wrap64_id (n:=X) (by omega) (by omega),wrap64_id (n:=Y) (by omega) (by omega),wrap64_id (by omega) (by omega)]
 omega
theorem mcross_calls (a b c d:Int) (h1:withinB 65536000 a b=true) (h2:withinB 65536000 c d=true) (w:World) :
  Calls Tryz.prog 126 #[vecV a b,vecV c d] w (Ret (.int .i64 (crsM9 a b c d)) w):=by
 have h:=mcross_any a b c d w
 rwa [(crsZ_bd h1 h2).1] at h
theorem mtimes_calls (a b n:Int) (ha:i64 a) (hb:i64 b) (hn:i64 n) (w:World) :
  Calls Tryz.prog 127 #[.int .i64 a,.int .i64 b,.int .i64 n] w (Ret (.int .i64 (overQ (a*b) n)) w):=by
 have hm:=mul_bd (x:=a) (y:=b) (M:=9223372036854775808) (N:=9223372036854775808) (by unfold i64 at ha;omega) (by unfold i64 at ha;omega) (by unfold i64 at hb;omega) (by unfold i64 at hb;omega)
 have HM:=hid hm
 have HA:=hid ha
 have HB:=hid hb
 have HN:=hid hn
 clear hm ha hb hn
 go_enter Tryz.func127,Tryz.ntmps127
 go_wp2_with fail
 refine (times_calls a b HA.out.1 HA.out.2 HB.out.1 HB.out.2 _).mono ?_
 rintro e w1 ⟨rfl,hb1⟩
 go_wp2_with fail
 refine (over_calls (a*b) n (by have:=HM.out;omega) (by have:=HM.out;omega) HN.out.1 HN.out.2 _).mono ?_
 rintro e w2 ⟨rfl,hb2⟩
 go_wp2
 go_returns
 exact ret_int rfl (keepBelow hb2 hb1)
end
end Go.Proofs.YtodpincpofoiiaaGreat
