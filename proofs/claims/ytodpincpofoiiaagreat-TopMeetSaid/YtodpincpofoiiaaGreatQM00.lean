/- Parts of a proof: contracts and laws. -/
import Derived.Test.YtodpincpofoiiaaGreatRows
import Derived.WalkKit
import Derived.Handy
import Derived.RegionTactic
import Derived.ChangeAlike
import Derived.Deep.QuietTactic
import Derived.BigQuiet
import Derived.Deep.RegionWith
import Derived.Deep.DeepCutAuto
import Derived.Deep.RegionHeld3
set_option maxRecDepth 100000
set_option maxHeartbeats 16000000
namespace Go.Proofs.YtodpincpofoiiaaGreat
section
set_option linter.unusedVariables false
set_option linter.unusedSimpArgs false
open Go.RowKit

def Ret (v:Value) (w:World) (e:Ending) (w':World):Prop:=e = .returned v∧Below w.heap.size w w'
theorem ret_int {k:IntKind} {a b:Int} {w w':World} (h:a=b) (hb:Below w.heap.size w w'):Ret (.int k b) w (.returned (.int k a)) w':=⟨by rw [h],hb⟩
theorem ret_bool {a b:Bool} {w w':World} (h:a=b) (hb:Below w.heap.size w w'):Ret (.bool b) w (.returned (.bool a)) w':=⟨by rw [h],hb⟩
theorem ret_val {a b:Value} {w w':World} (h:a=b) (hb:Below w.heap.size w w'):Ret b w (.returned a) w':=⟨by rw [h],hb⟩

abbrev vecV (x y:Int):Value:=.agg #[.int .i64 x,.int .i64 y]

abbrev V:=Int × Int
theorem hid {p:Prop} (h:p):Hid p:=h
def px (l:List V) (j:Nat):Int:=(l.getD j (0,0)).1
def py (l:List V) (j:Nat):Int:=(l.getD j (0,0)).2

structure Cells (w : World) (b off : Nat) (l : List V) : Prop where
 lt:b<w.heap.size
 x:∀ j,j<l.length→w.cell? ⟨b,off+j*2,none⟩=some (.int .i64 (px l j))
 y:∀ j,j<l.length→w.cell? ⟨b,off+j*2+1,none⟩=some (.int .i64 (py l j))

structure Sl (w : World) (A : Option Addr) (n c : Nat) (l : List V) : Prop where
 len:n=l.length
 cap:n≤c
 big:c≤9223372036854775807
 at_:l≠[]→∃ b off,A=some ⟨b,off,none⟩∧Cells w b off l
theorem bcell {W w1:World} {B:Nat} (hb:Below B W w1):(∀ b o,b<B→w1.cell? ⟨b,o,none⟩=W.cell? ⟨b,o,none⟩)∧(∀ b o,b<B→w1.frozen? ⟨b,o,none⟩=W.frozen? ⟨b,o,none⟩) :=
 ⟨fun b o h=>hb.cell (p:=⟨b,o,none⟩) h,fun b o h=>hb.frozen (p:=⟨b,o,none⟩) h⟩
theorem Cells.below {w w':World} {b off:Nat} {l:List V} (h:Cells w b off l) (hb:Below w.heap.size w w'):Cells w' b off l :=
 ⟨Nat.lt_of_lt_of_le h.lt hb.size,fun j hj=>((bcell hb).1 _ _ h.lt).trans (h.x j hj),fun j hj=>((bcell hb).1 _ _ h.lt).trans (h.y j hj)⟩
theorem Sl.below {w w':World} {A:Option Addr} {n c:Nat} {l:List V} (h:Sl w A n c l) (hb:Below w.heap.size w w'):Sl w' A n c l :=
 ⟨h.len,h.cap,h.big,fun hl=>by obtain ⟨b,off,rfl,hc⟩:=h.at_ hl;exact ⟨b,off,rfl,hc.below hb⟩⟩
theorem px_lt {l:List V} {j:Nat} (h:j<l.length):l[j]=(px l j,py l j):=by simp [px,py,h]

def firstIdx (f:V→Bool) (l:List V):Int:=if l.any f then (l.findIdx f:Int) else -1
def noneTo (f:V→Bool) (l:List V) (k:Nat):Prop:=∀ j,j<k→f (px l j,py l j)=false
theorem noneTo_zero (f:V→Bool) (l:List V):noneTo f l 0:=fun _ h=>absurd h (by omega)
theorem noneTo_succ {f:V→Bool} {l:List V} {k:Nat} (h:noneTo f l k) (hk:f (px l k,py l k)=false):noneTo f l (k+1):=fun j hj=>by
 by_cases e:j=k
 ·subst e;exact hk
 ·exact h j (by omega)
theorem firstIdx_hit {f:V→Bool} {l:List V} {k:Nat} (hl:k<l.length) (h:noneTo f l k) (hk:f (px l k,py l k)=true):firstIdx f l=k:=by
 have e:l.any f=true:=List.any_eq_true.2 ⟨l[k],List.getElem_mem hl,by rw [px_lt hl];exact hk⟩
 unfold firstIdx
 rw [if_pos e]
 have:l.findIdx f=k:=by
  rw [List.findIdx_eq hl]
  refine ⟨by rw [px_lt hl];exact hk,fun j hj=>?_⟩
  have:=h j hj
  rw [px_lt (by omega)]
  exact this
 omega
theorem firstIdx_none {f:V→Bool} {l:List V} (h:noneTo f l l.length):firstIdx f l = -1:=by
 unfold firstIdx
 rw [if_neg]
 intro e
 obtain ⟨x,hx,hf⟩:=List.any_eq_true.1 e
 obtain ⟨j,hj,rfl⟩:=List.mem_iff_getElem.1 hx
 have:=h j hj
 rw [px_lt hj,this] at hf
 cases hf
theorem firstIdx_any (f:V→Bool) (l:List V):decide (firstIdx f l ≥ 0)=l.any f:=by
 unfold firstIdx
 cases l.any f <;> simp
theorem mul_bd {x y M N:Int} (h1 : -M≤x) (h2:x≤M) (h3 : -N≤y) (h4:y≤N) : -(M*N)≤x*y∧x*y≤M*N:=by
 have a:=Int.mul_nonneg (show 0≤M-x by omega) (show 0≤N+y by omega)
 have b:=Int.mul_nonneg (show 0≤M+x by omega) (show 0≤N-y by omega)
 have c:=Int.mul_nonneg (show 0≤M-x by omega) (show 0≤N-y by omega)
 have d:=Int.mul_nonneg (show 0≤M+x by omega) (show 0≤N+y by omega)
 grind
def withinB (m a b:Int):Bool:=decide (-m≤a∧a≤m ∧ -m≤b∧b≤m)
def sideZ (a b c d p q:Int):Int:=(c-a)*(q-b)-(d-b)*(p-a)
theorem withinB_iff {m a b:Int}:withinB m a b=true↔(-m≤a∧a≤m ∧ -m≤b∧b≤m):=by simp [withinB]
theorem wrap64_id {n:Int} (h1 : -9223372036854775808≤n) (h2:n≤9223372036854775807):wrap64 n=n:=IntWalk.wrap64_in n ⟨h1,by omega⟩
theorem sideZ_wrap {a b c d p q:Int} (h1:withinB 65536000 a b=true) (h2:withinB 65536000 c d=true) (h3:withinB 65536000 p q=true) :
  wrap64 (wrap64 (wrap64 (c-a)*wrap64 (q-b))-wrap64 (wrap64 (d-b)*wrap64 (p-a)))=sideZ a b c d p q
  ∧ -34359738368000000≤sideZ a b c d p q∧sideZ a b c d p q≤34359738368000000:=by
 obtain ⟨_,_,_,_⟩:=withinB_iff.1 h1
 obtain ⟨_,_,_,_⟩:=withinB_iff.1 h2
 obtain ⟨_,_,_,_⟩:=withinB_iff.1 h3
 have m1:=mul_bd (x:=c-a) (y:=q-b) (M:=131072000) (N:=131072000) (by omega) (by omega) (by omega) (by omega)
 have m2:=mul_bd (x:=d-b) (y:=p-a) (M:=131072000) (N:=131072000) (by omega) (by omega) (by omega) (by omega)
 rw [wrap64_id (n:=c-a) (by omega) (by omega),wrap64_id (n:=q-b) (by omega) (by omega),wrap64_id (n:=d-b) (by omega) (by omega),wrap64_id (n:=p-a) (by omega) (by omega)]
 unfold sideZ
 generalize (c-a)*(q-b)=X at *
 generalize (d-b)*(p-a)=Y at *
 rw [wrap64_id (n:=X) (by omega) (by omega),wrap64_id (n:=Y) (by omega) (by omega),wrap64_id (by omega) (by omega)]
 omega

def sideL (l:List V) (i k m:Nat):Int:=sideZ (px l i) (py l i) (px l k) (py l k) (px l m) (py l m)
def allWithin (m:Int) (l:List V):Bool:=l.all fun p=>withinB m p.1 p.2
theorem any_not_within (m:Int) (l:List V):(l.any fun p => !withinB m p.1 p.2) = !allWithin m l:=by
 unfold allWithin
 induction l with
 | nil=>rfl
 | cons a l ih=>simp [ih]
theorem allWithin_at {m:Int} {l:List V} (h:allWithin m l=true) {j:Nat} (hj:j<l.length):withinB m (px l j) (py l j)=true:=by
 have:=List.all_eq_true.1 h l[j] (List.getElem_mem hj)
 simpa [px,py,hj] using this
def edgeBad (l:List V) (i k:Nat):Bool:=decide (k≠i∧k≠(i+1) % l.length∧sideL l i ((i+1) % l.length) k≤0)
def rowsOk (l:List V) (i:Nat):Prop:=∀ i',i'<i→∀ k,k<l.length→edgeBad l i' k=false
def colsOk (l:List V) (i k:Nat):Prop:=∀ k',k'<k→edgeBad l i k'=false

def checkE (l:List V):Int :=
 if 8<l.length then 2 else if l.length<3 then 3 else if allWithin 65536000 l=false then 1
 else if (List.range l.length).any (fun i=>(List.range l.length).any fun k=>edgeBad l i k) then 3 else 0
theorem checkE_bad {l:List V} {i k:Nat} (h8:l.length≤8) (h3:3≤l.length) (hw:allWithin 65536000 l=true) (hi:i<l.length) (hk:k<l.length) (hb:edgeBad l i k=true):checkE l=3:=by
 unfold checkE
 rw [if_neg (by omega),if_neg (by omega),if_neg (by simp [hw]),if_pos]
 simp only [List.any_eq_true,List.mem_range]
 exact ⟨i,hi,k,hk,hb⟩
theorem checkE_ok {l:List V} (h8:l.length≤8) (h3:3≤l.length) (hw:allWithin 65536000 l=true) (h:rowsOk l l.length):checkE l=0:=by
 unfold checkE
 rw [if_neg (by omega),if_neg (by omega),if_neg (by simp [hw]),if_neg]
 simp only [List.any_eq_true,List.mem_range,not_exists,not_and]
 intro i hi k hk
 simp [h i hi k hk]
theorem checkE_zero {l:List V} (h:checkE l=0):l.length≤8∧3≤l.length∧allWithin 65536000 l=true∧rowsOk l l.length:=by
 unfold checkE at h
 split at h
 ·omega
 ·split at h
  ·omega
  ·split at h
   ·omega
   ·split at h
    ·omega
    ·rename_i h1 h2 h3 h4
     refine ⟨by omega,by omega,by simpa using h3,fun i hi k hk=>?_⟩
     cases e:edgeBad l i k with
     | false=>rfl
     | true =>
      exfalso
      apply h4
      simp only [List.any_eq_true,List.mem_range]
      exact ⟨i,hi,k,hk,e⟩
theorem rowsOk_zero (l:List V):rowsOk l 0:=fun _ h=>absurd h (by omega)
theorem colsOk_zero (l:List V) (i:Nat):colsOk l i 0:=fun _ h=>absurd h (by omega)
theorem colsOk_succ {l:List V} {i k:Nat} (h:colsOk l i k) (hb:edgeBad l i k=false):colsOk l i (k+1):=fun k' hk=>by
 by_cases e:k'=k
 ·subst e;exact hb
 ·exact h k' (by omega)
theorem rowsOk_succ {l:List V} {i:Nat} (h:rowsOk l i) (hb:colsOk l i l.length):rowsOk l (i+1):=fun i' hi k hk=>by
 by_cases e:i'=i
 ·subst e;exact hb k hk
 ·exact h i' (by omega) k hk
theorem edgeBad_of {l:List V} {i k:Nat} (h1:k≠i) (h2:k≠(i+1) % l.length) (h3:sideL l i ((i+1) % l.length) k≤0):edgeBad l i k=true:=by simp [edgeBad, *]
theorem edgeBad_not {l:List V} {i k:Nat} (h:k=i∨k=(i+1) % l.length∨0<sideL l i ((i+1) % l.length) k):edgeBad l i k=false:=by
 simp only [edgeBad,decide_eq_false_iff_not];omega
theorem side_any (a b c d p q:Int) (w:World) :
  Calls Tryz.prog 163 #[vecV a b,vecV c d,vecV p q] w (Ret (.int .i64 (wrap64 (wrap64 (wrap64 (c-a)*wrap64 (q-b))-wrap64 (wrap64 (d-b)*wrap64 (p-a))))) w):=by
 go_enter Tryz.func163,Tryz.ntmps163
 go_wp2
 go_returns
 exact ⟨rfl,by go_grown⟩
theorem side_calls (a b c d p q:Int) (h1:withinB 65536000 a b=true) (h2:withinB 65536000 c d=true) (h3:withinB 65536000 p q=true) (w:World) :
  Calls Tryz.prog 163 #[vecV a b,vecV c d,vecV p q] w (Ret (.int .i64 (sideZ a b c d p q)) w):=by
 have h:=side_any a b c d p q w
 rwa [(sideZ_wrap h1 h2 h3).1] at h
theorem within_calls (a b:Int) (w:World) :
  Calls Tryz.prog 162 #[vecV a b] w (Ret (.bool (withinB 65536000 a b)) w):=by
 go_enter Tryz.func162,Tryz.ntmps162
 go_wp2
 all_goals
  go_returns
  exact ⟨by simp [withinB, *] <;> omega,by go_grown⟩
theorem check1_calls (a b:Int) (w:World):Calls Tryz.prog 161 #[vecV a b] w (Ret (.bool (!withinB 65536000 a b)) w):=by
 go_enter Tryz.func161,Tryz.ntmps161
 go_wp2_with (go_at_call 162;refine (within_calls _ _ _).mono ?_;rintro e w1 ⟨rfl,hb⟩)
 go_returns
 exact ⟨rfl,by simpa using ((Below.refl _ _).alloc (by simp) _).trans (hb.mono (by simp))⟩
theorem indexFunc_check1 (A:Option Addr) (n c:Nat) (l:List V) (w:World) (hS:Sl w A n c l) :
  Calls Tryz.prog 210 #[.slice A n c,.func (.func 161) #[] #[]] w (Ret (.int .i64 (firstIdx (fun p => !withinB 65536000 p.1 p.2) l)) w):=by
 obtain ⟨hn,hcap,hbig,hat⟩:=hS
 subst hn
 go_enter Tryz.func210,Tryz.ntmps210
 go_wp2
 go_loopw [8] (fun i wr=>∃ k:Nat,k≤l.length∧i = .int .i64 k∧noneTo (fun p => !withinB 65536000 p.1 p.2) l k∧Below w.heap.size w wr) (fun i _=>l.length-(intOf i).toNat)
 case atStart=>exact ⟨0,Nat.zero_le _,rfl,noneTo_zero _ _,Below.refl _ _⟩
 case round =>
  obtain ⟨k,hk,rfl,hno,hB⟩:=hrel
  by_cases hlt:k<l.length
  ·obtain ⟨b, off, rfl, hC⟩ := hat (by intro h; subst h; simp at hlt)
   have hC':=hC.below hB
   have hx:=hC'.x k hlt
   have hy:=hC'.y k hlt
   have HN:=hid hno
   clear hno hat hC hC'
   go_wp2_with (go_at_call 161;refine (check1_calls _ _ _).mono ?_;rintro e w1 ⟨rfl,hb1⟩)
   ·go_returns
    exact ret_int (firstIdx_hit hlt HN.out (by assumption)).symm (hB.trans (hb1.mono hB.size))
   ·exact ⟨⟨k+1,hlt,by go_num,noneTo_succ HN.out (by assumption),hB.trans (hb1.mono hB.size)⟩,by simp [intOf];omega⟩
  ·have hge : l.length ≤ k := by omega
   have HN:=hid hno
   clear hno hat hlt
   go_wp2
   go_returns
   exact ret_int (firstIdx_none (by have:=HN.out;rwa [show k=l.length by omega] at this)).symm hB
theorem containsFunc_check1 (A:Option Addr) (n c:Nat) (l:List V) (w:World) (hS:Sl w A n c l) :
  Calls Tryz.prog 160 #[.slice A n c,.func (.func 161) #[] #[]] w (Ret (.bool (!allWithin 65536000 l)) w):=by
 go_enter Tryz.func160,Tryz.ntmps160
 go_wp2_with (go_at_call 210;refine (indexFunc_check1 _ _ _ l _ hS).mono ?_;rintro e w1 ⟨rfl,hb⟩)
 go_returns
 exact ret_bool (by
  have h:=firstIdx_any (fun p => !withinB 65536000 p.1 p.2) l
  simp only [ge_iff_le] at h
  rw [h,any_not_within]) hb
abbrev blkV (l:List V) (i:Nat):Obj:=.cells #[.int .i64 (px l i),.int .i64 (py l i)] 24
theorem check_calls (A:Option Addr) (n c:Nat) (l:List V) (w:World) (hS:Sl w A n c l) :
  Calls Tryz.prog 84 #[.slice A n c] w (Ret (.int .i64 (checkE l)) w):=by
 have hS0:=hS
 obtain ⟨hn,hcap,hbig,hat⟩:=hS
 subst hn
 by_cases h8:8<l.length
 ·clear hat
  go_enter Tryz.func84,Tryz.ntmps84
  go_wp2
  go_returns
  exact ret_int (by rw [checkE,if_pos h8]) (Below.refl _ _)
 by_cases h3:l.length<3
 ·clear hat
  go_enter Tryz.func84,Tryz.ntmps84
  go_wp2
  go_returns
  exact ret_int (by rw [checkE,if_neg h8,if_pos h3]) (Below.refl _ _)
 cases hw:allWithin 65536000 l with
 | false =>
  have HW:=hid hw
  clear hat hw
  go_enter Tryz.func84,Tryz.ntmps84
  go_wp2_with (go_at_call 160;refine (containsFunc_check1 _ _ _ l _ hS0).mono ?_;rintro e w1 ⟨rfl,hb⟩;rw [HW.out])
  go_returns
  exact ret_int (by rw [checkE,if_neg h8,if_neg h3,if_pos HW.out]) hb
 | true =>
  obtain ⟨b,off,rfl,hC⟩:=hat (by intro h;subst h;simp at h3)
  have HW:=hid hw
  clear hat hw
  go_enter Tryz.func84,Tryz.ntmps84
  go_wp2_with (go_at_call 160;refine (containsFunc_check1 _ _ _ l _ hS0).mono ?_;rintro e w1 ⟨rfl,hb⟩;rw [HW.out])
  have hC1:=hC.below hb
  go_loopw [18] (fun i wr=>∃ k:Nat,k≤l.length∧i = .int .i64 k∧rowsOk l k∧Below w.heap.size w wr∧Below w1.heap.size w1 wr) (fun i _=>l.length-(intOf i).toNat)
  case atStart=>exact ⟨0,Nat.zero_le _,rfl,rowsOk_zero _,hb,Below.refl _ _⟩
  case round =>
   obtain ⟨k,hk,rfl,hno,hB,hB1⟩:=hrel
   obtain ⟨wo,rfl⟩:∃ wo:World,wo=wr:=⟨_,rfl⟩
   have HN:=hid hno
   have hCo:=hC1.below hB1
   have hbo:=hCo.lt
   have hC1H:=hid hC1
   clear hno hC hC1
   by_cases hlt:k<l.length
   ·have hx := hCo.x k hlt
    have hy:=hCo.y k hlt
    have hj:(k+1) % l.length<l.length:=Nat.mod_lt _ (by omega)
    have hji:((k:Int)+1) % (l.length:Int)<(l.length:Int):=Int.emod_lt_of_pos _ (by omega)
    have hj0:0≤((k:Int)+1) % (l.length:Int):=Int.emod_nonneg _ (by omega)
    have hx2:=hCo.x _ hj
    have hy2:=hCo.y _ hj
    have HC:=hid hCo
    clear hCo
    go_wp2
    go_loopw [33] (fun i wr=>∃ m:Nat,m≤l.length∧i = .int .i64 m∧colsOk l k m∧Below (wo.heap.size+2) ((wo.alloc (blkV l k)).alloc (blkV l ((k+1) % l.length))) wr) (fun i _=>l.length-(intOf i).toNat)
    case atStart=>exact ⟨0,Nat.zero_le _,rfl,colsOk_zero _ _,Below.refl _ _⟩
    case round =>
     obtain ⟨m,hm,rfl,hcol,hBi⟩:=hrel
     have HCo:=hid hcol
     clear hcol
     obtain ⟨wi,rfl⟩:∃ wi:World,wi=wr:=⟨_,rfl⟩
     have hsz:wo.heap.size+2≤wi.heap.size:=by simpa using hBi.size
     have hBwi:Below w.heap.size w wi:=hB.trans ((((Below.refl _ _).alloc (Nat.le_refl _) _).alloc (by simp) _).trans (hBi.mono (by omega)) |>.mono hB.size)
     have hB1wi:Below w1.heap.size w1 wi:=hB1.trans ((((Below.refl _ _).alloc (Nat.le_refl _) _).alloc (by simp) _).trans (hBi.mono (by omega)) |>.mono hB1.size)
     have hCi:=hC1H.out.below hB1wi
     by_cases hlt2:m<l.length
     ·have hx3 := hCi.x m hlt2
      have hy3:=hCi.y m hlt2
      have hz1:wo.heap.size<wi.heap.size:=by omega
      have hz2:wo.heap.size+1<wi.heap.size:=by omega
      have gx1:wi.cell? ⟨wo.heap.size,0,none⟩=some (.int .i64 (px l k)):=((bcell hBi).1 _ _ (by omega)).trans (by go_simp)
      have gy1:wi.cell? ⟨wo.heap.size,1,none⟩=some (.int .i64 (py l k)):=((bcell hBi).1 _ _ (by omega)).trans (by go_simp)
      have gx2:wi.cell? ⟨wo.heap.size+1,0,none⟩=some (.int .i64 (px l ((k+1) % l.length))):=((bcell hBi).1 _ _ (by omega)).trans (by go_simp)
      have gy2:wi.cell? ⟨wo.heap.size+1,1,none⟩=some (.int .i64 (py l ((k+1) % l.length))):=((bcell hBi).1 _ _ (by omega)).trans (by go_simp)
      by_cases hi1:m=k
      ·have heb : edgeBad l k m = false := edgeBad_not (.inl hi1)
       have hne:(((m:Int) != (k:Int))=false):=by simp [hi1]
       have HE:=hid heb
       have H1:=hid hi1
       clear heb hi1
       go_wp2
       go_roundw
       case rel=>exact ⟨m+1,hlt2,by go_num,colsOk_succ HCo.out HE.out,hBi.trans (((Below.refl _ _).alloc hsz _))⟩
       case measure=>simp [intOf];omega
      by_cases hi2:m=(k+1) % l.length
      ·have heb : edgeBad l k m = false := edgeBad_not (.inr (.inl hi2))
       have hne:(((m:Int) != (k:Int))=true):=by simp;omega
       have hne2:(((m:Int) != ((k:Int)+1) % (l.length:Int))=false):=by rw [hi2];simp
       have HE:=hid heb
       have H1:=hid hi1
       have H2:=hid hi2
       clear heb hi1 hi2
       go_wp2
       go_roundw
       case rel=>exact ⟨m+1,hlt2,by go_num,colsOk_succ HCo.out HE.out,hBi.trans (((Below.refl _ _).alloc hsz _))⟩
       case measure=>simp [intOf];omega
      have hne:(((m:Int) != (k:Int))=true):=by simp;omega
      have hne2:(((m:Int) != ((k:Int)+1) % (l.length:Int))=true):=by rw [bne_iff_ne,show ((k:Int)+1) % (l.length:Int)=(((k+1) % l.length:Nat):Int) by simp];omega
      have H1:=hid hi1
      have H2:=hid hi2
      clear hi1 hi2
      have hw1:=hid (allWithin_at HW.out hlt)
      have hw2:=hid (allWithin_at HW.out hj)
      have hw3:=hid (allWithin_at HW.out hlt2)
      go_wp2_with (go_at_call 163;refine (side_calls _ _ _ _ _ _ hw1.out hw2.out hw3.out _).mono ?_;rintro e w2 ⟨rfl,hb2⟩)
      ·go_returns
       exact ret_int (checkE_bad (by omega) (by omega) HW.out hlt hlt2 (edgeBad_of H1.out H2.out (by assumption))).symm (hBwi.trans ((((Below.refl _ _).alloc (Nat.le_refl _) _).trans (hb2.mono (by simp))).mono hBwi.size))
      ·go_roundw
       case rel=>exact ⟨m+1,hlt2,by go_num,colsOk_succ HCo.out (edgeBad_not (.inr (.inr (by show (0:Int)<sideZ _ _ _ _ _ _;omega)))),hBi.trans ((((Below.refl _ _).alloc hsz _)).trans (hb2.mono (by simp;omega)))⟩
       case measure=>simp [intOf];omega
     ·have hge : l.length ≤ m := by omega
      go_wp2
      go_roundw
      case rel=>exact ⟨k+1,hlt,by go_num,rowsOk_succ HN.out (by have:=HCo.out;rwa [show m=l.length by omega] at this),hBwi,hB1wi⟩
      case measure=>simp [intOf];omega
   ·clear hCo
    have hge:l.length≤k:=by omega
    go_wp2
    go_returns
    exact ret_int (checkE_ok (by omega) (by omega) HW.out (by have:=HN.out;rwa [show k=l.length by omega] at this)).symm hB
end
end Go.Proofs.YtodpincpofoiiaaGreat
namespace Go.Proofs.YtodpincpofoiiaaGreat
section
set_option linter.unusedVariables false
set_option linter.unusedSimpArgs false
open Go.RowKit

def digs (z:Int) (i:Nat):Int:=z / 65536 ^ i % 65536

theorem pow_pos' (i:Nat):(0:Int)<65536 ^ i:=Int.pow_pos (by omega)
theorem ediv_ediv' {z M B:Int} (hM:0≤M):z / M / B=z / (M*B):=by
 rw [Int.ediv_ediv,if_neg (by omega),Int.sub_zero]
theorem mod_mul (z M B:Int) (hM:0<M):z % (M*B)=z % M+M*(z / M % B):=by
 have h1:=Int.emod_add_mul_ediv z M
 have h2:=Int.emod_add_mul_ediv (z / M) B
 have h3:=Int.emod_add_mul_ediv z (M*B)
 have h4:z / (M*B)=z / M / B:=(ediv_ediv' (Int.le_of_lt hM)).symm
 rw [h4] at h3
 have h5:M*(z / M)=M*(z / M % B)+M*B*(z / M / B):=by
  rw [Int.mul_assoc,← Int.mul_add,h2]
 omega
theorem digs_step (z:Int) (i:Nat):z % 65536 ^ (i+1)=z % 65536 ^ i+65536 ^ i*digs z i:=by
 rw [Int.pow_succ,mod_mul z _ _ (pow_pos' i)]
 rfl


theorem mod_self (a:Int) (i:Nat):a % 65536 ^ (i+1)=a % 65536 ^ i+65536 ^ i*digs a i:=digs_step a i




structure Blk8 (w : World) (g : Nat) (o : Nat → Int) : Prop where
 cell:∀ j,j<8→w.cell? ⟨g,j,none⟩=some (.int .u32 (o j))
 free:∀ j,w.frozen? ⟨g,j,none⟩=false
theorem Blk8.set {w:World} {g k:Nat} {o o':Nat→Int} {v:Int} (h:Blk8 w g o) (hk:k<8) (hv:o' k=v) (ho:∀ j,j≠k→o' j=o j):Blk8 (w.setCell ⟨g,k,none⟩ (.int .u32 v)) g o':=by
 refine ⟨fun j hj=>?_,fun j=>by rw [World.frozen?_setCell];exact h.free j⟩
 by_cases e:j=k
 ·subst e
  rw [World.cell?_setCell_same _ _ _ (h.cell j hj),hv]
 ·rw [World.cell?_setCell_other _ _ _ _ (by simp only [ne_eq,Addr.mk.injEq,true_and,and_true];exact fun h=>e h.symm),h.cell j hj,ho j e]
theorem Blk8.below {w w':World} {B g:Nat} {o:Nat→Int} (h:Blk8 w g o) (hb:Below B w w') (hg:g<B):Blk8 w' g o :=
 ⟨fun j hj=>((bcell hb).1 _ _ hg).trans (h.cell j hj),fun j=>((bcell hb).2 _ _ hg).trans (h.free j)⟩
theorem Blk8.far {w:World} {g:Nat} {o:Nat→Int} (h:Blk8 w g o) {p:Addr} (hp:p.block≠g) (u:Value):Blk8 (w.setCell p u) g o :=
 ⟨fun j hj=>by rw [World.cell?_setCell_other _ _ _ _ (by rintro rfl;exact hp rfl)];exact h.cell j hj,fun j=>by rw [World.frozen?_setCell];exact h.free j⟩
theorem Blk8.drew {w:World} {g:Nat} {o:Nat→Int} (h:Blk8 w g o):Blk8 w.drew g o:=⟨h.cell,h.free⟩
theorem Blk8.drewN {w:World} {g:Nat} {o:Nat→Int} (h:Blk8 w g o) (n:Nat):Blk8 (w.drewN n) g o:=⟨h.cell,h.free⟩
theorem Blk8.congr {w:World} {g:Nat} {o o':Nat→Int} (h:Blk8 w g o) (ho:∀ j,j<8→o j=o' j):Blk8 w g o':=⟨fun j hj=>by rw [h.cell j hj,ho j hj],h.free⟩
theorem lt_of_cell {w:World} {g i:Nat} {v:Value} (h:w.cell? ⟨g,i,none⟩=some v):g<w.heap.size:=by
 rcases Nat.lt_or_ge g w.heap.size with h1 | h1
 ·exact h1
 ·have : w.heap[g]? = none := Array.getElem?_eq_none h1
  simp [World.cell?,this] at h
theorem Blk8.lt {w:World} {g:Nat} {o:Nat→Int} (h:Blk8 w g o):g<w.heap.size:=lt_of_cell (h.cell 0 (by omega))
theorem Blk8.all {w:World} {g:Nat} {o:Nat→Int} (h:Blk8 w g o) :
  w.cell? ⟨g,0,none⟩=some (.int .u32 (o 0))∧w.cell? ⟨g,1,none⟩=some (.int .u32 (o 1))∧w.cell? ⟨g,2,none⟩=some (.int .u32 (o 2))∧w.cell? ⟨g,3,none⟩=some (.int .u32 (o 3)) ∧
  w.cell? ⟨g,4,none⟩=some (.int .u32 (o 4))∧w.cell? ⟨g,5,none⟩=some (.int .u32 (o 5))∧w.cell? ⟨g,6,none⟩=some (.int .u32 (o 6))∧w.cell? ⟨g,7,none⟩=some (.int .u32 (o 7)) :=
 ⟨h.cell 0 (by omega),h.cell 1 (by omega),h.cell 2 (by omega),h.cell 3 (by omega),h.cell 4 (by omega),h.cell 5 (by omega),h.cell 6 (by omega),h.cell 7 (by omega)⟩
theorem Blk8.alloc {w:World} {g:Nat} {o:Nat→Int} (h:Blk8 w g o) (hg:g<w.heap.size) (x:Obj):Blk8 (w.alloc x) g o :=
 h.below ((Below.refl _ _).alloc (Nat.le_refl _) x) hg
theorem Blk8.here (w:World) (t:TypeId) (o:Nat→Int):Blk8 (w.alloc (.cells #[.int .u32 (o 0),.int .u32 (o 1),.int .u32 (o 2),.int .u32 (o 3),.int .u32 (o 4),.int .u32 (o 5),.int .u32 (o 6),.int .u32 (o 7)] t)) w.heap.size o:=by
 refine ⟨fun j hj=>?_,fun j=>by go_simp⟩
 match j,hj with
 | 0,_ | 1,_ | 2,_ | 3,_ | 4,_ | 5,_ | 6,_ | 7,_=>go_simp
theorem below_drewN' {B:Nat} {a w:World} (h:Below B a w) (n:Nat):Below B a (w.drewN n):=⟨h.os,h.tape,h.output,h.size,h.block⟩

def part (f g:Nat→Int) (k j:Nat):Int:=if j<k then f j else g j



def cmpZ (a b:Int):Int:=if a<b then -1 else if a=b then 0 else 1

theorem keepCell {w' w'':World} {b o:Nat} {v:Value} (hb:Below w'.heap.size w' w'') (h:w'.cell? ⟨b,o,none⟩=some v):w''.cell? ⟨b,o,none⟩=some v:=((bcell hb).1 _ _ (lt_of_cell h)).trans h
theorem keepBelow {w w' w'':World} (hb:Below w'.heap.size w' w'') (h:Below w.heap.size w w'):Below w.heap.size w w'':=h.trans (hb.mono h.size)

def There (w:World) (g n:Nat):Prop:=∀ j,j<n→(∃ v,w.cell? ⟨g,j,none⟩=some v)∧w.frozen? ⟨g,j,none⟩=false
theorem There.below {w w':World} {g n:Nat} (hb:Below w.heap.size w w') (h:There w g n):There w' g n:=fun j hj=>by
 obtain ⟨⟨v,hv⟩,hf⟩:=h j hj
 exact ⟨⟨v,keepCell hb hv⟩,((bcell hb).2 _ _ (lt_of_cell hv)).trans hf⟩
theorem There.set {w:World} {g n:Nat} (h:There w g n) (a:Addr) (u:Value):There (w.setCell a u) g n:=fun j hj=>by
 obtain ⟨⟨v,hv⟩,hf⟩:=h j hj
 obtain ⟨v',hv'⟩:=cell?_setCell_some (w:=w) (p:=a) (x:=u) hv
 exact ⟨⟨v',hv'⟩,by rw [World.frozen?_setCell];exact hf⟩
theorem There.get2 {w:World} {g:Nat} (h:There w g 2):∃ z0 z1:Value,w.cell? ⟨g,0,none⟩=some z0∧w.cell? ⟨g,1,none⟩=some z1∧w.frozen? ⟨g,0,none⟩=false∧w.frozen? ⟨g,1,none⟩=false:=by
 obtain ⟨⟨z0,h0⟩,f0⟩:=h 0 (by omega);obtain ⟨⟨z1,h1⟩,f1⟩:=h 1 (by omega)
 exact ⟨z0,z1,h0,h1,f0,f1⟩
theorem far1 {w:World} {b o g i:Nat} {u v:Value} (hne:g≠b) (h:w.cell? ⟨b,o,none⟩=some v):(w.setCell ⟨g,i,none⟩ u).cell? ⟨b,o,none⟩=some v:=by
 rw [World.cell?_setCell_other _ _ _ _ (by intro e;exact hne (congrArg Addr.block e))];exact h
theorem far2 {w:World} {b o g:Nat} {u0 u1 v:Value} (hne:g≠b) (h:w.cell? ⟨b,o,none⟩=some v):((w.setCell ⟨g,0,none⟩ u0).setCell ⟨g,1,none⟩ u1).cell? ⟨b,o,none⟩=some v:=far1 hne (far1 hne h)

end
end Go.Proofs.YtodpincpofoiiaaGreat
