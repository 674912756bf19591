/- Parts of a proof: contracts and laws. -/
import Derived.Test.YtokgmcomgflloaaGreatRows
import Derived.WalkKit
import Derived.Handy
set_option maxRecDepth 100000
set_option maxHeartbeats 16000000
namespace Go.Proofs.YtokgmcomgflloaaGreat
section
set_option linter.unusedVariables false
set_option linter.unusedSimpArgs false
open Go.RowKit
variable {w0 w w':World}

def dw (v:Value) (w:World) (e:Ending) (w':World):Prop:=e = .returned v∧Below w.heap.size w w'
theorem aj {k:IntKind} {a b:Int} {w w':World} (h:a=b) (hb:Below w.heap.size w w'):dw (.int k b) w (.returned (.int k a)) w':=⟨by rw [h],hb⟩
theorem aY {a b:Bool} {w w':World} (h:a=b) (hb:Below w.heap.size w w'):dw (.bool b) w (.returned (.bool a)) w':=⟨by rw [h],hb⟩

abbrev bV (x y:Int):Value:=.agg #[.int .i64 x,.int .i64 y]

abbrev V:=Int × Int
theorem hid {p:Prop} (h:p):Hid p:=h
def px (l:List V) (j:Nat):Int:=(l.getD j (0,0)).1
def py (l:List V) (j:Nat):Int:=(l.getD j (0,0)).2

structure Cells (w : World) (b off : Nat) (l : List V) : Prop where
 lt:b<w.heap.size
 x:∀ j,j<l.length→w.cell? ⟨b,off+j*2,none⟩=some (.int .i64 (px l j))
 y:∀ j,j<l.length→w.cell? ⟨b,off+j*2+1,none⟩=some (.int .i64 (py l j))

structure Sl (w : World) (A : Option Addr) (n c : Nat) (l : List V) : Prop where
 len:n=l.length
 cap:n≤c
 big:c≤9223372036854775807
 at_:l≠[]→∃ b off,A=some ⟨b,off,none⟩∧Cells w b off l
theorem bX {W w1:World} {B:Nat} (hb:Below B W w1):(∀ b o,b<B→w1.cell? ⟨b,o,none⟩=W.cell? ⟨b,o,none⟩)∧(∀ b o,b<B→w1.frozen? ⟨b,o,none⟩=W.frozen? ⟨b,o,none⟩) :=
 ⟨fun b o h=>hb.cell (p:=⟨b,o,none⟩) h,fun b o h=>hb.frozen (p:=⟨b,o,none⟩) h⟩
theorem Cells.below {b off:Nat} {l:List V} (h:Cells w b off l) (hb:Below w.heap.size w w'):Cells w' b off l :=
 ⟨Nat.lt_of_lt_of_le h.lt hb.size,fun j hj=>((bX hb).1 _ _ h.lt).trans (h.x j hj),fun j hj=>((bX hb).1 _ _ h.lt).trans (h.y j hj)⟩
theorem Sl.below {A:Option Addr} {n c:Nat} {l:List V} (h:Sl w A n c l) (hb:Below w.heap.size w w'):Sl w' A n c l :=
 ⟨h.len,h.cap,h.big,fun hl=>by obtain ⟨b,off,rfl,hc⟩:=h.at_ hl;exact ⟨b,off,rfl,hc.below hb⟩⟩
theorem uI {l:List V} {j:Nat} (h:j<l.length):l[j]=(px l j,py l j):=by simp [px,py,h]

def firstIdx (f:V→Bool) (l:List V):Int:=if l.any f then (l.findIdx f:Int) else -1
def mH (f:V→Bool) (l:List V) (k:Nat):Prop:=∀ j,j<k→f (px l j,py l j)=false
theorem oM (f:V→Bool) (l:List V):mH f l 0:=fun _ h=>absurd h (by omega)
theorem pO {f:V→Bool} {l:List V} {k:Nat} (h:mH f l k) (hk:f (px l k,py l k)=false):mH f l (k+1):=fun j hj=>by
 by_cases e:j=k
 ·subst e;exact hk
 ·exact h j (by omega)
theorem nK {f:V→Bool} {l:List V} {k:Nat} (hl:k<l.length) (h:mH f l k) (hk:f (px l k,py l k)=true):firstIdx f l=k:=by
 have e:l.any f=true:=List.any_eq_true.2 ⟨l[k],List.getElem_mem hl,by rw [uI hl];exact hk⟩;unfold firstIdx;rw [if_pos e]
 have:l.findIdx f=k:=by
  rw [List.findIdx_eq hl];refine ⟨by rw [uI hl];exact hk,fun j hj=>?_⟩;have:=h j hj;rw [uI (by omega)];exact this
 omega
theorem firstIdx_none {f:V→Bool} {l:List V} (h:mH f l l.length):firstIdx f l = -1:=by
 unfold firstIdx;rw [if_neg];intro e;obtain ⟨x,hx,hf⟩:=List.any_eq_true.1 e;obtain ⟨j,hj,rfl⟩:=List.mem_iff_getElem.1 hx;have:=h j hj;rw [uI hj,this] at hf
 cases hf
theorem nT (f:V→Bool) (l:List V):decide (firstIdx f l ≥ 0)=l.any f:=by
 unfold firstIdx
 cases l.any f <;> simp
theorem fU {x y M N:Int} (h1 : -M≤x) (h2:x≤M) (h3 : -N≤y) (h4:y≤N) : -(M*N)≤x*y∧x*y≤M*N:=by
 have a:=Int.mul_nonneg (show 0≤M-x by omega) (show 0≤N+y by omega);have b:=Int.mul_nonneg (show 0≤M+x by omega) (show 0≤N-y by omega);have c:=Int.mul_nonneg (show 0≤M-x by omega) (show 0≤N-y by omega);have d:=Int.mul_nonneg (show 0≤M+x by omega) (show 0≤N+y by omega);grind
def aB (m a b:Int):Bool:=decide (-m≤a∧a≤m ∧ -m≤b∧b≤m)
def bS (a b c d p q:Int):Int:=(c-a)*(q-b)-(d-b)*(p-a)
theorem aV {m a b:Int}:aB m a b=true↔(-m≤a∧a≤m ∧ -m≤b∧b≤m):=by simp [aB]
theorem dJ {n:Int} (h1 : -9223372036854775808≤n) (h2:n≤9223372036854775807):wrap64 n=n:=IntWalk.wrap64_in n ⟨h1,by omega⟩
theorem zN {a b c d p q:Int} (h1:aB 65536000 a b=true) (h2:aB 65536000 c d=true) (h3:aB 65536000 p q=true) :
  wrap64 (wrap64 (wrap64 (c-a)*wrap64 (q-b))-wrap64 (wrap64 (d-b)*wrap64 (p-a)))=bS a b c d p q
  ∧ -34359738368000000≤bS a b c d p q∧bS a b c d p q≤34359738368000000:=by
 obtain ⟨_,_,_,_⟩:=aV.1 h1;obtain ⟨_,_,_,_⟩:=aV.1 h2;obtain ⟨_,_,_,_⟩:=aV.1 h3;have m1:=fU (x:=c-a) (y:=q-b) (M:=131072000) (N:=131072000) (by omega) (by omega) (by omega) (by omega);have m2:=fU (x:=d-b) (y:=p-a) (M:=131072000) (N:=131072000) (by omega) (by omega) (by omega) (by omega);rw [dJ (n:=c-a) (by omega) (by omega),dJ (n:=q-b) (by omega) (by omega),dJ (n:=d-b) (by omega) (by omega),dJ (n:=p-a) (by omega) (by omega)];unfold bS;generalize (c-a)*(q-b)=X at *
 generalize (d-b)*(p-a)=Y at *
 rw [dJ (n:=X) (by omega) (by omega),dJ (n:=Y) (by omega) (by omega),dJ (by omega) (by omega)];omega

def eD (l:List V) (i k m:Nat):Int:=bS (px l i) (py l i) (px l k) (py l k) (px l m) (py l m)
def aT (m:Int) (l:List V):Bool:=l.all fun p=>aB m p.1 p.2
theorem kQ (m:Int) (l:List V):(l.any fun p => !aB m p.1 p.2) = !aT m l:=by
 unfold aT
 induction l with
 | nil=>rfl
 | cons a l ih=>simp [ih]
theorem bG {m:Int} {l:List V} (h:aT m l=true) {j:Nat} (hj:j<l.length):aB m (px l j) (py l j)=true:=by
 have:=List.all_eq_true.1 h l[j] (List.getElem_mem hj);simpa [px,py,hj] using this
def fD (l:List V) (i k:Nat):Bool:=decide (k≠i∧k≠(i+1) % l.length∧eD l i ((i+1) % l.length) k≤0)
def jJ (l:List V) (i:Nat):Prop:=∀ i',i'<i→∀ k,k<l.length→fD l i' k=false
def qH (l:List V) (i k:Nat):Prop:=∀ k',k'<k→fD l i k'=false

def bF (l:List V):Int :=
 if 8<l.length then 2 else if l.length<3 then 3 else if aT 65536000 l=false then 1
 else if (List.range l.length).any (fun i=>(List.range l.length).any fun k=>fD l i k) then 3 else 0
theorem Ab {l:List V} {i k:Nat} (h8:l.length≤8) (h3:3≤l.length) (hw:aT 65536000 l=true) (hi:i<l.length) (hk:k<l.length) (hb:fD l i k=true):bF l=3:=by
 unfold bF;rw [if_neg (by omega),if_neg (by omega),if_neg (by simp [hw]),if_pos];simp only [List.any_eq_true,List.mem_range];exact ⟨i,hi,k,hk,hb⟩
theorem uF {l:List V} (h8:l.length≤8) (h3:3≤l.length) (hw:aT 65536000 l=true) (h:jJ l l.length):bF l=0:=by
 unfold bF;rw [if_neg (by omega),if_neg (by omega),if_neg (by simp [hw]),if_neg];simp only [List.any_eq_true,List.mem_range,not_exists,not_and];intro i hi k hk;simp [h i hi k hk]
theorem dX {l:List V} (h:bF l=0):l.length≤8∧3≤l.length∧aT 65536000 l=true∧jJ l l.length:=by
 unfold bF at h
 split at h
 ·omega
 ·split at h
  ·omega
  ·split at h
   ·omega
   ·split at h
    ·omega
    ·rename_i h1 h2 h3 h4;refine ⟨by omega,by omega,by simpa using h3,fun i hi k hk=>?_⟩
     cases e:fD l i k with
     | false=>rfl
     | true =>
      exfalso;apply h4;simp only [List.any_eq_true,List.mem_range];exact ⟨i,hi,k,hk,e⟩
theorem vL (l:List V):bF l=0∨bF l=1∨bF l=2∨bF l=3:=by
 unfold bF
 split
 ·simp
 ·split
  ·simp
  ·split
   ·simp
   ·split <;> simp
theorem yt (l:List V):jJ l 0:=fun _ h=>absurd h (by omega)
theorem wE (l:List V) (i:Nat):qH l i 0:=fun _ h=>absurd h (by omega)
theorem kR {l:List V} {i k:Nat} (h:qH l i k) (hb:fD l i k=false):qH l i (k+1):=fun k' hk=>by
 by_cases e:k'=k
 ·subst e;exact hb
 ·exact h k' (by omega)
theorem xB {l:List V} {i:Nat} (h:jJ l i) (hb:qH l i l.length):jJ l (i+1):=fun i' hi k hk=>by
 by_cases e:i'=i
 ·subst e;exact hb k hk
 ·exact h i' (by omega) k hk
theorem zD {l:List V} {i k:Nat} (h1:k≠i) (h2:k≠(i+1) % l.length) (h3:eD l i ((i+1) % l.length) k≤0):fD l i k=true:=by simp [fD, *]
theorem jr {l:List V} {i k:Nat} (h:k=i∨k=(i+1) % l.length∨0<eD l i ((i+1) % l.length) k):fD l i k=false:=by
 simp only [fD,decide_eq_false_iff_not];omega
theorem jN (a b c d:Int) (w:World) :
  Calls Tryz.prog 248 #[bV a b,bV c d] w (dw (bV (wrap64 (a-c)) (wrap64 (b-d))) w):=by
 go_enter Tryz.func248,Tryz.ntmps248
 go_wp2
 go_returns
 exact ⟨rfl,by go_grown⟩
theorem Ep (a b c d p q:Int) (w:World) :
  Calls Tryz.prog 156 #[bV a b,bV c d,bV p q] w (dw (.int .i64 (wrap64 (wrap64 (wrap64 (c-a)*wrap64 (q-b))-wrap64 (wrap64 (d-b)*wrap64 (p-a))))) w):=by
 go_enter Tryz.func156,Tryz.ntmps156
 go_wp2
 go_returns
 exact ⟨rfl,by go_grown⟩
theorem qD (a b c d p q:Int) (h1:aB 65536000 a b=true) (h2:aB 65536000 c d=true) (h3:aB 65536000 p q=true) (w:World) :
  Calls Tryz.prog 156 #[bV a b,bV c d,bV p q] w (dw (.int .i64 (bS a b c d p q)) w):=by
 have h:=Ep a b c d p q w;rwa [(zN h1 h2 h3).1] at h
theorem jY (a b:Int) (w:World) :
  Calls Tryz.prog 211 #[bV a b] w (dw (.bool (aB 65536000 a b)) w):=by
 go_enter Tryz.func211,Tryz.ntmps211
 go_wp2
 all_goals
  go_returns
  exact ⟨by simp [aB, *] <;> omega,by go_grown⟩
theorem aP (a b m:Int) (w:World) (h0:0≤m) (h1:m≤9223372036854775807) :
  Calls Tryz.prog 65 #[bV a b,.int .i64 m] w (dw (.bool (aB m a b)) w):=by
 go_enter Tryz.func65,Tryz.ntmps65
 go_wp2
 all_goals
  go_returns
  exact ⟨by simp [aB, *] <;> omega,by go_grown⟩
theorem vU (a b:Int) (w:World):Calls Tryz.prog 210 #[bV a b] w (dw (.bool (!aB 65536000 a b)) w):=by
 go_enter Tryz.func210,Tryz.ntmps210
 go_wp2_with (go_at_call 211;refine (jY _ _ _).mono ?_;rintro e w1 ⟨rfl,hb⟩)
 go_returns
 exact ⟨rfl,by simpa using ((Below.refl _ _).alloc (by simp) _).trans (hb.mono (by simp))⟩
theorem oD (A:Option Addr) (n c:Nat) (l:List V) (w:World) (hS:Sl w A n c l) :
  Calls Tryz.prog 240 #[.slice A n c,.func (.func 210) #[] #[]] w (dw (.int .i64 (firstIdx (fun p => !aB 65536000 p.1 p.2) l)) w):=by
 obtain ⟨hn,hcap,hbig,hat⟩:=hS;subst hn
 go_enter Tryz.func240,Tryz.ntmps240
 go_wp2
 go_loopw [8] (fun i wr=>∃ k:Nat,k≤l.length∧i = .int .i64 k∧mH (fun p => !aB 65536000 p.1 p.2) l k∧Below w.heap.size w wr) (fun i _=>l.length-(intOf i).toNat)
 case atStart=>exact ⟨0,Nat.zero_le _,rfl,oM _ _,Below.refl _ _⟩
 case round =>
  obtain ⟨k,hk,rfl,hno,hB⟩:=hrel
  by_cases hlt:k<l.length
  ·obtain ⟨b, off, rfl, hC⟩ := hat (by intro h; subst h; simp at hlt);have hC':=hC.below hB;have hx:=hC'.x k hlt;have hy:=hC'.y k hlt;have HN:=hid hno;clear hno hat hC hC'
   go_wp2_with (go_at_call 210;refine (vU _ _ _).mono ?_;rintro e w1 ⟨rfl,hb1⟩)
   ·go_returns
    exact aj (nK hlt HN.out (by assumption)).symm (hB.trans (hb1.mono hB.size))
   ·exact ⟨⟨k+1,hlt,by go_num,pO HN.out (by assumption),hB.trans (hb1.mono hB.size)⟩,by simp [intOf];omega⟩
  ·have hge : l.length ≤ k := by omega
   have HN:=hid hno;clear hno hat hlt;go_wp2
   go_returns
   exact aj (firstIdx_none (by have:=HN.out;rwa [show k=l.length by omega] at this)).symm hB
theorem iR (A:Option Addr) (n c:Nat) (l:List V) (w:World) (hS:Sl w A n c l) :
  Calls Tryz.prog 209 #[.slice A n c,.func (.func 210) #[] #[]] w (dw (.bool (!aT 65536000 l)) w):=by
 go_enter Tryz.func209,Tryz.ntmps209
 go_wp2_with (go_at_call 240;refine (oD _ _ _ l _ hS).mono ?_;rintro e w1 ⟨rfl,hb⟩)
 go_returns
 exact aY (by
  have h:=nT (fun p => !aB 65536000 p.1 p.2) l;simp only [ge_iff_le] at h
  rw [h,kQ]) hb
abbrev Ie (l:List V) (i:Nat):Obj:=.cells #[.int .i64 (px l i),.int .i64 (py l i)] 24
theorem iM (A:Option Addr) (n c:Nat) (l:List V) (w:World) (hS:Sl w A n c l) :
  Calls Tryz.prog 146 #[.slice A n c] w (dw (.int .i64 (bF l)) w):=by
 have hS0:=hS;obtain ⟨hn,hcap,hbig,hat⟩:=hS;subst hn
 by_cases h8:8<l.length
 ·clear hat
  go_enter Tryz.func146,Tryz.ntmps146
  go_wp2
  go_returns
  exact aj (by rw [bF,if_pos h8]) (Below.refl _ _)
 by_cases h3:l.length<3
 ·clear hat
  go_enter Tryz.func146,Tryz.ntmps146
  go_wp2
  go_returns
  exact aj (by rw [bF,if_neg h8,if_pos h3]) (Below.refl _ _)
 cases hw:aT 65536000 l with
 | false =>
  have HW:=hid hw;clear hat hw
  go_enter Tryz.func146,Tryz.ntmps146
  go_wp2_with (go_at_call 209;refine (iR _ _ _ l _ hS0).mono ?_;rintro e w1 ⟨rfl,hb⟩;rw [HW.out])
  go_returns
  exact aj (by rw [bF,if_neg h8,if_neg h3,if_pos HW.out]) hb
 | true =>
  obtain ⟨b,off,rfl,hC⟩:=hat (by intro h;subst h;simp at h3);have HW:=hid hw;clear hat hw
  go_enter Tryz.func146,Tryz.ntmps146
  go_wp2_with (go_at_call 209;refine (iR _ _ _ l _ hS0).mono ?_;rintro e w1 ⟨rfl,hb⟩;rw [HW.out])
  have hC1:=hC.below hb
  go_loopw [18] (fun i wr=>∃ k:Nat,k≤l.length∧i = .int .i64 k∧jJ l k∧Below w.heap.size w wr∧Below w1.heap.size w1 wr) (fun i _=>l.length-(intOf i).toNat)
  case atStart=>exact ⟨0,Nat.zero_le _,rfl,yt _,hb,Below.refl _ _⟩
  case round =>
   obtain ⟨k,hk,rfl,hno,hB,hB1⟩:=hrel;obtain ⟨wo,rfl⟩:∃ wo:World,wo=wr:=⟨_,rfl⟩;have HN:=hid hno;have hCo:=hC1.below hB1;have hbo:=hCo.lt;have hC1H:=hid hC1;clear hno hC hC1
   by_cases hlt:k<l.length
   ·have hx := hCo.x k hlt;have hy:=hCo.y k hlt;have hj:(k+1) % l.length<l.length:=Nat.mod_lt _ (by omega);have hji:((k:Int)+1) % (l.length:Int)<(l.length:Int):=Int.emod_lt_of_pos _ (by omega);have hj0:0≤((k:Int)+1) % (l.length:Int):=Int.emod_nonneg _ (by omega);have hx2:=hCo.x _ hj;have hy2:=hCo.y _ hj;have HC:=hid hCo;clear hCo;go_wp2
    go_loopw [33] (fun i wr=>∃ m:Nat,m≤l.length∧i = .int .i64 m∧qH l k m∧Below (wo.heap.size+2) ((wo.alloc (Ie l k)).alloc (Ie l ((k+1) % l.length))) wr) (fun i _=>l.length-(intOf i).toNat)
    case atStart=>exact ⟨0,Nat.zero_le _,rfl,wE _ _,Below.refl _ _⟩
    case round =>
     obtain ⟨m,hm,rfl,hcol,hBi⟩:=hrel;have HCo:=hid hcol;clear hcol;obtain ⟨wi,rfl⟩:∃ wi:World,wi=wr:=⟨_,rfl⟩;have hsz:wo.heap.size+2≤wi.heap.size:=by simpa using hBi.size
     have hBwi:Below w.heap.size w wi:=hB.trans ((((Below.refl _ _).alloc (Nat.le_refl _) _).alloc (by simp) _).trans (hBi.mono (by omega)) |>.mono hB.size);have hB1wi:Below w1.heap.size w1 wi:=hB1.trans ((((Below.refl _ _).alloc (Nat.le_refl _) _).alloc (by simp) _).trans (hBi.mono (by omega)) |>.mono hB1.size);have hCi:=hC1H.out.below hB1wi
     by_cases hlt2:m<l.length
     ·have hx3 := hCi.x m hlt2;have hy3:=hCi.y m hlt2;have hz1:wo.heap.size<wi.heap.size:=by omega
      have hz2:wo.heap.size+1<wi.heap.size:=by omega
      have gx1:wi.cell? ⟨wo.heap.size,0,none⟩=some (.int .i64 (px l k)):=((bX hBi).1 _ _ (by omega)).trans (by go_simp);have gy1:wi.cell? ⟨wo.heap.size,1,none⟩=some (.int .i64 (py l k)):=((bX hBi).1 _ _ (by omega)).trans (by go_simp);have gx2:wi.cell? ⟨wo.heap.size+1,0,none⟩=some (.int .i64 (px l ((k+1) % l.length))):=((bX hBi).1 _ _ (by omega)).trans (by go_simp);have gy2:wi.cell? ⟨wo.heap.size+1,1,none⟩=some (.int .i64 (py l ((k+1) % l.length))):=((bX hBi).1 _ _ (by omega)).trans (by go_simp)
      by_cases hi1:m=k
      ·have heb : fD l k m = false := jr (.inl hi1);have hne:(((m:Int) != (k:Int))=false):=by simp [hi1]
       have HE:=hid heb;have H1:=hid hi1;clear heb hi1;go_wp2;go_roundw
       case rel=>exact ⟨m+1,hlt2,by go_num,kR HCo.out HE.out,hBi.trans (((Below.refl _ _).alloc hsz _))⟩
       case measure=>simp [intOf];omega
      by_cases hi2:m=(k+1) % l.length
      ·have heb : fD l k m = false := jr (.inr (.inl hi2));have hne:(((m:Int) != (k:Int))=true):=by simp;omega
       have hne2:(((m:Int) != ((k:Int)+1) % (l.length:Int))=false):=by rw [hi2];simp
       have HE:=hid heb;have H1:=hid hi1;have H2:=hid hi2;clear heb hi1 hi2;go_wp2;go_roundw
       case rel=>exact ⟨m+1,hlt2,by go_num,kR HCo.out HE.out,hBi.trans (((Below.refl _ _).alloc hsz _))⟩
       case measure=>simp [intOf];omega
      have hne:(((m:Int) != (k:Int))=true):=by simp;omega
      have hne2:(((m:Int) != ((k:Int)+1) % (l.length:Int))=true):=by rw [bne_iff_ne,show ((k:Int)+1) % (l.length:Int)=(((k+1) % l.length:Nat):Int) by simp];omega
      have H1:=hid hi1;have H2:=hid hi2;clear hi1 hi2;have hw1:=hid (bG HW.out hlt);have hw2:=hid (bG HW.out hj);have hw3:=hid (bG HW.out hlt2)
      go_wp2_with (go_at_call 156;refine (qD _ _ _ _ _ _ hw1.out hw2.out hw3.out _).mono ?_;rintro e w2 ⟨rfl,hb2⟩)
      ·go_returns
       exact aj (Ab (by omega) (by omega) HW.out hlt hlt2 (zD H1.out H2.out (by assumption))).symm (hBwi.trans ((((Below.refl _ _).alloc (Nat.le_refl _) _).trans (hb2.mono (by simp))).mono hBwi.size))
      ·go_roundw
       case rel=>exact ⟨m+1,hlt2,by go_num,kR HCo.out (jr (.inr (.inr (by show (0:Int)<bS _ _ _ _ _ _;omega)))),hBi.trans ((((Below.refl _ _).alloc hsz _)).trans (hb2.mono (by simp;omega)))⟩
       case measure=>simp [intOf];omega
     ·have hge : l.length ≤ m := by omega
      go_wp2;go_roundw
      case rel=>exact ⟨k+1,hlt,by go_num,xB HN.out (by have:=HCo.out;rwa [show m=l.length by omega] at this),hBwi,hB1wi⟩
      case measure=>simp [intOf];omega
   ·clear hCo;have hge:l.length≤k:=by omega
    go_wp2
    go_returns
    exact aj (uF (by omega) (by omega) HW.out (by have:=HN.out;rwa [show k=l.length by omega] at this)).symm hB
end
end Go.Proofs.YtokgmcomgflloaaGreat
