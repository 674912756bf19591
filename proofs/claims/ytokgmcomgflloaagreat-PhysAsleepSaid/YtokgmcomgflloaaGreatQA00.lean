/- Parts of a proof: contracts and laws. -/
import Derived.Test.YtokgmcomgflloaaGreatRows
import Derived.WalkKit
import Derived.Handy
import Derived.RegionTactic
import Derived.ChangeAlike
import Derived.Deep.QuietTactic
import Derived.BigQuiet
import Derived.Deep.RegionWith
import Derived.Deep.DeepCutAuto
import Derived.Deep.RegionHeld3
set_option maxRecDepth 100000
set_option maxHeartbeats 16000000
namespace Go.Proofs.YtokgmcomgflloaaGreat
section
set_option linter.unusedVariables false
set_option linter.unusedSimpArgs false
open Go.RowKit
variable {w0 w w':World}

def dG (v:Value) (w:World) (e:Ending) (w':World):Prop:=e = .returned v∧Below w.heap.size w w'
theorem aB {k:IntKind} {a b:Int} {w w':World} (h:a=b) (hb:Below w.heap.size w w'):dG (.int k b) w (.returned (.int k a)) w':=⟨by rw [h],hb⟩
theorem bR {a b:Bool} {w w':World} (h:a=b) (hb:Below w.heap.size w w'):dG (.bool b) w (.returned (.bool a)) w':=⟨by rw [h],hb⟩

abbrev aR (x y:Int):Value:=.agg #[.int .i64 x,.int .i64 y]

abbrev V:=Int × Int
theorem hid {p:Prop} (h:p):Hid p:=h
def px (l:List V) (j:Nat):Int:=(l.getD j (0,0)).1
def py (l:List V) (j:Nat):Int:=(l.getD j (0,0)).2

structure Cells (w : World) (b off : Nat) (l : List V) : Prop where
 lt:b<w.heap.size
 x:∀ j,j<l.length→w.cell? ⟨b,off+j*2,none⟩=some (.int .i64 (px l j))
 y:∀ j,j<l.length→w.cell? ⟨b,off+j*2+1,none⟩=some (.int .i64 (py l j))

structure Sl (w : World) (A : Option Addr) (n c : Nat) (l : List V) : Prop where
 len:n=l.length
 cap:n≤c
 big:c≤9223372036854775807
 at_:l≠[]→∃ b off,A=some ⟨b,off,none⟩∧Cells w b off l
theorem dF {W w1:World} {B:Nat} (hb:Below B W w1):(∀ b o,b<B→w1.cell? ⟨b,o,none⟩=W.cell? ⟨b,o,none⟩)∧(∀ b o,b<B→w1.frozen? ⟨b,o,none⟩=W.frozen? ⟨b,o,none⟩) :=
 ⟨fun b o h=>hb.cell (p:=⟨b,o,none⟩) h,fun b o h=>hb.frozen (p:=⟨b,o,none⟩) h⟩
theorem Cells.below {b off:Nat} {l:List V} (h:Cells w b off l) (hb:Below w.heap.size w w'):Cells w' b off l :=
 ⟨Nat.lt_of_lt_of_le h.lt hb.size,fun j hj=>((dF hb).1 _ _ h.lt).trans (h.x j hj),fun j hj=>((dF hb).1 _ _ h.lt).trans (h.y j hj)⟩
theorem Sl.below {A:Option Addr} {n c:Nat} {l:List V} (h:Sl w A n c l) (hb:Below w.heap.size w w'):Sl w' A n c l :=
 ⟨h.len,h.cap,h.big,fun hl=>by obtain ⟨b,off,rfl,hc⟩:=h.at_ hl;exact ⟨b,off,rfl,hc.below hb⟩⟩
theorem yc {l:List V} {j:Nat} (h:j<l.length):l[j]=(px l j,py l j):=by simp [px,py,h]

def firstIdx (f:V→Bool) (l:List V):Int:=if l.any f then (l.findIdx f:Int) else -1
def rO (f:V→Bool) (l:List V) (k:Nat):Prop:=∀ j,j<k→f (px l j,py l j)=false
theorem uG (f:V→Bool) (l:List V):rO f l 0:=fun _ h=>absurd h (by omega)
theorem uI {f:V→Bool} {l:List V} {k:Nat} (h:rO f l k) (hk:f (px l k,py l k)=false):rO f l (k+1):=fun j hj=>by
 by_cases e:j=k
 ·subst e;exact hk
 ·exact h j (by omega)
theorem sJ {f:V→Bool} {l:List V} {k:Nat} (hl:k<l.length) (h:rO f l k) (hk:f (px l k,py l k)=true):firstIdx f l=k:=by
 have e:l.any f=true:=List.any_eq_true.2 ⟨l[k],List.getElem_mem hl,by rw [yc hl];exact hk⟩;unfold firstIdx;rw [if_pos e]
 have:l.findIdx f=k:=by
  rw [List.findIdx_eq hl];refine ⟨by rw [yc hl];exact hk,fun j hj=>?_⟩;have:=h j hj;rw [yc (by omega)];exact this
 omega
theorem firstIdx_none {f:V→Bool} {l:List V} (h:rO f l l.length):firstIdx f l = -1:=by
 unfold firstIdx;rw [if_neg];intro e;obtain ⟨x,hx,hf⟩:=List.any_eq_true.1 e;obtain ⟨j,hj,rfl⟩:=List.mem_iff_getElem.1 hx;have:=h j hj;rw [yc hj,this] at hf
 cases hf
theorem sZ (f:V→Bool) (l:List V):decide (firstIdx f l ≥ 0)=l.any f:=by
 unfold firstIdx
 cases l.any f <;> simp
theorem dh {x y M N:Int} (h1 : -M≤x) (h2:x≤M) (h3 : -N≤y) (h4:y≤N) : -(M*N)≤x*y∧x*y≤M*N:=by
 have a:=Int.mul_nonneg (show 0≤M-x by omega) (show 0≤N+y by omega);have b:=Int.mul_nonneg (show 0≤M+x by omega) (show 0≤N-y by omega);have c:=Int.mul_nonneg (show 0≤M-x by omega) (show 0≤N-y by omega);have d:=Int.mul_nonneg (show 0≤M+x by omega) (show 0≤N+y by omega);grind
def aI (m a b:Int):Bool:=decide (-m≤a∧a≤m ∧ -m≤b∧b≤m)
def iZ (a b c d p q:Int):Int:=(c-a)*(q-b)-(d-b)*(p-a)
theorem aD {m a b:Int}:aI m a b=true↔(-m≤a∧a≤m ∧ -m≤b∧b≤m):=by simp [aI]
theorem jS {n:Int} (h1 : -9223372036854775808≤n) (h2:n≤9223372036854775807):wrap64 n=n:=IntWalk.wrap64_in n ⟨h1,by omega⟩
theorem Gn {a b c d p q:Int} (h1:aI 65536000 a b=true) (h2:aI 65536000 c d=true) (h3:aI 65536000 p q=true) :
  wrap64 (wrap64 (wrap64 (c-a)*wrap64 (q-b))-wrap64 (wrap64 (d-b)*wrap64 (p-a)))=iZ a b c d p q
  ∧ -34359738368000000≤iZ a b c d p q∧iZ a b c d p q≤34359738368000000:=by
 obtain ⟨_,_,_,_⟩:=aD.1 h1;obtain ⟨_,_,_,_⟩:=aD.1 h2;obtain ⟨_,_,_,_⟩:=aD.1 h3;have m1:=dh (x:=c-a) (y:=q-b) (M:=131072000) (N:=131072000) (by omega) (by omega) (by omega) (by omega);have m2:=dh (x:=d-b) (y:=p-a) (M:=131072000) (N:=131072000) (by omega) (by omega) (by omega) (by omega);rw [jS (n:=c-a) (by omega) (by omega),jS (n:=q-b) (by omega) (by omega),jS (n:=d-b) (by omega) (by omega),jS (n:=p-a) (by omega) (by omega)];unfold iZ;generalize (c-a)*(q-b)=X at *
 generalize (d-b)*(p-a)=Y at *
 rw [jS (n:=X) (by omega) (by omega),jS (n:=Y) (by omega) (by omega),jS (by omega) (by omega)];omega

def mI (l:List V) (i k m:Nat):Int:=iZ (px l i) (py l i) (px l k) (py l k) (px l m) (py l m)
def aP (m:Int) (l:List V):Bool:=l.all fun p=>aI m p.1 p.2
theorem qx (m:Int) (l:List V):(l.any fun p => !aI m p.1 p.2) = !aP m l:=by
 unfold aP
 induction l with
 | nil=>rfl
 | cons a l ih=>simp [ih]
theorem aQ {m:Int} {l:List V} (h:aP m l=true) {j:Nat} (hj:j<l.length):aI m (px l j) (py l j)=true:=by
 have:=List.all_eq_true.1 h l[j] (List.getElem_mem hj);simpa [px,py,hj] using this
def iN (l:List V) (i k:Nat):Bool:=decide (k≠i∧k≠(i+1) % l.length∧mI l i ((i+1) % l.length) k≤0)
def um (l:List V) (i:Nat):Prop:=∀ i',i'<i→∀ k,k<l.length→iN l i' k=false
def wV (l:List V) (i k:Nat):Prop:=∀ k',k'<k→iN l i k'=false

def bH (l:List V):Int :=
 if 8<l.length then 2 else if l.length<3 then 3 else if aP 65536000 l=false then 1
 else if (List.range l.length).any (fun i=>(List.range l.length).any fun k=>iN l i k) then 3 else 0
theorem FD {l:List V} {i k:Nat} (h8:l.length≤8) (h3:3≤l.length) (hw:aP 65536000 l=true) (hi:i<l.length) (hk:k<l.length) (hb:iN l i k=true):bH l=3:=by
 unfold bH;rw [if_neg (by omega),if_neg (by omega),if_neg (by simp [hw]),if_pos];simp only [List.any_eq_true,List.mem_range];exact ⟨i,hi,k,hk,hb⟩
theorem Ad {l:List V} (h8:l.length≤8) (h3:3≤l.length) (hw:aP 65536000 l=true) (h:um l l.length):bH l=0:=by
 unfold bH;rw [if_neg (by omega),if_neg (by omega),if_neg (by simp [hw]),if_neg];simp only [List.any_eq_true,List.mem_range,not_exists,not_and];intro i hi k hk;simp [h i hi k hk]
theorem bI {l:List V} (h:bH l=0):l.length≤8∧3≤l.length∧aP 65536000 l=true∧um l l.length:=by
 unfold bH at h
 split at h
 ·omega
 ·split at h
  ·omega
  ·split at h
   ·omega
   ·split at h
    ·omega
    ·rename_i h1 h2 h3 h4;refine ⟨by omega,by omega,by simpa using h3,fun i hi k hk=>?_⟩
     cases e:iN l i k with
     | false=>rfl
     | true =>
      exfalso;apply h4;simp only [List.any_eq_true,List.mem_range];exact ⟨i,hi,k,hk,e⟩
theorem DJ (l:List V):um l 0:=fun _ h=>absurd h (by omega)
theorem Db (l:List V) (i:Nat):wV l i 0:=fun _ h=>absurd h (by omega)
theorem ql {l:List V} {i k:Nat} (h:wV l i k) (hb:iN l i k=false):wV l i (k+1):=fun k' hk=>by
 by_cases e:k'=k
 ·subst e;exact hb
 ·exact h k' (by omega)
theorem Ee {l:List V} {i:Nat} (h:um l i) (hb:wV l i l.length):um l (i+1):=fun i' hi k hk=>by
 by_cases e:i'=i
 ·subst e;exact hb k hk
 ·exact h i' (by omega) k hk
theorem FN {l:List V} {i k:Nat} (h1:k≠i) (h2:k≠(i+1) % l.length) (h3:mI l i ((i+1) % l.length) k≤0):iN l i k=true:=by simp [iN, *]
theorem lZ {l:List V} {i k:Nat} (h:k=i∨k=(i+1) % l.length∨0<mI l i ((i+1) % l.length) k):iN l i k=false:=by
 simp only [iN,decide_eq_false_iff_not];omega
theorem KY (a b c d p q:Int) (w:World) :
  Calls Tryz.prog 156 #[aR a b,aR c d,aR p q] w (dG (.int .i64 (wrap64 (wrap64 (wrap64 (c-a)*wrap64 (q-b))-wrap64 (wrap64 (d-b)*wrap64 (p-a))))) w):=by
 go_enter Tryz.func156,Tryz.ntmps156
 go_wp2
 go_returns
 exact ⟨rfl,by go_grown⟩
theorem xQ (a b c d p q:Int) (h1:aI 65536000 a b=true) (h2:aI 65536000 c d=true) (h3:aI 65536000 p q=true) (w:World) :
  Calls Tryz.prog 156 #[aR a b,aR c d,aR p q] w (dG (.int .i64 (iZ a b c d p q)) w):=by
 have h:=KY a b c d p q w;rwa [(Gn h1 h2 h3).1] at h
theorem nT (a b:Int) (w:World) :
  Calls Tryz.prog 211 #[aR a b] w (dG (.bool (aI 65536000 a b)) w):=by
 go_enter Tryz.func211,Tryz.ntmps211
 go_wp2
 all_goals
  go_returns
  exact ⟨by simp [aI, *] <;> omega,by go_grown⟩
theorem Az (a b:Int) (w:World):Calls Tryz.prog 210 #[aR a b] w (dG (.bool (!aI 65536000 a b)) w):=by
 go_enter Tryz.func210,Tryz.ntmps210
 go_wp2_with (go_at_call 211;refine (nT _ _ _).mono ?_;rintro e w1 ⟨rfl,hb⟩)
 go_returns
 exact ⟨rfl,by simpa using ((Below.refl _ _).alloc (by simp) _).trans (hb.mono (by simp))⟩
theorem tK (A:Option Addr) (n c:Nat) (l:List V) (w:World) (hS:Sl w A n c l) :
  Calls Tryz.prog 240 #[.slice A n c,.func (.func 210) #[] #[]] w (dG (.int .i64 (firstIdx (fun p => !aI 65536000 p.1 p.2) l)) w):=by
 obtain ⟨hn,hcap,hbig,hat⟩:=hS;subst hn
 go_enter Tryz.func240,Tryz.ntmps240
 go_wp2
 go_loopw [8] (fun i wr=>∃ k:Nat,k≤l.length∧i = .int .i64 k∧rO (fun p => !aI 65536000 p.1 p.2) l k∧Below w.heap.size w wr) (fun i _=>l.length-(intOf i).toNat)
 case atStart=>exact ⟨0,Nat.zero_le _,rfl,uG _ _,Below.refl _ _⟩
 case round =>
  obtain ⟨k,hk,rfl,hno,hB⟩:=hrel
  by_cases hlt:k<l.length
  ·obtain ⟨b, off, rfl, hC⟩ := hat (by intro h; subst h; simp at hlt);have hC':=hC.below hB;have hx:=hC'.x k hlt;have hy:=hC'.y k hlt;have HN:=hid hno;clear hno hat hC hC'
   go_wp2_with (go_at_call 210;refine (Az _ _ _).mono ?_;rintro e w1 ⟨rfl,hb1⟩)
   ·go_returns
    exact aB (sJ hlt HN.out (by assumption)).symm (hB.trans (hb1.mono hB.size))
   ·exact ⟨⟨k+1,hlt,by go_num,uI HN.out (by assumption),hB.trans (hb1.mono hB.size)⟩,by simp [intOf];omega⟩
  ·have hge : l.length ≤ k := by omega
   have HN:=hid hno;clear hno hat hlt;go_wp2
   go_returns
   exact aB (firstIdx_none (by have:=HN.out;rwa [show k=l.length by omega] at this)).symm hB
theorem kJ (A:Option Addr) (n c:Nat) (l:List V) (w:World) (hS:Sl w A n c l) :
  Calls Tryz.prog 209 #[.slice A n c,.func (.func 210) #[] #[]] w (dG (.bool (!aP 65536000 l)) w):=by
 go_enter Tryz.func209,Tryz.ntmps209
 go_wp2_with (go_at_call 240;refine (tK _ _ _ l _ hS).mono ?_;rintro e w1 ⟨rfl,hb⟩)
 go_returns
 exact bR (by
  have h:=sZ (fun p => !aI 65536000 p.1 p.2) l;simp only [ge_iff_le] at h
  rw [h,qx]) hb
abbrev O7 (l:List V) (i:Nat):Obj:=.cells #[.int .i64 (px l i),.int .i64 (py l i)] 24
theorem fO (A:Option Addr) (n c:Nat) (l:List V) (w:World) (hS:Sl w A n c l) :
  Calls Tryz.prog 146 #[.slice A n c] w (dG (.int .i64 (bH l)) w):=by
 have hS0:=hS;obtain ⟨hn,hcap,hbig,hat⟩:=hS;subst hn
 by_cases h8:8<l.length
 ·clear hat
  go_enter Tryz.func146,Tryz.ntmps146
  go_wp2
  go_returns
  exact aB (by rw [bH,if_pos h8]) (Below.refl _ _)
 by_cases h3:l.length<3
 ·clear hat
  go_enter Tryz.func146,Tryz.ntmps146
  go_wp2
  go_returns
  exact aB (by rw [bH,if_neg h8,if_pos h3]) (Below.refl _ _)
 cases hw:aP 65536000 l with
 | false =>
  have HW:=hid hw;clear hat hw
  go_enter Tryz.func146,Tryz.ntmps146
  go_wp2_with (go_at_call 209;refine (kJ _ _ _ l _ hS0).mono ?_;rintro e w1 ⟨rfl,hb⟩;rw [HW.out])
  go_returns
  exact aB (by rw [bH,if_neg h8,if_neg h3,if_pos HW.out]) hb
 | true =>
  obtain ⟨b,off,rfl,hC⟩:=hat (by intro h;subst h;simp at h3);have HW:=hid hw;clear hat hw
  go_enter Tryz.func146,Tryz.ntmps146
  go_wp2_with (go_at_call 209;refine (kJ _ _ _ l _ hS0).mono ?_;rintro e w1 ⟨rfl,hb⟩;rw [HW.out])
  have hC1:=hC.below hb
  go_loopw [18] (fun i wr=>∃ k:Nat,k≤l.length∧i = .int .i64 k∧um l k∧Below w.heap.size w wr∧Below w1.heap.size w1 wr) (fun i _=>l.length-(intOf i).toNat)
  case atStart=>exact ⟨0,Nat.zero_le _,rfl,DJ _,hb,Below.refl _ _⟩
  case round =>
   obtain ⟨k,hk,rfl,hno,hB,hB1⟩:=hrel;obtain ⟨wo,rfl⟩:∃ wo:World,wo=wr:=⟨_,rfl⟩;have HN:=hid hno;have hCo:=hC1.below hB1;have hbo:=hCo.lt;have hC1H:=hid hC1;clear hno hC hC1
   by_cases hlt:k<l.length
   ·have hx := hCo.x k hlt;have hy:=hCo.y k hlt;have hj:(k+1) % l.length<l.length:=Nat.mod_lt _ (by omega);have hji:((k:Int)+1) % (l.length:Int)<(l.length:Int):=Int.emod_lt_of_pos _ (by omega);have hj0:0≤((k:Int)+1) % (l.length:Int):=Int.emod_nonneg _ (by omega);have hx2:=hCo.x _ hj;have hy2:=hCo.y _ hj;have HC:=hid hCo;clear hCo;go_wp2
    go_loopw [33] (fun i wr=>∃ m:Nat,m≤l.length∧i = .int .i64 m∧wV l k m∧Below (wo.heap.size+2) ((wo.alloc (O7 l k)).alloc (O7 l ((k+1) % l.length))) wr) (fun i _=>l.length-(intOf i).toNat)
    case atStart=>exact ⟨0,Nat.zero_le _,rfl,Db _ _,Below.refl _ _⟩
    case round =>
     obtain ⟨m,hm,rfl,hcol,hBi⟩:=hrel;have HCo:=hid hcol;clear hcol;obtain ⟨wi,rfl⟩:∃ wi:World,wi=wr:=⟨_,rfl⟩;have hsz:wo.heap.size+2≤wi.heap.size:=by simpa using hBi.size
     have hBwi:Below w.heap.size w wi:=hB.trans ((((Below.refl _ _).alloc (Nat.le_refl _) _).alloc (by simp) _).trans (hBi.mono (by omega)) |>.mono hB.size);have hB1wi:Below w1.heap.size w1 wi:=hB1.trans ((((Below.refl _ _).alloc (Nat.le_refl _) _).alloc (by simp) _).trans (hBi.mono (by omega)) |>.mono hB1.size);have hCi:=hC1H.out.below hB1wi
     by_cases hlt2:m<l.length
     ·have hx3 := hCi.x m hlt2;have hy3:=hCi.y m hlt2;have hz1:wo.heap.size<wi.heap.size:=by omega
      have hz2:wo.heap.size+1<wi.heap.size:=by omega
      have gx1:wi.cell? ⟨wo.heap.size,0,none⟩=some (.int .i64 (px l k)):=((dF hBi).1 _ _ (by omega)).trans (by go_simp);have gy1:wi.cell? ⟨wo.heap.size,1,none⟩=some (.int .i64 (py l k)):=((dF hBi).1 _ _ (by omega)).trans (by go_simp);have gx2:wi.cell? ⟨wo.heap.size+1,0,none⟩=some (.int .i64 (px l ((k+1) % l.length))):=((dF hBi).1 _ _ (by omega)).trans (by go_simp);have gy2:wi.cell? ⟨wo.heap.size+1,1,none⟩=some (.int .i64 (py l ((k+1) % l.length))):=((dF hBi).1 _ _ (by omega)).trans (by go_simp)
      by_cases hi1:m=k
      ·have heb : iN l k m = false := lZ (.inl hi1);have hne:(((m:Int) != (k:Int))=false):=by simp [hi1]
       have HE:=hid heb;have H1:=hid hi1;clear heb hi1;go_wp2;go_roundw
       case rel=>exact ⟨m+1,hlt2,by go_num,ql HCo.out HE.out,hBi.trans (((Below.refl _ _).alloc hsz _))⟩
       case measure=>simp [intOf];omega
      by_cases hi2:m=(k+1) % l.length
      ·have heb : iN l k m = false := lZ (.inr (.inl hi2));have hne:(((m:Int) != (k:Int))=true):=by simp;omega
       have hne2:(((m:Int) != ((k:Int)+1) % (l.length:Int))=false):=by rw [hi2];simp
       have HE:=hid heb;have H1:=hid hi1;have H2:=hid hi2;clear heb hi1 hi2;go_wp2;go_roundw
       case rel=>exact ⟨m+1,hlt2,by go_num,ql HCo.out HE.out,hBi.trans (((Below.refl _ _).alloc hsz _))⟩
       case measure=>simp [intOf];omega
      have hne:(((m:Int) != (k:Int))=true):=by simp;omega
      have hne2:(((m:Int) != ((k:Int)+1) % (l.length:Int))=true):=by rw [bne_iff_ne,show ((k:Int)+1) % (l.length:Int)=(((k+1) % l.length:Nat):Int) by simp];omega
      have H1:=hid hi1;have H2:=hid hi2;clear hi1 hi2;have hw1:=hid (aQ HW.out hlt);have hw2:=hid (aQ HW.out hj);have hw3:=hid (aQ HW.out hlt2)
      go_wp2_with (go_at_call 156;refine (xQ _ _ _ _ _ _ hw1.out hw2.out hw3.out _).mono ?_;rintro e w2 ⟨rfl,hb2⟩)
      ·go_returns
       exact aB (FD (by omega) (by omega) HW.out hlt hlt2 (FN H1.out H2.out (by assumption))).symm (hBwi.trans ((((Below.refl _ _).alloc (Nat.le_refl _) _).trans (hb2.mono (by simp))).mono hBwi.size))
      ·go_roundw
       case rel=>exact ⟨m+1,hlt2,by go_num,ql HCo.out (lZ (.inr (.inr (by show (0:Int)<iZ _ _ _ _ _ _;omega)))),hBi.trans ((((Below.refl _ _).alloc hsz _)).trans (hb2.mono (by simp;omega)))⟩
       case measure=>simp [intOf];omega
     ·have hge : l.length ≤ m := by omega
      go_wp2;go_roundw
      case rel=>exact ⟨k+1,hlt,by go_num,Ee HN.out (by have:=HCo.out;rwa [show m=l.length by omega] at this),hBwi,hB1wi⟩
      case measure=>simp [intOf];omega
   ·clear hCo;have hge:l.length≤k:=by omega
    go_wp2
    go_returns
    exact aB (Ad (by omega) (by omega) HW.out (by have:=HN.out;rwa [show k=l.length by omega] at this)).symm hB
structure iU (w : World) (g : Nat) (o : Nat → Int) : Prop where
 cell:∀ j,j<8→w.cell? ⟨g,j,none⟩=some (.int .u32 (o j))
 free:∀ j,w.frozen? ⟨g,j,none⟩=false
theorem iU.set {g k:Nat} {o o':Nat→Int} {v:Int} (h:iU w g o) (hk:k<8) (hv:o' k=v) (ho:∀ j,j≠k→o' j=o j):iU (w.setCell ⟨g,k,none⟩ (.int .u32 v)) g o':=by
 refine ⟨fun j hj=>?_,fun j=>by rw [World.frozen?_setCell];exact h.free j⟩
 by_cases e:j=k
 ·subst e;rw [World.cell?_setCell_same _ _ _ (h.cell j hj),hv]
 ·rw [World.cell?_setCell_other _ _ _ _ (by simp only [ne_eq,Addr.mk.injEq,true_and,and_true];exact fun h=>e h.symm),h.cell j hj,ho j e]
theorem iU.below {B g:Nat} {o:Nat→Int} (h:iU w g o) (hb:Below B w w') (hg:g<B):iU w' g o :=
 ⟨fun j hj=>((dF hb).1 _ _ hg).trans (h.cell j hj),fun j=>((dF hb).2 _ _ hg).trans (h.free j)⟩
theorem iU.far {g:Nat} {o:Nat→Int} (h:iU w g o) {p:Addr} (hp:p.block≠g) (u:Value):iU (w.setCell p u) g o :=
 ⟨fun j hj=>by rw [World.cell?_setCell_other _ _ _ _ (by rintro rfl;exact hp rfl)];exact h.cell j hj,fun j=>by rw [World.frozen?_setCell];exact h.free j⟩
theorem iU.drew {g:Nat} {o:Nat→Int} (h:iU w g o):iU w.drew g o:=⟨h.cell,h.free⟩
theorem iU.drewN {g:Nat} {o:Nat→Int} (h:iU w g o) (n:Nat):iU (w.drewN n) g o:=⟨h.cell,h.free⟩
theorem iU.congr {g:Nat} {o o':Nat→Int} (h:iU w g o) (ho:∀ j,j<8→o j=o' j):iU w g o':=⟨fun j hj=>by rw [h.cell j hj,ho j hj],h.free⟩
theorem lt_of_cell {g i:Nat} {v:Value} (h:w.cell? ⟨g,i,none⟩=some v):g<w.heap.size:=by
 rcases Nat.lt_or_ge g w.heap.size with h1 | h1
 ·exact h1
 ·have : w.heap[g]? = none := Array.getElem?_eq_none h1;simp [World.cell?,this] at h
theorem iU.lt {g:Nat} {o:Nat→Int} (h:iU w g o):g<w.heap.size:=lt_of_cell (h.cell 0 (by omega))
theorem iU.all {g:Nat} {o:Nat→Int} (h:iU w g o) :
  w.cell? ⟨g,0,none⟩=some (.int .u32 (o 0))∧w.cell? ⟨g,1,none⟩=some (.int .u32 (o 1))∧w.cell? ⟨g,2,none⟩=some (.int .u32 (o 2))∧w.cell? ⟨g,3,none⟩=some (.int .u32 (o 3)) ∧
  w.cell? ⟨g,4,none⟩=some (.int .u32 (o 4))∧w.cell? ⟨g,5,none⟩=some (.int .u32 (o 5))∧w.cell? ⟨g,6,none⟩=some (.int .u32 (o 6))∧w.cell? ⟨g,7,none⟩=some (.int .u32 (o 7)) :=
 ⟨h.cell 0 (by omega),h.cell 1 (by omega),h.cell 2 (by omega),h.cell 3 (by omega),h.cell 4 (by omega),h.cell 5 (by omega),h.cell 6 (by omega),h.cell 7 (by omega)⟩
theorem iU.alloc {g:Nat} {o:Nat→Int} (h:iU w g o) (hg:g<w.heap.size) (x:Obj):iU (w.alloc x) g o :=
 h.below ((Below.refl _ _).alloc (Nat.le_refl _) x) hg
theorem iU.here (w:World) (t:TypeId) (o:Nat→Int):iU (w.alloc (.cells #[.int .u32 (o 0),.int .u32 (o 1),.int .u32 (o 2),.int .u32 (o 3),.int .u32 (o 4),.int .u32 (o 5),.int .u32 (o 6),.int .u32 (o 7)] t)) w.heap.size o:=by
 refine ⟨fun j hj=>?_,fun j=>by go_simp⟩
 match j,hj with
 | 0,_ | 1,_ | 2,_ | 3,_ | 4,_ | 5,_ | 6,_ | 7,_=>go_simp
theorem below_drewN' {B:Nat} {a w:World} (h:Below B a w) (n:Nat):Below B a (w.drewN n):=⟨h.os,h.tape,h.output,h.size,h.block⟩

def part (f g:Nat→Int) (k j:Nat):Int:=if j<k then f j else g j



def Ji (a b:Int):Int:=if a<b then -1 else if a=b then 0 else 1

theorem keepCell {w' w'':World} {b o:Nat} {v:Value} (hb:Below w'.heap.size w' w'') (h:w'.cell? ⟨b,o,none⟩=some v):w''.cell? ⟨b,o,none⟩=some v:=((dF hb).1 _ _ (lt_of_cell h)).trans h
theorem aj {w w' w'':World} (hb:Below w'.heap.size w' w'') (h:Below w.heap.size w w'):Below w.heap.size w w'':=h.trans (hb.mono h.size)

def There (w:World) (g n:Nat):Prop:=∀ j,j<n→(∃ v,w.cell? ⟨g,j,none⟩=some v)∧w.frozen? ⟨g,j,none⟩=false
theorem There.below {g n:Nat} (hb:Below w.heap.size w w') (h:There w g n):There w' g n:=fun j hj=>by
 obtain ⟨⟨v,hv⟩,hf⟩:=h j hj;exact ⟨⟨v,keepCell hb hv⟩,((dF hb).2 _ _ (lt_of_cell hv)).trans hf⟩
theorem There.set {g n:Nat} (h:There w g n) (a:Addr) (u:Value):There (w.setCell a u) g n:=fun j hj=>by
 obtain ⟨⟨v,hv⟩,hf⟩:=h j hj;obtain ⟨v',hv'⟩:=cell?_setCell_some (w:=w) (p:=a) (x:=u) hv;exact ⟨⟨v',hv'⟩,by rw [World.frozen?_setCell];exact hf⟩
theorem There.get2 {g:Nat} (h:There w g 2):∃ z0 z1:Value,w.cell? ⟨g,0,none⟩=some z0∧w.cell? ⟨g,1,none⟩=some z1∧w.frozen? ⟨g,0,none⟩=false∧w.frozen? ⟨g,1,none⟩=false:=by
 obtain ⟨⟨z0,h0⟩,f0⟩:=h 0 (by omega);obtain ⟨⟨z1,h1⟩,f1⟩:=h 1 (by omega);exact ⟨z0,z1,h0,h1,f0,f1⟩
theorem aY {b o g i:Nat} {u v:Value} (hne:g≠b) (h:w.cell? ⟨b,o,none⟩=some v):(w.setCell ⟨g,i,none⟩ u).cell? ⟨b,o,none⟩=some v:=by
 rw [World.cell?_setCell_other _ _ _ _ (by intro e;exact hne (congrArg Addr.block e))];exact h
theorem lW {b o g:Nat} {u0 u1 v:Value} (hne:g≠b) (h:w.cell? ⟨b,o,none⟩=some v):((w.setCell ⟨g,0,none⟩ u0).setCell ⟨g,1,none⟩ u1).cell? ⟨b,o,none⟩=some v:=aY hne (aY hne h)

end
end Go.Proofs.YtokgmcomgflloaaGreat
