/- Parts of a proof: contracts and laws. -/
import Derived.Test.YtokgmcomgflloaaGreatQX27
import Derived.Test.YtokgmcomgflloaaGreatQXLK
import Derived.Test.YtokgmcomgflloaaGreatQX01
import Derived.Test.YtokgmcomgflloaaGreatQX00
set_option maxRecDepth 100000
set_option maxHeartbeats 16000000
namespace Go.Proofs.YtokgmcomgflloaaGreat
section
set_option linter.unusedVariables false
set_option linter.unusedSimpArgs false
open Go.RowKit
variable {w0 w w':World}
theorem rE (b1 b2 k1 k2:Nat) (x1 x2 x3 y1 y2 y3:Int) (W:World) (h0:W.cell? ⟨b1,0,none⟩=some (.int .i64 x1)) (h1:W.cell? ⟨b1,1,none⟩=some (.int .i64 x2)) (h2:W.cell? ⟨b1,2,none⟩=some (.int .i64 x3)) (g0:W.cell? ⟨b2,0,none⟩=some (.int .i64 y1)) (g1:W.cell? ⟨b2,1,none⟩=some (.int .i64 y2)) (g2:W.cell? ⟨b2,2,none⟩=some (.int .i64 y3)) :
  Calls Tryz.prog 133 #[.slice (some ⟨b1,0,none⟩) 3 k1,.slice (some ⟨b2,0,none⟩) 3 k2] W (dw (.int .i64 (wu (lK x1 y1) (lK x2 y2) (lK x3 y3))) W):=by
 have HC1:=hid (iF x1 y1);have HC2:=hid (iF x2 y2);have HC3:=hid (iF x3 y3);have HZ:Hid (wu (lK x1 y1) (lK x2 y2) (lK x3 y3)=if lK x1 y1≠0 then lK x1 y1 else if lK x2 y2≠0 then lK x2 y2 else lK x3 y3):=rfl;generalize wu (lK x1 y1) (lK x2 y2) (lK x3 y3)=q at *
 generalize lK x1 y1=z1 at *
 generalize lK x2 y2=z2 at *
 generalize lK x3 y3=z3 at *
 have hbl:=lt_of_cell h0;have hgl:=lt_of_cell g0;have HH:=hid (And.intro h0 (And.intro h1 (And.intro h2 (And.intro g0 (And.intro g1 g2)))));clear h0 h1 h2 g0 g1 g2
 go_enter Tryz.func133,Tryz.ntmps133
 go_wp2
 go_loopw [11] (fun j wr=>∃ k:Nat,k≤3∧j = .int .i64 k∧(1≤k→z1=0)∧(2≤k→z2=0)∧(3≤k→z3=0)∧Below W.heap.size W wr) (fun j _=>3-(intOf j).toNat)
 case atStart=>exact ⟨0,by omega,rfl,by omega,by omega,by omega,Below.refl _ _⟩
 case round =>
  obtain ⟨k,hk,rfl,hx,hy,hz,hB⟩:=hrel;obtain ⟨wo,rfl⟩:∃ wo:World,wo=wr:=⟨_,rfl⟩;obtain ⟨h0,h1,h2,g0,g1,g2⟩:=HH.out;replace h0:=keepCell hB h0;replace h1:=keepCell hB h1;replace h2:=keepCell hB h2;replace g0:=keepCell hB g0;replace g1:=keepCell hB g1;replace g2:=keepCell hB g2;have tri:k=0∨k=1∨k=2∨k=3:=by omega
  rcases tri with rfl | rfl | rfl | rfl
  ·clear hx hy hz
   go_wp2_with fail
   refine (HC1.out _).mono ?_;rintro e w1 ⟨rfl,hb⟩;have hB1:=ah hb hB;clear hb hB h0 h1 h2 g0 g1 g2
   by_cases hq:z1=0
   ·subst hq;go_wp2;go_roundw
    case rel=>exact ⟨1,by omega,rfl,fun _=>by simp,by omega,by omega,hB1⟩
    case measure=>simp [intOf]
   ·have hne : (z1 != 0) = true := by simp [hq]
    have HR:Hid (q=z1):=by show _=_;rw [HZ.out,if_pos hq]
    clear hq;go_wp2
    go_returns
    exact aj HR.out.symm hB1
  ·obtain rfl := hx (by omega);clear hx hy hz
   go_wp2_with fail
   refine (HC2.out _).mono ?_;rintro e w1 ⟨rfl,hb⟩;have hB1:=ah hb hB;clear hb hB h0 h1 h2 g0 g1 g2
   by_cases hq:z2=0
   ·subst hq;go_wp2;go_roundw
    case rel=>exact ⟨2,by omega,rfl,fun _=>by simp,fun _=>by simp,by omega,hB1⟩
    case measure=>simp [intOf]
   ·have hne : (z2 != 0) = true := by simp [hq]
    have HR:Hid (q=z2):=by show _=_;rw [HZ.out,if_neg (by simp),if_pos hq]
    clear hq;go_wp2
    go_returns
    exact aj HR.out.symm hB1
  ·obtain rfl := hx (by omega);obtain rfl:=hy (by omega);clear hx hy hz
   go_wp2_with fail
   refine (HC3.out _).mono ?_;rintro e w1 ⟨rfl,hb⟩;have hB1:=ah hb hB;clear hb hB h0 h1 h2 g0 g1 g2
   by_cases hq:z3=0
   ·subst hq;go_wp2;go_roundw
    case rel=>exact ⟨3,by omega,rfl,fun _=>by simp,fun _=>by simp,fun _=>by simp,hB1⟩
    case measure=>simp [intOf]
   ·have hne : (z3 != 0) = true := by simp [hq]
    have HR:Hid (q=z3):=by show _=_;rw [HZ.out,if_neg (by simp),if_neg (by simp)]
    clear hq;go_wp2
    go_returns
    exact aj HR.out.symm hB1
  ·obtain rfl := hx (by omega);obtain rfl:=hy (by omega);obtain rfl:=hz (by omega);have HR:Hid (q=0):=by show _=_;rw [HZ.out];simp
   clear hx hy hz h0 h1 h2 g0 g1 g2;go_wp2
   go_returns
   exact aj HR.out.symm hB
theorem dS {g o o':Nat} {v u:Value} (h:w.cell? ⟨g,o',none⟩=some u) (hne:o≠o'):(w.setCell ⟨g,o,none⟩ v).cell? ⟨g,o',none⟩=some u:=by
 have n1:¬ o=o':=hne;have n2:¬ o'=o:=fun e=>hne e.symm
 go_simp
theorem jh {g o:Nat} {v u:Value} (h:w.cell? ⟨g,o,none⟩=some u):(w.setCell ⟨g,o,none⟩ v).cell? ⟨g,o,none⟩=some v:=by go_simp
theorem dL {b:Nat} (h:∀ j,w.frozen? ⟨b,j,none⟩=false) (p:Addr) (v:Value):∀ j,(w.setCell p v).frozen? ⟨b,j,none⟩=false:=fun j=>by rw [World.frozen?_setCell];exact h j

structure Out (D : Nat → Prop) (w w' : World) : Prop where
 os:w'.os=w.os
 tape:w'.tape=w.tape
 output:w'.output=w.output
 size:w.heap.size≤w'.heap.size
 block:∀ k,k<w.heap.size→¬ D k→w'.heap[k]? = w.heap[k]?
theorem Out.refl (D:Nat→Prop) (w:World):Out D w w:=⟨rfl,rfl,rfl,Nat.le_refl _,fun _ _ _=>rfl⟩
theorem Out.trans {D D':Nat→Prop} {a b c:World} (h:Out D a b) (k:Out D' b c) (hd:∀ i,i<a.heap.size→D' i→D i):Out D a c :=
 ⟨k.os.trans h.os,k.tape.trans h.tape,k.output.trans h.output,Nat.le_trans h.size k.size,fun i hi hn=>(k.block i (Nat.lt_of_lt_of_le hi h.size) (fun q=>hn (hd i hi q))).trans (h.block i hi hn)⟩
theorem Out.mono {D D':Nat→Prop} {a b:World} (h:Out D a b) (hd:∀ i,i<a.heap.size→D i→D' i):Out D' a b:=⟨h.os,h.tape,h.output,h.size,fun i hi hn=>h.block i hi (fun q=>hn (hd i hi q))⟩
theorem Out.drew {D:Nat→Prop} {a b:World} (h:Out D a b):Out D a b.drew:=⟨h.os,h.tape,h.output,h.size,h.block⟩
theorem Out.below {D:Nat→Prop} {a b:World} (h:Below a.heap.size a b):Out D a b:=⟨h.os,h.tape,h.output,h.size,fun k hk _=>h.block k hk⟩
theorem Out.setCell {D:Nat→Prop} {a b:World} (h:Out D a b) {p:Addr} (hp:a.heap.size≤p.block∨D p.block) (u:Value):Out D a (b.setCell p u) :=
 ⟨h.os,h.tape,h.output,by rw [World.size_setCell];exact h.size,fun k hk hn=>(Below.heap_setCell b p u k (fun e=>hp.elim (fun q=>by omega) (fun q=>hn (e ▸ q)))).trans (h.block k hk hn)⟩
theorem Out.cell {D:Nat→Prop} {a b:World} (h:Out D a b) {g o:Nat} {v:Value} (hc:a.cell? ⟨g,o,none⟩=some v) (hn:¬ D g):b.cell? ⟨g,o,none⟩=some v:=(World.cell?_of_block (h.block _ (lt_of_cell hc) hn)).trans hc
def uD (mv:Nat→Bool) (f:Nat→Nat) (p:Nat × Nat):Nat→Nat:=if mv p.1=true∧mv p.2=true then (fun j=>if f j=max (f p.1) (f p.2) then min (f p.1) (f p.2) else f j) else f
def iC (mv:Nat→Bool) (l:List (Nat × Nat)):Nat→Nat:=l.foldl (uD mv) id
theorem pG (mv:Nat→Bool) (l:List (Nat × Nat)) (p:Nat × Nat):iC mv (l ++ [p])=uD mv (iC mv l) p:=by unfold iC;rw [List.foldl_append];rfl

theorem Bj {mv:Nat→Bool} {P:(Nat→Nat)→Prop} (h0:P id):∀ l:List (Nat × Nat),(∀ f p,p ∈ l→P f→P (uD mv f p))→P (iC mv l):=by
 have go:∀ (l:List (Nat × Nat)) (f:Nat→Nat),P f→(∀ f p,p ∈ l→P f→P (uD mv f p))→P (l.foldl (uD mv) f):=by
  intro l
  induction l with
  | nil=>intro f hf _;exact hf
  | cons p r ih=>intro f hf h;exact ih _ (h f p (List.mem_cons_self ..) hf) (fun f q hq=>h f q (List.mem_cons_of_mem _ hq))
 exact fun l h=>go l id h0 h

structure wC (f : Nat → Nat) : Prop where
 le:∀ j,f j≤j
 idem:∀ j,f (f j)=f j
theorem GZ {mv:Nat→Bool} {f:Nat→Nat} (h:wC f) (p:Nat × Nat):wC (uD mv f p):=by
 unfold uD
 split
 ·refine ⟨fun j => ?_, fun j => ?_⟩
  ·have := h.le j;show (if f j=_ then _ else _)≤j
   split <;> omega
  ·show (if f (if f j = _ then _ else _) = _ then _ else _) = (if f j = _ then _ else _);have i1:=h.idem p.1;have i2:=h.idem p.2;have i3:=h.idem j
   by_cases e:f j=max (f p.1) (f p.2)
   ·rw [if_pos e]
    have:f (min (f p.1) (f p.2))=min (f p.1) (f p.2):=by
     rcases Nat.le_total (f p.1) (f p.2) with q | q
     ·rw [Nat.min_eq_left q];exact i1
     ·rw [Nat.min_eq_right q];exact i2
    rw [this]
    split <;> omega
   ·rw [if_neg e,i3,if_neg e]
 ·exact h
theorem AQ (mv:Nat→Bool) (l:List (Nat × Nat)):wC (iC mv l):=Bj ⟨fun j=>Nat.le_refl j,fun _=>rfl⟩ l (fun f p _ h=>GZ h p)


theorem Dr {mv:Nat→Bool} {l:List (Nat × Nat)} {p:Nat × Nat} (hp:p ∈ l) (h1:mv p.1=true) (h2:mv p.2=true):iC mv l p.1=iC mv l p.2:=by
 have keep:∀ (l:List (Nat × Nat)) (f:Nat→Nat),f p.1=f p.2→l.foldl (uD mv) f p.1=l.foldl (uD mv) f p.2:=by
  intro l
  induction l with
  | nil=>intro f hf;exact hf
  | cons q r ih =>
   intro f hf;refine ih _ ?_;unfold uD
   split
   ·show (if f p.1 = _ then _ else _) = (if f p.2 = _ then _ else _);rw [hf]
   ·exact hf
 have go:∀ (l:List (Nat × Nat)) (f:Nat→Nat),p ∈ l→l.foldl (uD mv) f p.1=l.foldl (uD mv) f p.2:=by
  intro l
  induction l with
  | nil=>intro f h;cases h
  | cons q r ih =>
   intro f h
   rcases List.mem_cons.1 h with e | e
   ·subst e;refine keep r _ ?_;unfold uD;rw [if_pos ⟨h1,h2⟩];show (if f p.1=_ then _ else _)=(if f p.2=_ then _ else _)
    split <;> split <;> omega
   ·exact ih _ e
 exact go l id hp

theorem En {mv:Nat→Bool} {l:List (Nat × Nat)} {P:Nat→Prop} (h:∀ p ∈ l,mv p.1=true→mv p.2=true→(P p.1↔P p.2)):∀ j,P (iC mv l j)↔P j:=by
 refine Bj (P:=fun f=>∀ j,P (f j)↔P j) (fun j=>Iff.rfl) l (fun f p hp ih j=>?_);unfold uD
 split
 ·rename_i hm;have e1:=ih p.1;have e2:=ih p.2;have e3:=h p hp hm.1 hm.2;show P (if f j=_ then _ else _)↔P j
  split
  ·rename_i e;rw [← ih j,e]
   rcases Nat.le_total (f p.1) (f p.2) with q | q
   ·rw [Nat.min_eq_left q,Nat.max_eq_right q,e1,e2];exact e3
   ·rw [Nat.min_eq_right q,Nat.max_eq_left q,e1,e2];exact e3.symm
  ·exact ih j
 ·exact ih j

def gU (up:List Nat) (i:Nat):Nat:=up.getD i i
structure yL (up : List Nat) (f : Nat → Nat) : Prop where
 le:∀ i,gU up i≤i
 fix:∀ i,gU up i=i→f i=i
 step:∀ i,f (gU up i)=f i
theorem fI {up:List Nat} {i:Nat} (hi:i<up.length) (v j:Nat):gU (up.set i v) j=if j=i then v else gU up j:=by
 unfold gU;rw [List.getD_eq_getElem?_getD,List.getD_eq_getElem?_getD]
 split
 ·rename_i e;subst e;rw [List.getElem?_set_self hi];rfl
 ·rename_i e;rw [List.getElem?_set_ne (fun q=>e q.symm)]
theorem yL.new (n:Nat):yL (List.range n) id:=by
 have e:∀ i,gU (List.range n) i=i:=fun i=>by
  unfold gU;rw [List.getD_eq_getElem?_getD]
  rcases Nat.lt_or_ge i n with h | h
  ·rw [List.getElem?_range h];rfl
  ·rw [List.getElem?_eq_none (by simpa using h)];rfl
 exact ⟨fun i=>Nat.le_of_eq (e i),fun i _=>rfl,fun i=>e i⟩
theorem yL.ok {up:List Nat} {f:Nat→Nat} (h:yL up f):wC f∧∀ j,gU up (f j)=f j:=by
 have go:∀ n j,j<n→f j≤j∧gU up (f j)=f j∧f (f j)=f j:=by
  intro n
  induction n with
  | zero=>intro j hj;omega
  | succ n ih =>
   intro j hj;have hl:=h.le j
   by_cases e:gU up j=j
   ·have := h.fix j e;rw [this];exact ⟨Nat.le_refl _,e,this⟩
   ·obtain ⟨a, b, c⟩ := ih (gU up j) (by omega);rw [h.step j] at a b c;exact ⟨by omega,b,c⟩
 exact ⟨⟨fun j=>(go (j+1) j (by omega)).1,fun j=>(go (j+1) j (by omega)).2.2⟩,fun j=>(go (j+1) j (by omega)).2.1⟩

theorem yL.halve {up:List Nat} {f:Nat→Nat} (h:yL up f) {i:Nat} (hi:i<up.length):yL (up.set i (gU up (gU up i))) f:=by
 have a:=h.le i;have b:=h.le (gU up i);refine ⟨fun j=>?_,fun j e=>?_,fun j=>?_⟩
 ·rw [fI hi]; split
  ·omega
  ·exact h.le j
 ·rw [fI hi] at e
  split at e
  ·rename_i q;subst q;exact h.fix j (by omega)
  ·exact h.fix j e
 ·rw [fI hi]; split
  ·rename_i q;subst q;rw [h.step,h.step]
  ·exact h.step j

theorem yL.join {up:List Nat} {f:Nat→Nat} (h:yL up f) {mv:Nat→Bool} {p:Nat × Nat} (hp:mv p.1=true∧mv p.2=true) (h1:p.1<up.length) (h2:p.2<up.length):yL (up.set (max (f p.1) (f p.2)) (min (f p.1) (f p.2))) (uD mv f p):=by
 obtain ⟨hk,hr⟩:=h.ok;have l1:=hk.le p.1;have l2:=hk.le p.2;have i1:=hk.idem p.1;have i2:=hk.idem p.2;have hi:max (f p.1) (f p.2)<up.length:=by omega
 have fM:f (max (f p.1) (f p.2))=max (f p.1) (f p.2):=by
  rcases Nat.le_total (f p.1) (f p.2) with q | q
  ·rw [Nat.max_eq_right q];exact i2
  ·rw [Nat.max_eq_left q];exact i1
 have fm:f (min (f p.1) (f p.2))=min (f p.1) (f p.2):=by
  rcases Nat.le_total (f p.1) (f p.2) with q | q
  ·rw [Nat.min_eq_left q];exact i1
  ·rw [Nat.min_eq_right q];exact i2
 have ej:uD mv f p=fun j=>if f j=max (f p.1) (f p.2) then min (f p.1) (f p.2) else f j:=by unfold uD;rw [if_pos hp]
 generalize hM:max (f p.1) (f p.2)=M at *
 generalize hm:min (f p.1) (f p.2)=m at *
 have hle:m≤M:=by omega
 rw [ej];refine ⟨fun j=>?_,fun j e=>?_,fun j=>?_⟩
 ·rw [fI hi]; split
  ·omega
  ·exact h.le j
 ·rw [fI hi] at e;show (if f j=M then m else f j)=j
  split at e
  ·rename_i q;subst q;rw [fM,if_pos rfl];exact e
  ·rename_i q;have:=h.fix j e;rw [this,if_neg q]
 ·rw [fI hi];show (if f (if j=M then m else gU up j)=M then m else f (if j=M then m else gU up j))=(if f j=M then m else f j)
  by_cases q:j=M
  ·subst q;rw [if_pos rfl,fm,fM,if_pos rfl]
   split <;> omega
  ·rw [if_neg q,h.step]

theorem yL.put {up:List Nat} {f:Nat→Nat} (h:yL up f) {i:Nat} (hi:i<up.length):yL (up.set i (f i)) f:=by
 obtain ⟨hk,hr⟩:=h.ok;refine ⟨fun j=>?_,fun j e=>?_,fun j=>?_⟩
 ·rw [fI hi]; split
  ·rename_i q;subst q;exact hk.le j
  ·exact h.le j
 ·rw [fI hi] at e
  split at e
  ·rename_i q;subst q;exact e
  ·exact h.fix j e
 ·rw [fI hi]; split
  ·rename_i q;subst q;exact hk.idem j
  ·exact h.step j

def xX (mv:Nat→Bool) (o:Nat→Nat) (p:Nat × Nat):Nat→Nat:=if mv p.1=true∧mv p.2=true then (fun j=>if j=p.1∨j=p.2 then min (o p.1) (o p.2) else o j) else o
def zH (mv:Nat→Bool) (l:List (Nat × Nat)) (o:Nat→Nat):Nat→Nat:=l.foldl (xX mv) o
def ni (mv : Nat → Bool) (l : List (Nat × Nat)) : Nat → Nat → Nat
 | 0=>id
 | n+1=>zH mv l (ni mv l n)
structure zx (f o : Nat → Nat) : Prop where
 le:∀ j,o j≤j
 ge:∀ j,f j≤o j
 same:∀ j,f (o j)=f j
theorem Ea {mv:Nat→Bool} {f o:Nat→Nat} (h:zx f o) {p:Nat × Nat} (hf:mv p.1=true→mv p.2=true→f p.1=f p.2) (hk:wC f):zx f (xX mv o p)∧∀ j,xX mv o p j≤o j:=by
 unfold xX
 split
 ·rename_i hm;have e:=hf hm.1 hm.2;have a1:=h.le p.1;have a2:=h.le p.2;have b1:=h.ge p.1;have b2:=h.ge p.2;have c1:=h.same p.1;have c2:=h.same p.2
  have hq:∀ j,j=p.1∨j=p.2→min (o p.1) (o p.2)≤o j∧f j≤min (o p.1) (o p.2)∧f (min (o p.1) (o p.2))=f j:=by
   intro j hj
   have e2:f (min (o p.1) (o p.2))=f p.1:=by
    rcases Nat.le_total (o p.1) (o p.2) with q | q
    ·rw [Nat.min_eq_left q];exact c1
    ·rw [Nat.min_eq_right q];rw [c2,e]
   rcases hj with rfl | rfl
   ·exact ⟨by omega,by omega,e2⟩
   ·exact ⟨by omega,by omega,by rw [e2,e]⟩
  refine ⟨⟨fun j=>?_,fun j=>?_,fun j=>?_⟩,fun j=>?_⟩
  ·show (if _ then _ else _) ≤ j
   split
   ·rename_i q;exact Nat.le_trans (hq j q).1 (h.le j)
   ·exact h.le j
  ·show f j ≤ (if _ then _ else _)
   split
   ·rename_i q;exact (hq j q).2.1
   ·exact h.ge j
  ·show f (if _ then _ else _) = f j
   split
   ·rename_i q;exact (hq j q).2.2
   ·exact h.same j
  ·show (if _ then _ else _) ≤ o j
   split
   ·rename_i q;exact (hq j q).1
   ·exact Nat.le_refl _
 ·exact ⟨h,fun j=>Nat.le_refl _⟩
theorem zB {mv:Nat→Bool} {f:Nat→Nat} (hk:wC f):∀ (l:List (Nat × Nat)),(∀ p ∈ l,mv p.1=true→mv p.2=true→f p.1=f p.2)→∀ o,zx f o→zx f (zH mv l o)∧∀ j,zH mv l o j≤o j:=by
 intro l
 induction l with
 | nil=>intro _ o h;exact ⟨h,fun j=>Nat.le_refl _⟩
 | cons p r ih =>
  intro hl o h;obtain ⟨a,b⟩:=Ea h (hl p (List.mem_cons_self ..)) hk;obtain ⟨c,d⟩:=ih (fun q hq=>hl q (List.mem_cons_of_mem _ hq)) _ a;exact ⟨c,fun j=>Nat.le_trans (d j) (b j)⟩

theorem Cb {mv:Nat→Bool} {f:Nat→Nat} (hk:wC f):∀ (l:List (Nat × Nat)),(∀ p ∈ l,mv p.1=true→mv p.2=true→f p.1=f p.2)→∀ o,zx f o→∀ p ∈ l,mv p.1=true→mv p.2=true→(o p.1=f p.1∨o p.2=f p.2)→zH mv l o p.1=f p.1∧zH mv l o p.2=f p.2:=by
 intro l
 induction l with
 | nil=>intro _ o _ p hp;cases hp
 | cons q r ih =>
  intro hl o h p hp m1 m2 hr;obtain ⟨a,b⟩:=Ea h (hl q (List.mem_cons_self ..)) hk;have hl':∀ p ∈ r,mv p.1=true→mv p.2=true→f p.1=f p.2:=fun x hx=>hl x (List.mem_cons_of_mem _ hx)
  obtain ⟨c,d⟩:=zB hk r hl' _ a
  rcases List.mem_cons.1 hp with e | e
  ·subst e;have ef:=hl p (List.mem_cons_self ..) m1 m2
   have x1:xX mv o p p.1=f p.1:=by
    have g:=a.ge p.1;have g1:=h.ge p.1;have g2:=h.ge p.2;have:xX mv o p p.1=min (o p.1) (o p.2):=by unfold xX;rw [if_pos ⟨m1,m2⟩];show (if _ then _ else _)=_;rw [if_pos (.inl rfl)]
    omega
   have x2:xX mv o p p.2=f p.2:=by
    have g1:=h.ge p.1;have g2:=h.ge p.2;have:xX mv o p p.2=min (o p.1) (o p.2):=by unfold xX;rw [if_pos ⟨m1,m2⟩];show (if _ then _ else _)=_;rw [if_pos (.inr rfl)]
    omega
   have y1:=d p.1;have y2:=d p.2;have z1:=c.ge p.1;have z2:=c.ge p.2;exact ⟨by show zH mv r (xX mv o p) p.1=_;omega,by show zH mv r (xX mv o p) p.2=_;omega⟩
  ·refine ih hl' _ a p e m1 m2 ?_
   rcases hr with q' | q'
   ·have:=b p.1;have:=a.ge p.1;exact .inl (by omega)
   ·have:=b p.2;have:=a.ge p.2;exact .inr (by omega)

def eU (f o : Nat → Nat) : Nat → Nat
 | 0=>0
 | n+1=>eU f o n+(if o n=f n then 1 else 0)
theorem oF (f o : Nat → Nat) : ∀ n, eU f o n ≤ n
 | 0=>Nat.le_refl _
 | n+1=>by have:=oF f o n;unfold eU;split <;> omega
theorem kS {f o o' : Nat → Nat} (h : ∀ j, o j = f j → o' j = f j) : ∀ n, eU f o n ≤ eU f o' n
 | 0=>Nat.le_refl _
 | n+1=>by
  have:=kS h n
  unfold eU
  split
  ·rename_i e;rw [if_pos (h n e)];omega
  ·omega
theorem lH {f o o' : Nat → Nat} (h : ∀ j, o j = f j → o' j = f j) {k : Nat} (hk : o k ≠ f k) (hk' : o' k = f k) : ∀ n, k < n → eU f o n < eU f o' n
 | 0,hn=>by omega
 | n+1,hn=>by
  unfold eU
  rcases Nat.lt_or_ge k n with q | q
  ·have := lH h hk hk' n q
   split
   ·rename_i e;rw [if_pos (h n e)];omega
   ·omega
  ·have e : k = n := by omega
   subst e
   have:=kS h k
   rw [if_neg hk,if_pos hk']
   omega
theorem rM {f o : Nat → Nat} : ∀ n, eU f o n = n → ∀ j, j < n → o j = f j
 | 0,_,j,hj=>by omega
 | n+1,h,j,hj=>by
  unfold eU at h
  have:=oF f o n
  split at h
  ·rename_i e
   rcases Nat.lt_or_ge j n with q | q
   ·exact rM n (by omega) j q
   ·have : j = n := by omega
    subst this;exact e
  ·omega

theorem He {mv:Nat→Bool} {l:List (Nat × Nat)} {n:Nat} (hl:∀ p ∈ l,p.1<n∧p.2<n):∀ j,j<n→ni mv l n j=iC mv l j:=by
 obtain ⟨f,hf⟩:∃ f,f=iC mv l:=⟨_,rfl⟩;have hk:wC f:=by rw [hf];exact AQ mv l
 have hs:∀ p ∈ l,mv p.1=true→mv p.2=true→f p.1=f p.2:=fun p hp h1 h2=>by rw [hf];exact Dr hp h1 h2
 have h0:zx f id:=⟨fun j=>Nat.le_refl _,fun j=>hk.le j,fun j=>rfl⟩
 have hO:∀ m,zx f (ni mv l m):=fun m=>by
  induction m with
  | zero=>exact h0
  | succ m ih=>exact (zB hk l hs _ ih).1
 have hc:∀ m,min n (m+1)≤eU f (ni mv l m) n:=fun m=>by
  induction m with
  | zero =>
   rcases Nat.eq_zero_or_pos n with q | q
   ·omega
   ·have : eU f (fun j => j + 1) n < eU f (ni mv l 0) n := lH (k := 0) (fun j e => by have := hk.le j; omega) (by have := hk.le 0; omega) (by have := hk.le 0; show 0 = f 0; omega) n q;omega
  | succ m ih =>
   obtain ⟨a,b⟩:=zB hk l hs _ (hO m);have hm:∀ j,ni mv l m j=f j→ni mv l (m+1) j=f j:=fun j e=>by have:=b j;have:=a.ge j;show zH mv l (ni mv l m) j=f j;omega
   by_cases hall:∀ j,j<n→ni mv l m j=f j
   ·have h1:∀ k,k≤n→eU f (ni mv l m) k=k:=fun k=>by
     induction k with
     | zero=>intro _;rfl
     | succ k ihk=>intro hk';unfold eU;rw [ihk (by omega),if_pos (hall k (by omega))]
    have h2:=kS hm n;have:=h1 n (Nat.le_refl _);omega
   ·-- a link between a right one and one that is not
    have hlk:∃ p ∈ l,mv p.1=true∧mv p.2=true∧¬(ni mv l m p.1=f p.1↔ni mv l m p.2=f p.2):=by
     refine Classical.byContradiction fun hno=>hall fun j hj=>?_
     have hinv:=En (mv:=mv) (l:=l) (P:=fun j=>ni mv l m j=f j) (fun p hp m1 m2=>Classical.byContradiction fun hne=>hno ⟨p,hp,m1,m2,hne⟩) j;rw [← hf] at hinv;refine hinv.1 ?_;have i1:=hk.idem j;have g1:=(hO m).le (f j);have g2:=(hO m).ge (f j);show ni mv l m (f j)=f (f j);omega
    obtain ⟨p,hp,m1,m2,hne⟩:=hlk;obtain ⟨hp1,hp2⟩:=hl p hp;have hone:ni mv l m p.1=f p.1∨ni mv l m p.2=f p.2:=Classical.byContradiction fun hno=>hne ⟨fun e=>absurd (.inl e) hno,fun e=>absurd (.inr e) hno⟩
    obtain ⟨r1,r2⟩:=Cb hk l hs _ (hO m) p hp m1 m2 hone
    have h2:eU f (ni mv l m) n<eU f (ni mv l (m+1)) n:=by
     by_cases e1:ni mv l m p.1=f p.1
     ·have e2 : ni mv l m p.2 ≠ f p.2 := fun e2 => hne ⟨fun _ => e2, fun _ => e1⟩
      exact lH hm e2 r2 n hp2
     ·exact lH hm e1 r1 n hp1
    omega
 intro j hj;rw [← hf];have h1:=hc n;have h2:=oF f (ni mv l n) n;exact rM n (by omega) j hj
end
end Go.Proofs.YtokgmcomgflloaaGreat
