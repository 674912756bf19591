/- Parts of a proof: contracts and laws. -/
import Derived.Test.YtokgmcomgflloaaGreatQA16
import Derived.Test.YtokgmcomgflloaaGreatQA00
set_option maxRecDepth 100000
set_option maxHeartbeats 16000000
namespace Go.Proofs.YtokgmcomgflloaaGreat
section
set_option linter.unusedVariables false
set_option linter.unusedSimpArgs false
open Go.RowKit
variable {w0 w w':World}

structure Rw where
 t1:Int
 t2:Int
 ease:Int
 slip:Int
 lift:Int
 bound:Int
def Dz (Q:List QB) (x:Ct) (v1 v2:Int):Int:=OI (qB Q x.a) (qB Q x.b) x.px x.py x.px x.py v1 v2
def relE (Q:List QB) (x:Ct) (v1 v2:Int):Int:=Am (qB Q x.a) (qB Q x.b) x.px x.py x.px x.py v1 v2
def GK (x:Ct) (st:Int):Int:=dX (aX (max 0 (x.dep-512)) 8192) st
def zN (Q:List QB) (x:Ct) (st:Int):Int:=if Dz Q x x.nx x.ny < -32768 then bT (GK x st) (aX (max (qB Q x.a).bounce (qB Q x.b).bounce) (-(Dz Q x x.nx x.ny))) else GK x st
def yR (Q:List QB) (st:Int) (x:Ct):Rw:=⟨-x.ny,x.nx,relE Q x x.nx x.ny,relE Q x (-x.ny) x.nx,zN Q x st,min (qB Q x.a).rub (qB Q x.b).rub⟩
def sH (Q:List QB) (x:Ct) (j1 j2:Int):List QB:=pK Q x.a.toNat x.b.toNat x.px x.py x.px x.py j1 j2
def zW (Q:List QB) (x:Ct) (r:Rw):List QB:=sH Q x (bT (aX x.nx x.push) (aX r.t1 x.sli)) (bT (aX x.ny x.push) (aX r.t2 x.sli))
def tQ (Q:List QB) (x:Ct) (r:Rw):Int:=bD (dI x.sli (dX (Dz Q x r.t1 r.t2) r.slip)) (aX r.bound x.push)
def pU (Q:List QB) (x:Ct) (r:Rw):List QB × Ct :=
 if r.slip=0 then (Q,x) else (sH Q x (aX r.t1 (dI (tQ Q x r) x.sli)) (aX r.t2 (dI (tQ Q x r) x.sli)),{ x with sli:=tQ Q x r })
def tN (Q:List QB) (x:Ct) (r:Rw):Int:=max 0 (bT x.push (dX (dI r.lift (Dz Q x x.nx x.ny)) r.ease))
def uX (Q:List QB) (x:Ct) (r:Rw):List QB × Ct :=
 if r.ease=0 then (Q,x) else (sH Q x (aX x.nx (dI (tN Q x r) x.push)) (aX x.ny (dI (tN Q x r) x.push)),{ x with push:=tN Q x r })
def jA (Q:List QB) (x:Ct) (r:Rw):List QB × Ct:=uX (pU Q x r).1 (pU Q x r).2 r
def pG (Q:List QB) (C:List Ct) (st:Int):List Rw:=C.map (yR Q st)
def iT (Q : List QB) (C : List Ct) (R : List Rw) : Nat → List QB
 | 0=>Q
 | k+1=>match C[k]?,R[k]? with | some x,some r=>zW (iT Q C R k) x r | _,_=>iT Q C R k
theorem uW {Q:List QB} {C:List Ct} {R:List Rw} {k:Nat} {x:Ct} {r:Rw} (hx:C[k]? = some x) (hr:R[k]? = some r):iT Q C R (k+1)=zW (iT Q C R k) x r:=by rw [iT,hx,hr]
def oU (S:List QB × List Ct) (R:List Rw) (i:Nat):List QB × List Ct:=match S.2[i]?,R[i]? with | some x,some r=>((jA S.1 x r).1,S.2.set i (jA S.1 x r).2) | _,_=>S
theorem Dq {S:List QB × List Ct} {R:List Rw} {i:Nat} {x:Ct} {r:Rw} (hx:S.2[i]? = some x) (hr:R[i]? = some r):oU S R i=((jA S.1 x r).1,S.2.set i (jA S.1 x r).2):=by unfold oU;rw [hx,hr]
def lM (S : List QB × List Ct) (R : List Rw) (n : Nat) : Nat → List QB × List Ct
 | 0=>S
 | k+1=>oU (lM S R n k) R (k % n)
def nU (Q:List QB) (C:List Ct) (st:Int) (r:Nat):List QB × List Ct:=lM (iT Q C (pG Q C st) C.length,C) (pG Q C st) C.length (r*C.length)

theorem Ld {a b:Int} (ha:0≤a) (hb:0≤b):0≤aX a b:=by
 have c0:∀ {z:Int},0≤z→0≤aO z:=fun {z} h=>by unfold aO;split <;> (try split) <;> omega
 unfold aX IL
 split
 ·omega
 ·refine c0 ?_;have h1:=Int.mul_nonneg (c0 ha) (c0 hb);rw [show aO 65536=65536 from rfl];unfold kM;rw [if_neg (by omega)];exact Int.ediv_nonneg (by omega) (by omega)
theorem ou {Q:List QB} {x:Ct} (h:fT Q.length x) (j1 j2:Int):eU Q (sH Q x j1 j2):=by
 obtain ⟨⟨h1,h2,h3,-⟩,-⟩:=h;exact yH (by omega) (by omega) (by omega) _ _ _ _ _ _
theorem Es {n:Nat} {Q:List QB} {x:Ct} {r:Rw} (h:fT n x) (hb:0≤r.bound):fT n (pU Q x r).2:=by
 unfold pU
 split
 ·exact h
 ·have h1 := Ld hb h.2.2.2.2.1.1;have h2:=sM r.bound x.push;have h3:=oJ (n:=dI x.sli (dX (Dz Q x r.t1 r.t2) r.slip)) h1;obtain ⟨a,b,c,d,e,f⟩:=h;exact ⟨a,b,c,d,e,by show -1099511627776≤tQ Q x r∧tQ Q x r≤1099511627776;unfold tQ;omega⟩
theorem ET {Q:List QB} {x:Ct} {r:Rw} (h:fT Q.length x):eU Q (pU Q x r).1:=by
 unfold pU
 split
 ·exact .refl Q
 ·exact ou h _ _
theorem yx (a b:Int) : -1099511627776≤bT a b∧bT a b≤1099511627776:=eD _
theorem JO {n:Nat} {Q:List QB} {x:Ct} {r:Rw} (h:fT n x):fT n (uX Q x r).2:=by
 unfold uX
 split
 ·exact h
 ·have h2 := yx x.push (dX (dI r.lift (Dz Q x x.nx x.ny)) r.ease);obtain ⟨a,b,c,d,e,f⟩:=h;exact ⟨a,b,c,d,by show 0≤tN Q x r∧tN Q x r≤1099511627776;unfold tN;omega,f⟩
theorem F5 {Q:List QB} {x:Ct} {r:Rw} (h:fT Q.length x):eU Q (uX Q x r).1:=by
 unfold uX
 split
 ·exact .refl Q
 ·exact ou h _ _
theorem Hr {n:Nat} {Q:List QB} {x:Ct} {r:Rw} (h:fT n x) (hb:0≤r.bound):fT n (jA Q x r).2:=JO (Es h hb)
theorem Di {Q:List QB} {x:Ct} {r:Rw} (h:fT Q.length x) (hb:0≤r.bound):eU Q (jA Q x r).1:=by
 have h1:=ET (r:=r) h;exact h1.trans (F5 (by rw [h1.len];exact Es h hb))
theorem FJ {Q:List QB} {x:Ct} {r:Rw} (h:fT Q.length x):eU Q (zW Q x r):=ou h _ _
theorem uU {Q : List QB} {C : List Ct} {R : List Rw} (h : ∀ x ∈ C, fT Q.length x) : ∀ k, eU Q (iT Q C R k)
 | 0=>.refl Q
 | k+1=>by
  have ih:=uU (R:=R) h k
  rcases hc:C[k]? with _ | x
  ·rw [iT,hc];exact ih
  ·rcases hr : R[k]? with _ | r
   ·rw [iT,hc,hr];exact ih
   ·rw [uW hc hr]
    exact ih.trans (FJ (by rw [ih.len];exact h x (List.mem_of_getElem? hc)))

structure Lj (Q : List QB) (n : Nat) (S : List QB × List Ct) : Prop where
 like:eU Q S.1
 len:S.2.length=n
 ok:∀ x ∈ S.2,fT Q.length x
theorem Gm {Q:List QB} {n:Nat} {S:List QB × List Ct} {R:List Rw} (hR:∀ r ∈ R,0≤r.bound) (h:Lj Q n S) (i:Nat):Lj Q n (oU S R i):=by
 rcases hc:S.2[i]? with _ | x
 ·have : oU S R i = S := by unfold oU; rw [hc]
  rw [this];exact h
 ·rcases hr : R[i]? with _ | r
  ·have : oU S R i = S := by unfold oU; rw [hc, hr]
   rw [this];exact h
  ·rw [Dq hc hr];have hb:=hR r (List.mem_of_getElem? hr);have hx:=h.ok x (List.mem_of_getElem? hc);refine ⟨h.like.trans (Di (by rw [h.like.len];exact hx) hb),by simp [h.len],fun y hy=>?_⟩
   rcases List.mem_or_eq_of_mem_set hy with q | q
   ·exact h.ok y q
   ·rw [q];exact Hr hx hb
theorem wZ {Q : List QB} {n : Nat} {S : List QB × List Ct} {R : List Rw} (hR : ∀ r ∈ R, 0 ≤ r.bound) (h : Lj Q n S) (m : Nat) : ∀ k, Lj Q n (lM S R m k)
 | 0=>h
 | k+1=>Gm hR (wZ hR h m k) _
theorem Ii (S:List QB × List Ct) (R:List Rw) {n:Nat} (t:Nat) {m:Nat} (hm:m<n):lM S R n (t*n+m+1)=oU (lM S R n (t*n+m)) R m:=by
 show oU _ R ((t*n+m) % n)=_;rw [Nat.mul_comm,Nat.mul_add_mod,Nat.mod_eq_of_lt hm]
def stB (b:Bd):Prop:=b.mass=0∨b.asleep=true
def Gh (Q:List QB):Prop:=∀ q ∈ Q,stB q.1
theorem mG {L:List BE}:Gh (L.map aF)↔∀ y ∈ L,stB y.b:=by
 unfold Gh
 constructor
 ·intro h y hy;exact h (aF y) (List.mem_map_of_mem hy)
 ·intro h q hq;obtain ⟨y,hy,rfl⟩:=List.mem_map.1 hq;exact h y hy
theorem pQ {Q:List QB} (h:Gh Q) (i:Int):stB (qB Q i):=by
 unfold qB
 rcases hq:Q[i.toNat]? with _ | y
 ·exact .inl rfl
 ·exact h y (List.mem_of_getElem? hq)
theorem Dm {b:Bd} (h:stB b) (p q nx ny:Int):jP b p q nx ny=0:=by unfold jP;exact if_pos h
theorem CW {b:Bd} (h:stB b) (jx jy u v:Int):lY b jx jy u v=b:=by unfold lY;exact if_pos h
theorem xJ {Q:List QB} (k:Nat):EL Q k (qB Q k)=Q:=by
 unfold EL qB;rw [Int.toNat_natCast]
 rcases hq:Q[k]? with _ | y
 ·rfl
 ·show Q.set k (y.1, y.2) = Q;obtain ⟨hk,e⟩:=List.getElem?_eq_some_iff.1 hq;rw [show (y.1,y.2)=Q[k] from e.symm,List.set_getElem_self]
theorem Kt {Q:List QB} (h:Gh Q) (ka kb:Nat) (p1 p2 q1 q2 j1 j2:Int):pK Q ka kb p1 p2 q1 q2 j1 j2=Q:=by
 unfold pK;rw [CW (pQ h _),CW (pQ h _),xJ,xJ]
theorem vZ {a b:Bd} (ha:stB a) (hb:stB b) (p1 p2 q1 q2 v1 v2:Int):Am a b p1 p2 q1 q2 v1 v2=0:=by
 unfold Am;rw [Dm ha,Dm hb];rfl
theorem JZ {Q:List QB} (h:Gh Q) (ka kb:Nat) (p1 p2 q1 q2 v1 v2 gap st:Int):qO Q ka kb p1 p2 q1 q2 v1 v2 gap st=Q:=by
 unfold qO;rw [if_pos (vZ (pQ h _) (pQ h _) _ _ _ _ _ _)]
theorem sU {Q:List QB} (h:Gh Q) (x:Jt) (v1 v2 gap st:Int):jE Q x v1 v2 gap st=Q:=JZ h _ _ _ _ _ _ _ _ _ _
theorem IV {Q:List QB} (h:Gh Q) (x:Jt) (st:Int):gG Q x st=Q:=by
 unfold gG
 split
 ·rw [sU (Q:=Q) h,sU h]
 ·exact sU h _ _ _ _ _
theorem qV {Q : List QB} (h : Gh Q) (J : List Jt) (st : Int) : ∀ k, fA Q J st k = Q
 | 0=>rfl
 | k+1=>by
  show (match J[k]? with | some x=>gG (fA Q J st k) x st | none=>fA Q J st k)=Q
  rw [qV h J st k]
  split
  ·exact IV h _ _
  ·rfl
theorem rM {Q : List QB} (h : Gh Q) (J : List Jt) (st : Int) : ∀ k, jV Q J st k = Q
 | 0=>rfl
 | k+1=>by
  show fA (jV Q J st k) J st J.length=Q
  rw [rM h J st k,qV h]
theorem Gs {Q:List QB} (h:Gh Q) (st:Int) (x:Ct):(yR Q st x).slip=0∧(yR Q st x).ease=0:=⟨vZ (pQ h _) (pQ h _) _ _ _ _ _ _,vZ (pQ h _) (pQ h _) _ _ _ _ _ _⟩
theorem LB {Q:List QB} (h:Gh Q) (x:Ct) (r:Rw):zW Q x r=Q:=Kt h _ _ _ _ _ _ _ _
theorem zB {Q : List QB} (h : Gh Q) (C : List Ct) (R : List Rw) : ∀ k, iT Q C R k = Q
 | 0=>rfl
 | k+1=>by
  show (match C[k]?,R[k]? with | some x,some r=>zW (iT Q C R k) x r | _,_=>iT Q C R k)=Q
  rw [zB h C R k]
  split
  ·exact LB h _ _
  ·rfl
theorem Ij (Q:List QB) (x:Ct) (r:Rw) (h:r.slip=0∧r.ease=0):jA Q x r=(Q,x):=by
 have h1:pU Q x r=(Q,x):=by unfold pU;rw [if_pos h.1]
 unfold jA;rw [h1];unfold uX;rw [if_pos h.2]
theorem Dv {S : List QB × List Ct} {R : List Rw} (hR : ∀ r ∈ R, r.slip = 0 ∧ r.ease = 0) (n : Nat) : ∀ k, lM S R n k = S
 | 0=>rfl
 | k+1=>by
  show oU (lM S R n k) R (k % n)=S
  rw [Dv hR n k]
  unfold oU
  split
  ·rename_i x r hx hr
   rw [Ij _ _ _ (hR r (List.mem_of_getElem? hr))]
   obtain ⟨hk,e⟩:=List.getElem?_eq_some_iff.1 hx
   rw [← e,List.set_getElem_self]
  ·rfl
theorem KA {Q:List QB} (h:Gh Q) (C:List Ct) (st:Int):∀ r ∈ pG Q C st,r.slip=0∧r.ease=0:=fun r hr=>by
 unfold pG at hr;obtain ⟨x,-,rfl⟩:=List.mem_map.1 hr;exact Gs h st x
theorem Jv {Q:List QB} (h:Gh Q) (C:List Ct) (st:Int) (r:Nat):nU Q C st r=(Q,C):=by
 unfold nU;rw [zB h,Dv (KA h C st)]
theorem iG {g o o':Nat} {v u:Value} (h:w.cell? ⟨g,o',none⟩=some u) (hne:o≠o'):(w.setCell ⟨g,o,none⟩ v).cell? ⟨g,o',none⟩=some u:=by
 have n1:¬ o=o':=hne;have n2:¬ o'=o:=fun e=>hne e.symm
 go_simp
theorem nE {g o:Nat} {v u:Value} (h:w.cell? ⟨g,o,none⟩=some u):(w.setCell ⟨g,o,none⟩ v).cell? ⟨g,o,none⟩=some v:=by go_simp
theorem eu {b:Nat} (h:∀ j,w.frozen? ⟨b,j,none⟩=false) (p:Addr) (v:Value):∀ j,(w.setCell p v).frozen? ⟨b,j,none⟩=false:=fun j=>by rw [World.frozen?_setCell];exact h j

structure Out (D : Nat → Prop) (w w' : World) : Prop where
 os:w'.os=w.os
 tape:w'.tape=w.tape
 output:w'.output=w.output
 size:w.heap.size≤w'.heap.size
 block:∀ k,k<w.heap.size→¬ D k→w'.heap[k]? = w.heap[k]?
theorem Out.refl (D:Nat→Prop) (w:World):Out D w w:=⟨rfl,rfl,rfl,Nat.le_refl _,fun _ _ _=>rfl⟩
theorem Out.trans {D D':Nat→Prop} {a b c:World} (h:Out D a b) (k:Out D' b c) (hd:∀ i,i<a.heap.size→D' i→D i):Out D a c :=
 ⟨k.os.trans h.os,k.tape.trans h.tape,k.output.trans h.output,Nat.le_trans h.size k.size,fun i hi hn=>(k.block i (Nat.lt_of_lt_of_le hi h.size) (fun q=>hn (hd i hi q))).trans (h.block i hi hn)⟩
theorem Out.mono {D D':Nat→Prop} {a b:World} (h:Out D a b) (hd:∀ i,i<a.heap.size→D i→D' i):Out D' a b:=⟨h.os,h.tape,h.output,h.size,fun i hi hn=>h.block i hi (fun q=>hn (hd i hi q))⟩
theorem Out.drew {D:Nat→Prop} {a b:World} (h:Out D a b):Out D a b.drew:=⟨h.os,h.tape,h.output,h.size,h.block⟩
theorem Out.below {D:Nat→Prop} {a b:World} (h:Below a.heap.size a b):Out D a b:=⟨h.os,h.tape,h.output,h.size,fun k hk _=>h.block k hk⟩
theorem Out.setCell {D:Nat→Prop} {a b:World} (h:Out D a b) {p:Addr} (hp:a.heap.size≤p.block∨D p.block) (u:Value):Out D a (b.setCell p u) :=
 ⟨h.os,h.tape,h.output,by rw [World.size_setCell];exact h.size,fun k hk hn=>(Below.heap_setCell b p u k (fun e=>hp.elim (fun q=>by omega) (fun q=>hn (e ▸ q)))).trans (h.block k hk hn)⟩
theorem Out.cell {D:Nat→Prop} {a b:World} (h:Out D a b) {g o:Nat} {v:Value} (hc:a.cell? ⟨g,o,none⟩=some v) (hn:¬ D g):b.cell? ⟨g,o,none⟩=some v:=(World.cell?_of_block (h.block _ (lt_of_cell hc) hn)).trans hc
def I9 (mv:Nat→Bool) (f:Nat→Nat) (p:Nat × Nat):Nat→Nat:=if mv p.1=true∧mv p.2=true then (fun j=>if f j=max (f p.1) (f p.2) then min (f p.1) (f p.2) else f j) else f
def qF (mv:Nat→Bool) (l:List (Nat × Nat)):Nat→Nat:=l.foldl (I9 mv) id
theorem uT (mv:Nat→Bool) (l:List (Nat × Nat)) (p:Nat × Nat):qF mv (l ++ [p])=I9 mv (qF mv l) p:=by unfold qF;rw [List.foldl_append];rfl

theorem Nw {mv:Nat→Bool} {P:(Nat→Nat)→Prop} (h0:P id):∀ l:List (Nat × Nat),(∀ f p,p ∈ l→P f→P (I9 mv f p))→P (qF mv l):=by
 have go:∀ (l:List (Nat × Nat)) (f:Nat→Nat),P f→(∀ f p,p ∈ l→P f→P (I9 mv f p))→P (l.foldl (I9 mv) f):=by
  intro l
  induction l with
  | nil=>intro f hf _;exact hf
  | cons p r ih=>intro f hf h;exact ih _ (h f p (List.mem_cons_self ..) hf) (fun f q hq=>h f q (List.mem_cons_of_mem _ hq))
 exact fun l h=>go l id h0 h

structure M7 (f : Nat → Nat) : Prop where
 le:∀ j,f j≤j
 idem:∀ j,f (f j)=f j
theorem Ov {mv:Nat→Bool} {f:Nat→Nat} (h:M7 f) (p:Nat × Nat):M7 (I9 mv f p):=by
 unfold I9
 split
 ·refine ⟨fun j => ?_, fun j => ?_⟩
  ·have := h.le j;show (if f j=_ then _ else _)≤j
   split <;> omega
  ·show (if f (if f j = _ then _ else _) = _ then _ else _) = (if f j = _ then _ else _);have i1:=h.idem p.1;have i2:=h.idem p.2;have i3:=h.idem j
   by_cases e:f j=max (f p.1) (f p.2)
   ·rw [if_pos e]
    have:f (min (f p.1) (f p.2))=min (f p.1) (f p.2):=by
     rcases Nat.le_total (f p.1) (f p.2) with q | q
     ·rw [Nat.min_eq_left q];exact i1
     ·rw [Nat.min_eq_right q];exact i2
    rw [this]
    split <;> omega
   ·rw [if_neg e,i3,if_neg e]
 ·exact h
theorem Np (mv:Nat→Bool) (l:List (Nat × Nat)):M7 (qF mv l):=Nw ⟨fun j=>Nat.le_refl j,fun _=>rfl⟩ l (fun f p _ h=>Ov h p)




def gU (up:List Nat) (i:Nat):Nat:=up.getD i i
structure EB (up : List Nat) (f : Nat → Nat) : Prop where
 le:∀ i,gU up i≤i
 fix:∀ i,gU up i=i→f i=i
 step:∀ i,f (gU up i)=f i
theorem jI {up:List Nat} {i:Nat} (hi:i<up.length) (v j:Nat):gU (up.set i v) j=if j=i then v else gU up j:=by
 unfold gU;rw [List.getD_eq_getElem?_getD,List.getD_eq_getElem?_getD]
 split
 ·rename_i e;subst e;rw [List.getElem?_set_self hi];rfl
 ·rename_i e;rw [List.getElem?_set_ne (fun q=>e q.symm)]
theorem EB.new (n:Nat):EB (List.range n) id:=by
 have e:∀ i,gU (List.range n) i=i:=fun i=>by
  unfold gU;rw [List.getD_eq_getElem?_getD]
  rcases Nat.lt_or_ge i n with h | h
  ·rw [List.getElem?_range h];rfl
  ·rw [List.getElem?_eq_none (by simpa using h)];rfl
 exact ⟨fun i=>Nat.le_of_eq (e i),fun i _=>rfl,fun i=>e i⟩
theorem EB.ok {up:List Nat} {f:Nat→Nat} (h:EB up f):M7 f∧∀ j,gU up (f j)=f j:=by
 have go:∀ n j,j<n→f j≤j∧gU up (f j)=f j∧f (f j)=f j:=by
  intro n
  induction n with
  | zero=>intro j hj;omega
  | succ n ih =>
   intro j hj;have hl:=h.le j
   by_cases e:gU up j=j
   ·have := h.fix j e;rw [this];exact ⟨Nat.le_refl _,e,this⟩
   ·obtain ⟨a, b, c⟩ := ih (gU up j) (by omega);rw [h.step j] at a b c;exact ⟨by omega,b,c⟩
 exact ⟨⟨fun j=>(go (j+1) j (by omega)).1,fun j=>(go (j+1) j (by omega)).2.2⟩,fun j=>(go (j+1) j (by omega)).2.1⟩

theorem EB.halve {up:List Nat} {f:Nat→Nat} (h:EB up f) {i:Nat} (hi:i<up.length):EB (up.set i (gU up (gU up i))) f:=by
 have a:=h.le i;have b:=h.le (gU up i);refine ⟨fun j=>?_,fun j e=>?_,fun j=>?_⟩
 ·rw [jI hi]; split
  ·omega
  ·exact h.le j
 ·rw [jI hi] at e
  split at e
  ·rename_i q;subst q;exact h.fix j (by omega)
  ·exact h.fix j e
 ·rw [jI hi]; split
  ·rename_i q;subst q;rw [h.step,h.step]
  ·exact h.step j

theorem EB.join {up:List Nat} {f:Nat→Nat} (h:EB up f) {mv:Nat→Bool} {p:Nat × Nat} (hp:mv p.1=true∧mv p.2=true) (h1:p.1<up.length) (h2:p.2<up.length):EB (up.set (max (f p.1) (f p.2)) (min (f p.1) (f p.2))) (I9 mv f p):=by
 obtain ⟨hk,hr⟩:=h.ok;have l1:=hk.le p.1;have l2:=hk.le p.2;have i1:=hk.idem p.1;have i2:=hk.idem p.2;have hi:max (f p.1) (f p.2)<up.length:=by omega
 have fM:f (max (f p.1) (f p.2))=max (f p.1) (f p.2):=by
  rcases Nat.le_total (f p.1) (f p.2) with q | q
  ·rw [Nat.max_eq_right q];exact i2
  ·rw [Nat.max_eq_left q];exact i1
 have fm:f (min (f p.1) (f p.2))=min (f p.1) (f p.2):=by
  rcases Nat.le_total (f p.1) (f p.2) with q | q
  ·rw [Nat.min_eq_left q];exact i1
  ·rw [Nat.min_eq_right q];exact i2
 have ej:I9 mv f p=fun j=>if f j=max (f p.1) (f p.2) then min (f p.1) (f p.2) else f j:=by unfold I9;rw [if_pos hp]
 generalize hM:max (f p.1) (f p.2)=M at *
 generalize hm:min (f p.1) (f p.2)=m at *
 have hle:m≤M:=by omega
 rw [ej];refine ⟨fun j=>?_,fun j e=>?_,fun j=>?_⟩
 ·rw [jI hi]; split
  ·omega
  ·exact h.le j
 ·rw [jI hi] at e;show (if f j=M then m else f j)=j
  split at e
  ·rename_i q;subst q;rw [fM,if_pos rfl];exact e
  ·rename_i q;have:=h.fix j e;rw [this,if_neg q]
 ·rw [jI hi];show (if f (if j=M then m else gU up j)=M then m else f (if j=M then m else gU up j))=(if f j=M then m else f j)
  by_cases q:j=M
  ·subst q;rw [if_pos rfl,fm,fM,if_pos rfl]
   split <;> omega
  ·rw [if_neg q,h.step]

theorem EB.put {up:List Nat} {f:Nat→Nat} (h:EB up f) {i:Nat} (hi:i<up.length):EB (up.set i (f i)) f:=by
 obtain ⟨hk,hr⟩:=h.ok;refine ⟨fun j=>?_,fun j e=>?_,fun j=>?_⟩
 ·rw [jI hi]; split
  ·rename_i q;subst q;exact hk.le j
  ·exact h.le j
 ·rw [jI hi] at e
  split at e
  ·rename_i q;subst q;exact e
  ·exact h.fix j e
 ·rw [jI hi]; split
  ·rename_i q;subst q;exact hk.idem j
  ·exact h.step j




end
end Go.Proofs.YtokgmcomgflloaaGreat
