/- Parts of a proof: contracts and laws. -/
import Derived.Test.YtokgmcomgflloaaGreatQA21
import Derived.Test.YtokgmcomgflloaaGreatQA32
import Derived.Test.YtokgmcomgflloaaGreatQA19
import Derived.Test.YtokgmcomgflloaaGreatQA08
import Derived.Test.YtokgmcomgflloaaGreatQA13
import Derived.Test.YtokgmcomgflloaaGreatQA02
set_option maxRecDepth 100000
set_option maxHeartbeats 16000000
namespace Go.Proofs.YtokgmcomgflloaaGreat
section
set_option linter.unusedVariables false
set_option linter.unusedSimpArgs false
open Go.RowKit
variable {w0 w w':World}
def pE (x:BE):List V:=dO x.b x.l

def bxB (x:BE):Bx:=((Av (wK (pE x)),Av (xG (pE x))),(BP (wK (pE x)),BP (xG (pE x))))
def yh (L:List BE) (i:Nat):Int:=match L[i]? with | some x=>x.b.mass | none=>0

def kG (L:List BE) (p:Nat × Nat):Bool:=decide (yh L p.1=0) && decide (yh L p.2=0)
def iW (L:List BE):List (Nat × Nat):=(jd (L.map bxB)).filter fun p => !kG L p
def Ib (p:Nat × Nat) (t:Pt):Ct:=⟨p.1,p.2,t.2.2,t.1.1.1,t.1.1.2,t.1.2.1,t.1.2.2,t.2.1,0,0⟩
def BN (L:List BE) (i:Nat):List V:=match L[i]? with | some x=>pE x | none=>[]

def vT (L:List BE) (p:Nat × Nat):List Ct:=(o9 (BN L p.1) (BN L p.2)).map (Ib p)

def qW (L:List BE):List Ct:=(iW L).flatMap (vT L)
theorem EA {L:List BE} {i:Nat} (h:i<L.length):yh L i=L[i].b.mass:=by unfold yh;rw [List.getElem?_eq_getElem h]
theorem wP {L:List BE} {i:Nat} (h:i<L.length):BN L i=pE L[i]:=by unfold BN;rw [List.getElem?_eq_getElem h]
theorem Et {L:List BE} {p:Nat × Nat}:p ∈ iW L↔(p.1<p.2∧p.2<L.length∧vS (bG (L.map bxB) p.1) (bG (L.map bxB) p.2)=true)∧kG L p=false:=by
 unfold iW;rw [List.mem_filter,nJ,List.length_map];simp

def NT (L:List BE) (i k:Nat):Bool := !kG L (i,k) && vS (bG (L.map bxB) i) (bG (L.map bxB) k)
def Ht (L:List BE) (i m:Nat):List (Nat × Nat):=((List.range m).filter fun k=>decide (i<k) && NT L i k).map fun k=>(i,k)
def rT (L:List BE) (m:Nat):List (Nat × Nat):=(List.range m).flatMap fun i=>Ht L i L.length
theorem Cj (L:List BE) (m:Nat):rT L (m+1)=rT L m ++ Ht L m L.length:=by
 unfold rT;rw [List.range_succ,List.flatMap_append];simp
theorem oQ {α β : Type} (f : α → List β) (p : β → Bool) : ∀ l : List α, (l.flatMap f).filter p = l.flatMap fun a => (f a).filter p
 | []=>rfl
 | a :: l=>by rw [List.flatMap_cons,List.flatMap_cons,List.filter_append,oQ f p l]
theorem KH (L:List BE) (i:Nat):(rowP (L.map bxB) i L.length).filter (fun p => !kG L p)=Ht L i L.length:=by
 unfold rowP Ht;rw [List.filter_map,List.filter_filter]
 congr 1
 refine List.filter_congr fun k _=>?_
 show (!kG L (i,k) && (decide (i<k) && vS _ _))=_;unfold NT
 cases decide (i<k) <;> cases kG L (i,k) <;> rfl
theorem FU (L:List BE):rT L L.length=iW L:=by
 unfold rT iW jd Gu;rw [oQ,List.length_map]
 congr 1
 funext i
 exact (KH L i).symm
theorem Mc (L:List BE) (i m:Nat):(Ht L i m).length≤m:=by
 unfold Ht;rw [List.length_map];exact Nat.le_trans (List.length_filter_le _ _) (by simp)
theorem yA (L : List BE) : ∀ m, (rT L m).length ≤ m * L.length
 | 0=>by unfold rT;simp
 | m+1=>by
  rw [Cj,List.length_append,Nat.add_mul,Nat.one_mul]
  have:=yA L m
  have:=Mc L m L.length
  omega
theorem D8 (L:List BE):(iW L).length≤L.length*L.length:=by rw [← FU];exact yA L L.length
theorem Lx (ref:List V) (e:Nat) (way:V) (id:Int) (g:(V × V) × Bool) (k:Nat):(qX ref e way id g k).length≤2:=by
 unfold qX
 split
 ·simp
 ·split <;> simp
 ·rw [List.length_append]
  split <;> split <;> simp
theorem LG (ref inc:List V) (e:Nat) (way:V) (id0:Int):(BF ref inc e way id0).length≤2:=by
 unfold BF
 split
 ·simp
 ·exact Lx _ _ _ _ _ _
theorem CX (l m:List V):(o9 l m).length≤2:=by
 unfold o9
 split
 ·simp
 ·split <;> exact LG _ _ _ _ _
theorem DK (L:List BE) (p:Nat × Nat):(vT L p).length≤2:=by unfold vT;rw [List.length_map];exact CX _ _
theorem qD {α β : Type} {f : α → List β} {n : Nat} (h : ∀ a, (f a).length ≤ n) : ∀ l : List α, (l.flatMap f).length ≤ l.length * n
 | []=>by simp
 | a :: l=>by
  rw [List.flatMap_cons,List.length_append,List.length_cons,Nat.add_mul,Nat.one_mul]
  have:=h a
  have:=qD h l
  omega
theorem Ie (l:List Bx):(jd l).length≤l.length*l.length:=by
 have h1:=qD (f:=fun i=>rowP l i l.length) (n:=l.length) (fun i=>by unfold rowP;rw [List.length_map];exact Nat.le_trans (List.length_filter_le _ _) (by simp)) (List.range l.length);rw [List.length_range] at h1;exact h1
theorem GA (L:List BE):(qW L).length≤L.length*L.length*2:=by
 have h1:=qD (DK L) (iW L);have h2:=Nat.mul_le_mul_right 2 (D8 L);unfold qW;omega

def lS (L:List BE) (P:List (Nat × Nat)) (m:Nat):List Ct:=(P.take m).flatMap (vT L)
theorem FM {L:List BE} {P:List (Nat × Nat)} {m:Nat} (h:m<P.length):lS L P (m+1)=lS L P m ++ vT L P[m]:=by
 unfold lS;rw [List.take_succ_eq_append_getElem h,List.flatMap_append];simp
theorem Jd (L:List BE):lS L (iW L) (iW L).length=qW L:=by unfold lS qW;rw [List.take_length]
theorem I4 (L:List BE) (P:List (Nat × Nat)) (m:Nat):(lS L P m).length≤P.length*2:=by
 have h1:=qD (DK L) (P.take m);have h2:(P.take m).length≤P.length:=by rw [List.length_take];omega
 have h3:=Nat.mul_le_mul_right 2 h2;unfold lS;omega
abbrev Js (b:Bx):Value:=.agg #[.int .i64 b.1.1,.int .i64 b.1.2,.int .i64 b.2.1,.int .i64 b.2.2]
theorem nY (x y u v:Int) (w:World):Calls Tryz.prog 67 #[.agg #[.int .i64 x,.int .i64 y,.int .i64 u,.int .i64 v]] w (dG (.bool (jD ((x,y),(u,v)))) w):=by
 have HZ:Hid (jD ((x,y),(u,v))=decide (x≤u∧y≤v)):=rfl;obtain ⟨z,hz⟩:∃ z,z=jD ((x,y),(u,v)):=⟨_,rfl⟩;rw [← hz] at HZ ⊢;clear hz
 by_cases h1:x≤u
 ·by_cases h2 : y ≤ v
  ·have HR : Hid (z = true) := by show _ = _; rw [HZ.out]; exact decide_eq_true ⟨h1, h2⟩
   clear HZ
   go_enter Tryz.func67,Tryz.ntmps67
   go_wp2
   go_returns
   exact bR (by rw [HR.out];try simp [*]) (by go_grown)
  ·have HR : Hid (z = false) := by show _ = _; rw [HZ.out]; exact decide_eq_false (fun h => h2 h.2)
   clear HZ
   go_enter Tryz.func67,Tryz.ntmps67
   go_wp2
   go_returns
   exact bR (by rw [HR.out];try simp [*]) (by go_grown)
 ·have HR : Hid (z = false) := by show _ = _; rw [HZ.out]; exact decide_eq_false (fun h => h1 h.1)
  clear HZ
  go_enter Tryz.func67,Tryz.ntmps67
  go_wp2
  go_returns
  exact bR (by rw [HR.out];try simp [*]) (by go_grown)

def Og (l:List (Nat × Nat)) (w:World) (e:Ending) (w':World):Prop:=∃ A n c,e = .returned (.slice A n c)∧dW bW w' A n c l∧(∀ b off,A=some ⟨b,off,none⟩→w.heap.size≤b)∧Below w.heap.size w w'

def Ko (l:List (Nat × Nat)) (w:World) (e:Ending) (w':World):Prop:=∃ s,e = .returned s∧aU bW 72 w' w.heap.size s l∧Below w.heap.size w w'

structure PW (w0 : World) (gb : Nat) (hd : Value) (s : Value) (o : List Nat) (w : World) : Prop where
 cb:w.cell? ⟨gb,0,none⟩=some hd
 own:aU fq 3 w (gb+1) s o
 bel:Below w0.heap.size w0 w
 le:w0.heap.size≤gb
theorem PW.keep {gb:Nat} {hd s:Value} {o:List Nat} {w w':World} (hb:Below w.heap.size w w') (h:PW w0 gb hd s o w):PW w0 gb hd s o w':=⟨keepCell hb h.cb,h.own.below hb,aj hb h.bel,h.le⟩
theorem PW.app {gb:Nat} {hd s s':Value} {o o':List Nat} {w w':World} (h:PW w0 gb hd s o w) (ho:aU fq 3 w' (gb+1) s' o') (hg:w.grownBy w' s.ownBlock):PW w0 gb hd s' o' w' :=
 ⟨hg.cell h.cb (h.own.ne (Nat.lt_succ_self gb)),ho,h.bel.grown hg h.bel.size (fun k hk=>by have:=(h.own.lt hk).1;have:=h.le;omega),h.le⟩

structure PX (w2 : World) (s : Value) (op : List Nat) (t : Value) (out : List (Nat × Nat)) (w : World) : Prop where
 o1:aU fq 3 w w2.heap.size s op
 o2:aU bW 72 w w2.heap.size t out
 dis:t.ownBlock=none∨t.ownBlock≠s.ownBlock
 bel:Below w2.heap.size w2 w
theorem PX.keep {w2:World} {s t:Value} {op:List Nat} {out:List (Nat × Nat)} {w w':World} (hb:Below w.heap.size w w') (h:PX w2 s op t out w):PX w2 s op t out w':=⟨h.o1.below hb,h.o2.below hb,h.dis,aj hb h.bel⟩
theorem IU {s t:Value} (h:t.ownBlock=none∨t.ownBlock≠s.ownBlock):s.ownBlock=none∨s.ownBlock≠t.ownBlock:=by
 rcases h with h | h
 ·cases hs:s.ownBlock with
  | none=>exact .inl rfl
  | some k=>exact .inr (by rw [h];simp)
 ·exact .inr fun e=>h e.symm
theorem PX.set1 {w2:World} {s s' t:Value} {op op':List Nat} {out:List (Nat × Nat)} {w w':World} (h:PX w2 s op t out w) (ho:aU fq 3 w' w2.heap.size s' op') (hg:w.grownBy w' s.ownBlock) (hat:s'.ownBlock=s.ownBlock∨s'.ownBlock=some w.heap.size):PX w2 s' op' t out w':=by
 refine ⟨ho,h.o2.kept hg h.dis,?_,h.bel.grown hg h.bel.size (fun k hk=>(h.o1.lt hk).1)⟩
 rcases hat with q | q
 ·rw [q];exact h.dis
 ·rw [q]
  cases ht:t.ownBlock with
  | none=>exact .inl rfl
  | some k=>exact .inr fun e=>by cases e;have:=(h.o2.lt ht).2;omega
theorem PX.set2 {w2:World} {s t t':Value} {op:List Nat} {out out':List (Nat × Nat)} {w w':World} (h:PX w2 s op t out w) (ho:aU bW 72 w' w2.heap.size t' out') (hg:w.grownBy w' t.ownBlock) (hat:t'.ownBlock=t.ownBlock∨t'.ownBlock=some w.heap.size):PX w2 s op t' out' w':=by
 refine ⟨h.o1.kept hg (IU h.dis),ho,?_,h.bel.grown hg h.bel.size (fun k hk=>(h.o2.lt hk).1)⟩
 rcases hat with q | q
 ·rw [q];exact h.dis
 ·rw [q];refine .inr fun e=>?_
  have:=(h.o1.lt e.symm).2;omega
theorem DY {l : List Bx} : ∀ (o : List Nat) (m : Nat) (s : List Nat × List (Nat × Nat)) (hm : m < o.length), tH l (o.take (m + 1)) s = (kS l (tH l (o.take m) s).1 o[m] ++ [o[m]], (tH l (o.take m) s).2 ++ lV l (kS l (tH l (o.take m) s).1 o[m]) o[m])
 | i :: o,0,s,_=>by simp [tH]
 | i :: o,m+1,s,hm=>by
  rw [List.take_succ_cons,List.take_succ_cons,tH,tH]
  exact DY o m _ (by simpa using hm)
theorem EW (l:List Bx) (m:Nat):jK l (m+1)=jK l m ++ (if jD (bG l m)=true then [m] else []):=by
 unfold jK;rw [List.range_succ,List.filter_append]
 congr 1
 cases h:jD (bG l m) <;> simp [h]
theorem IZ (l:List Bx) (op:List Nat) (i k:Nat) (hk:k<op.length):lV l (op.take (k+1)) i=lV l (op.take k) i ++ (if xD l i op[k]=true then [EM i op[k]] else []):=by
 unfold lV;rw [List.take_succ_eq_append_getElem hk,List.filter_append,List.map_append]
 congr 1
 cases h:xD l i op[k] <;> simp [h]
theorem zC {b:Nat} {i:Nat} (h:w.cell? ⟨b,0,none⟩=some (.int .i64 i)):aJ fq w b 0 [i] :=
 ⟨lt_of_cell h,fun j hj m v hv=>by
  obtain rfl:j=0:=by simpa using hj
  cases m with
  | zero=>have e:some (Value.int .i64 (i:Int))=some v:=hv;cases e;simpa [fq] using h
  | succ m=>simp [fq] at hv⟩
theorem Fh {b:Nat} {p:Nat × Nat} (h0:w.cell? ⟨b,0,none⟩=some (.int .i64 p.1)) (h1:w.cell? ⟨b,1,none⟩=some (.int .i64 p.2)):aJ bW w b 0 [p] :=
 ⟨lt_of_cell h0,fun j hj m v hv=>by
  obtain rfl:j=0:=by simpa using hj
  match m,hv with
  | 0,hv=>have e:some (Value.int .i64 (p.1:Int))=some v:=hv;cases e;simpa [bW] using h0
  | 1,hv=>have e:some (Value.int .i64 (p.2:Int))=some v:=hv;cases e;simpa [bW] using h1
  | m+2,hv=>simp [bW] at hv⟩
theorem aJ.nat {b off:Nat} {o:List Nat} (h:aJ fq w b off o) {m:Nat} (hm:m<o.length):w.cell? ⟨b,off+m,none⟩=some (.int .i64 (o[m]:Nat)):=by
 have:=h.at_ m hm 0 _ rfl;simpa [fq] using this
theorem KC {l:List Bx} {m k:Nat} (h:k ∈ jK l m):k<m:=by unfold jK at h;exact List.mem_range.1 (List.mem_filter.1 h).1
theorem I8 (l:List Bx) (m:Nat):(jK l m).length≤m:=by unfold jK;exact Nat.le_trans (List.length_filter_le _ _) (by simp)
theorem Dw (l:List Bx) (op:List Nat) (i:Nat):(kS l op i).length≤op.length:=List.length_filter_le _ _
theorem DT (l:List Bx) (op:List Nat) (i:Nat):(lV l op i).length≤op.length:=by unfold lV;rw [List.length_map];exact List.length_filter_le _ _
theorem He {l : List Bx} : ∀ (o : List Nat) (s : List Nat × List (Nat × Nat)) (k : Nat), k ∈ (tH l o s).1 → k ∈ s.1 ∨ k ∈ o
 | [],s,k,h=>.inl h
 | i :: o,s,k,h=>by
  rw [tH] at h
  rcases He o _ k h with g | g
  ·rw [List.mem_append, List.mem_singleton] at g
   rcases g with g | g
   ·exact .inl (List.mem_filter.1 g).1
   ·exact .inr (by rw [g];exact List.mem_cons_self ..)
  ·exact .inr (List.mem_cons_of_mem _ g)
theorem Bn {l : List Bx} : ∀ (o : List Nat) (s : List Nat × List (Nat × Nat)), (tH l o s).1.length ≤ s.1.length + o.length ∧ (tH l o s).2.length ≤ s.2.length + o.length * (s.1.length + o.length)
 | [],s=>by simp [tH]
 | i :: o,s=>by
  rw [tH]
  obtain ⟨h1,h2⟩:=Bn (l:=l) o (kS l s.1 i ++ [i],s.2 ++ lV l (kS l s.1 i) i)
  have g1:=Dw l s.1 i
  have g2:=DT l (kS l s.1 i) i
  simp only [List.length_append,List.length_cons,List.length_nil,Nat.zero_add] at *
  refine ⟨by omega,?_⟩
  have m1:o.length*((kS l s.1 i).length+1+o.length)≤o.length*(s.1.length+(o.length+1)):=Nat.mul_le_mul_left _ (by omega)
  have m2:(o.length+1)*(s.1.length+(o.length+1))=o.length*(s.1.length+(o.length+1))+(s.1.length+(o.length+1)):=by rw [Nat.add_mul,Nat.one_mul]
  omega

structure PY (w2 : World) (gi i : Nat) (s : Value) (op : List Nat) (t : Value) (out : List (Nat × Nat)) (w : World) : Prop where
 px:PX w2 s op t out w
 ci:w.cell? ⟨gi,0,none⟩=some (.int .i64 i)
 ns:∀ k,s.ownBlock=some k→k≠gi
 nt:∀ k,t.ownBlock=some k→k≠gi
theorem PY.keep {w2:World} {gi i:Nat} {s t:Value} {op:List Nat} {out:List (Nat × Nat)} {w w':World} (hb:Below w.heap.size w w') (h:PY w2 gi i s op t out w):PY w2 gi i s op t out w':=⟨h.px.keep hb,keepCell hb h.ci,h.ns,h.nt⟩
theorem PY.set2 {w2:World} {gi i:Nat} {s t t':Value} {op:List Nat} {out out':List (Nat × Nat)} {w w':World} (h:PY w2 gi i s op t out w) (ho:aU bW 72 w' w2.heap.size t' out') (hg:w.grownBy w' t.ownBlock) (hat:t'.ownBlock=t.ownBlock∨t'.ownBlock=some w.heap.size):PY w2 gi i s op t' out' w':=by
 refine ⟨h.px.set2 ho hg hat,hg.cell h.ci (fun e=>h.nt gi e.symm rfl),h.ns,fun k hk=>?_⟩
 rcases hat with q | q
 ·exact h.nt k (by rw [← q];exact hk)
 ·have := lt_of_cell h.ci;rw [q] at hk
  cases hk
  omega
theorem sK (A:Option Addr) (n c:Nat) (l:List Bx) (w:World) (hS:dW dP w A n c l) (hlen:l.length≤1000):Calls Tryz.prog 30 #[.slice A n c] w (Ko (jd l) w):=by
 have hn:=hS.len;subst hn;have HS:=hid hS;have HV:=hid nY;clear hS;obtain ⟨gb,hgb⟩:∃ g,g=w.heap.size:=⟨_,rfl⟩;have HP0:Hid (PW w gb (.slice A l.length c) (.slice none 0 0) (jK l 0) (w.alloc (.cells #[.slice A l.length c] 62))):=⟨by rw [hgb];go_simp,aU.nil _ _ _ _,by go_grown,by omega⟩;have HGB:=hid hgb
 go_enter Tryz.func30,Tryz.ntmps30
 go_wp2;rw [← hgb];clear hgb
 go_loopw [3,14] (fun s j wr=>∃ k:Nat,k≤l.length∧j = .int .i64 k∧PW w gb (.slice A l.length c) s (jK l k) wr) (fun _ j _=>l.length-(intOf j).toNat)
 case atStart=>exact ⟨0,Nat.zero_le _,rfl,HP0.out⟩
 case round =>
  clear HP0;obtain ⟨k,hk,rfl,hpw⟩:=hrel;obtain ⟨wo,rfl⟩:∃ wo:World,wo=wr:=⟨_,rfl⟩;have HPW:=hid hpw
  by_cases hlt:k<l.length
  ·have hlt' : (k : Int) < (l.length : Int) := by omega
   obtain ⟨b,off,rfl,hC⟩:=(HS.out.below hpw.bel).at_ (by intro h;subst h;simp at hlt);obtain ⟨x0,x1,x2,x3⟩:=hC.box hlt;have hbl:=hC.lt;have hwk:IntKind.i64.wrap ((k:Int)+1)=(k:Int)+1:=IntWalk.i64_in _ (by omega);have HO:=hid (EW l k);have HOL:Hid ((jK l k).length≤1000):=by show _≤_;unfold jK;exact Nat.le_trans (List.length_filter_le _ _) (by simp;omega)
   have HVK:=hid (HV.out (bG l k).1.1 (bG l k).1.2 (bG l k).2.1 (bG l k).2.2)
   change Hid (∀ w,Calls _ _ _ w (dG (.bool (jD (bG l k))) w)) at HVK
   generalize jD (bG l k)=vk at *
   generalize (bG l k).1.1=z0 at *
   generalize (bG l k).1.2=z1 at *
   generalize (bG l k).2.1=z2 at *
   generalize (bG l k).2.2=z3 at *
   obtain ⟨wp,hwp⟩:∃ w',w'=wo.alloc (.cells #[.int .i64 z0,.int .i64 z1,.int .i64 z2,.int .i64 z3] 64):=⟨_,rfl⟩;obtain ⟨gp,hgp⟩:∃ g,g=wo.heap.size:=⟨_,rfl⟩;have p0:wp.cell? ⟨gp,0,none⟩=some (.int .i64 z0):=by rw [hwp,hgp];go_simp
   have p1:wp.cell? ⟨gp,1,none⟩=some (.int .i64 z1):=by rw [hwp,hgp];go_simp
   have p2:wp.cell? ⟨gp,2,none⟩=some (.int .i64 z2):=by rw [hwp,hgp];go_simp
   have p3:wp.cell? ⟨gp,3,none⟩=some (.int .i64 z3):=by rw [hwp,hgp];go_simp
   have HP:Hid (PW w gb (.slice (some ⟨b,off,none⟩) l.length c) u3 (jK l k) wp):=by show PW _ _ _ _ _ _;rw [hwp];exact HPW.out.keep Ba
   generalize jK l k=o at *
   clear hC hpw
   go_upto_region 5 with fail
   rw [← hwp,← hgp];clear hwp hgp x0 x1 x2 x3 hbl HPW
   go_wp2_with fail
   refine (HVK.out _).mono ?_;rintro e w1 ⟨rfl,hb1⟩;replace HP:=hid (HP.out.keep hb1);clear hb1 p0 p1 p2 p3 HVK
   cases vk with
   | true =>
    have HO2:Hid (jK l (k+1)=o ++ [k]):=by show _=_;rw [HO.out];rfl
    clear HO
    go_wp2_with (at_builtin;refine dS NR rfl _ _ rfl (gb+1) _ _ rfl (HP.out.own.alloc _) w1.heap.size 0 1 1 [k] rfl rfl (zC (by go_simp)) (by have:=HOL.out;simp;omega) (by have:=HOL.out;simp;omega) (by have:=lt_of_cell HP.out.cb;simp;omega) ?_;intro v' w7 ho1 hg1 hat;have HP7:=hid ((HP.out.keep Ba).app ho1 hg1);clear ho1 hg1 hat)
    clear HP;go_roundw
    case rel=>exact ⟨k+1,hlt,by go_num,by rw [HO2.out];exact HP7.out⟩
    case measure=>simp [intOf];omega
   | false =>
    have HO2:Hid (jK l (k+1)=o):=by show _=_;rw [HO.out];simp
    clear HO;go_wp2;go_roundw
    case rel=>exact ⟨k+1,hlt,by go_num,by rw [HO2.out];exact HP.out⟩
    case measure=>simp [intOf];omega
  ·have hke : k = l.length := by omega
   subst hke;have hol:=I8 l l.length;have HMEM:Hid (∀ k,k ∈ jK l l.length→k<l.length):=fun k hk=>KC hk
   have HSO:=hid (yZ l (jK l l.length) HMEM.out gb c (gb+1) _ wo (fun hne=>by
    obtain ⟨b,off,e,hC⟩:=HS.out.at_ (by intro h;subst h;exact hne rfl)
    exact ⟨b,off,by rw [← e];exact hpw.cb,by have:=hC.lt;have:=HGB.out;omega,hC.below (by have:=hpw.bel;exact this)⟩) (Nat.lt_succ_self gb) hpw.own (by omega))
   obtain ⟨hcb,hown,hbel,hle⟩:=hpw;have HCB:=hid hcb;have HOWN:=hid hown;have HBEL:=hid hbel;have HLE:=hid hle;clear hcb hown hbel hle HPW
   go_wp2_with fail
   refine HSO.out.mono ?_;rintro e w2 ⟨rfl,⟨o,hperm,hsrt,how⟩,hgr⟩;have HCB2:=hid (hgr.cell HCB.out (HOWN.out.ne (Nat.lt_succ_self gb)));have HBEL2:=hid (HBEL.out.grown hgr HBEL.out.size (fun k hk=>by have:=(HOWN.out.lt hk).1;have:=HLE.out;omega));have HPERM:=hid hperm;have HSRT:=hid hsrt;have HOM:Hid (∀ k ∈ o,k<l.length):=fun k hk=>HMEM.out k (HPERM.out.mem_iff.1 hk)
   have HOL:Hid (o.length≤1000):=by show _≤_;rw [HPERM.out.length_eq];omega
   have hgb2:=lt_of_cell HCB2.out;have hw2:=HBEL2.out.size;obtain ⟨Ao,no,co,rfl,hso,-⟩:=how.sl;have hno:=hso.len;subst hno;have HSO2:=hid hso;have hol2:=HOL.out;clear HSO hperm hsrt how hgr HCB HOWN HBEL HLE hso hlt hk hol HMEM;go_wp2
   go_loopw [6,7,31] (fun s t j wr=>∃ m:Nat,m≤o.length∧j = .int .i64 m∧PX w2 s (tH l (o.take m) ([],[])).1 t (tH l (o.take m) ([],[])).2 wr) (fun _ _ j _=>o.length-(intOf j).toNat)
   case atStart=>exact ⟨0,Nat.zero_le _,rfl,aU.nil _ _ _ _,aU.nil _ _ _ _,.inl rfl,Below.refl _ _⟩
   case round =>
    obtain ⟨m,hm,rfl,hpx⟩:=hrel;obtain ⟨wo2,rfl⟩:∃ wo:World,wo=wr:=⟨_,rfl⟩;have HPX:=hid hpx
    by_cases hlt:m<o.length
    ·have hlt' : (m : Int) < (o.length : Int) := by omega
     have hwkm:IntKind.i64.wrap ((m:Int)+1)=(m:Int)+1:=IntWalk.i64_in _ (by omega);have HST:Hid (tH l (o.take (m+1)) ([],[])=(kS l (tH l (o.take m) ([],[])).1 o[m] ++ [o[m]],(tH l (o.take m) ([],[])).2 ++ lV l (kS l (tH l (o.take m) ([],[])).1 o[m]) o[m])):=DY o m _ hlt;have hil:=HOM.out o[m] (List.getElem_mem hlt);obtain ⟨sl1,sl2⟩:=Bn (l:=l) (o.take m) ([],[]);have htl:(o.take m).length=m:=by rw [List.length_take];omega
     rw [htl] at sl1 sl2
     have HOP:Hid (∀ k ∈ (tH l (o.take m) ([],[])).1,k<l.length):=fun k hk=>by
      rcases He _ _ k hk with g | g
      ·cases g
      ·exact HOM.out k (List.mem_of_mem_take g)
     obtain ⟨bO,oO,hAo,hCo⟩:=(HSO2.out.below hpx.bel).at_ (by intro h;rw [h] at hlt;simp at hlt);subst hAo;have xo:=hCo.nat hlt;have hblo:=hCo.lt;generalize (tH l (o.take m) ([],[])).1=op at *
     generalize (tH l (o.take m) ([],[])).2=out at *
     have HOPL:Hid (op.length≤1000):=by show _≤_;simp at sl1;omega
     have HOUL:Hid (out.length≤1000000):=by
      show _≤_;simp at sl2;have:m*m≤1000*1000:=Nat.mul_le_mul (by omega) (by omega);omega
     obtain ⟨i,hie⟩:∃ i,i=o[m]:=⟨_,rfl⟩;rw [← hie] at HST hil xo;have hil':(i:Int)<(l.length:Int):=by omega
     obtain ⟨b,off,hA,hC0⟩:=HS.out.at_ (by intro h;rw [h] at hil;simp at hil);subst hA;have hb0:=hC0.lt;have HC0:=hid hC0;obtain ⟨gi,hgi⟩:∃ g,g=wo2.heap.size:=⟨_,rfl⟩;obtain ⟨wi,hwi⟩:∃ w',w'=wo2.alloc (.cells #[.int .i64 i] 3):=⟨_,rfl⟩;have HPY:Hid (PY w2 gi i u6 op u7 out wi):=⟨by rw [hwi];exact hpx.keep Ba,by rw [hwi,hgi];go_simp,fun k hk=>by rw [hgi];have:=(hpx.o1.lt hk).2;omega,fun k hk=>by rw [hgi];have:=(hpx.o2.lt hk).2;omega⟩;have HBI:Hid (Below w.heap.size w wi):=HBEL2.out.trans (HPY.out.px.bel.mono hw2);have HDL:=hid (yV l op i HOP.out hil gb gi b off c w2.heap.size _ wi (keepCell HPY.out.px.bel HCB2.out) HPY.out.ci HPY.out.ns (HC0.out.below HBI.out) hgb2 (by omega) HPY.out.px.o1 (by have:=HOPL.out;omega));clear hpx hCo hC0 hie sl1 sl2 htl HPX
     go_upto_region 14 with fail
     rw [← hwi,← hgi];clear hwi hgi xo hblo
     go_wp2_with fail
     refine HDL.out.mono ?_;rintro e w5 ⟨⟨s',rfl,hat,ho1⟩,hg⟩;have HPY5:Hid (PY w2 gi i s' (kS l op i) u7 out w5):=⟨HPY.out.px.set1 ho1 hg (.inl hat),hg.cell HPY.out.ci (fun e=>HPY.out.ns gi e.symm rfl),fun k hk=>HPY.out.ns k (by rw [← hat];exact hk),HPY.out.nt⟩;have HKL:Hid ((kS l op i).length≤1000):=by have:=Dw l op i;have:=HOPL.out;show _≤_;omega
     have HKM:Hid (∀ k ∈ kS l op i,k<l.length):=fun k hk=>HOP.out k (List.mem_filter.1 hk).1
     generalize kS l op i=op1 at *
     obtain ⟨A1,n1,c1,rfl,hs1,-⟩:=ho1.sl;have hn1:=hs1.len;subst hn1;have hkl:=HKL.out;clear HDL hat ho1 hg hs1 HPY HBI HOP HOPL;go_wp2
     go_loopw [7,40] (fun t j wr=>∃ k:Nat,k≤op1.length∧j = .int .i64 k∧PY w2 gi i (.slice A1 op1.length c1) op1 t (out ++ lV l (op1.take k) i) wr) (fun _ j _=>op1.length-(intOf j).toNat)
     case atStart=>exact ⟨0,Nat.zero_le _,rfl,by simpa [lV] using HPY5.out⟩
     case round =>
      clear HPY5;obtain ⟨k,hk,rfl,hpy⟩:=hrel;obtain ⟨wv,rfl⟩:∃ wo:World,wo=wr:=⟨_,rfl⟩;have HPY:=hid hpy
      by_cases hlt2:k<op1.length
      ·have hlt2' : (k : Int) < (op1.length : Int) := by omega
       have hwkk:IntKind.i64.wrap ((k:Int)+1)=(k:Int)+1:=IntWalk.i64_in _ (by omega);have HOT:=hid (IZ l op1 i k hlt2);have hkl2:=HKM.out op1[k] (List.getElem_mem hlt2);have HOTL:Hid ((lV l (op1.take k) i).length≤1000):=by have:=DT l (op1.take k) i;rw [List.length_take] at this;show _≤_;omega
       rcases hpy.px.o1.form with ⟨e1,e2⟩ | ⟨g1,cp1,e1,hB1,hg1,hn1,hm1,hf1,hc1⟩
       ·rw [e2] at hlt2;simp at hlt2
       ·cases e1
        have xk:=hc1.nat hlt2;rw [Nat.zero_add] at xk;obtain ⟨kk,hkk⟩:∃ i,i=op1[k]:=⟨_,rfl⟩;rw [← hkk] at HOT hkl2 xk;have hkl2':(kk:Int)<(l.length:Int):=by omega
        have hBw:Below w.heap.size w wv:=HBEL2.out.trans (hpy.px.bel.mono hw2);have hCv:=HC0.out.below hBw;obtain ⟨-,u1,-,u3⟩:=hCv.box hil;obtain ⟨-,v1,-,v3⟩:=hCv.box hkl2;have g0:=keepCell hpy.px.bel HCB2.out;have g1':=hpy.ci;have hblv:=hCv.lt;have HYM:Hid (xD l i kk=(decide ((bG l kk).1.2≤(bG l i).2.2) && decide ((bG l i).1.2≤(bG l kk).2.2))):=rfl;generalize xD l i kk=ym at *
        generalize (bG l i).1.2=x1 at *
        generalize (bG l i).2.2=x3 at *
        generalize (bG l kk).1.2=y1 at *
        generalize (bG l kk).2.2=y3 at *
        have hBv:Below wv.heap.size wv wv.drew:=(Below.refl _ _).drew;clear hpy hc1 hCv hBw hkk hf1
        by_cases d1:y1≤x3
        ·go_upto_region 18 with fail
         refine wp_region_noPanic ?_;refine au (S:=(S2 (fun w'=>w'.cell? ⟨gb,0,none⟩=some (.slice (some ⟨b,off,none⟩) l.length c)∧w'.cell? ⟨gi,0,none⟩=some (.int .i64 i)∧w'.cell? ⟨b,off+i*4+1,none⟩=some (.int .i64 x1)∧w'.cell? ⟨b,off+i*4+3,none⟩=some (.int .i64 x3)∧w'.cell? ⟨b,off+kk*4+1,none⟩=some (.int .i64 y1)∧w'.cell? ⟨b,off+kk*4+3,none⟩=some (.int .i64 y3)∧Below wv.heap.size wv w'))) (T:=(fun _=>0)) (by kernel_rfl) (aC ⟨g0,g1',u1,u3,v1,v3,hBv⟩) (fun hH=>?_);have hWr1:aH (S2 (fun w'=>w'.cell? ⟨gb,0,none⟩=some (.slice (some ⟨b,off,none⟩) l.length c)∧w'.cell? ⟨gi,0,none⟩=some (.int .i64 i)∧w'.cell? ⟨b,off+i*4+1,none⟩=some (.int .i64 x1)∧w'.cell? ⟨b,off+i*4+3,none⟩=some (.int .i64 x3)∧w'.cell? ⟨b,off+kk*4+1,none⟩=some (.int .i64 y1)∧w'.cell? ⟨b,off+kk*4+3,none⟩=some (.int .i64 y3)∧Below wv.heap.size wv w')):=aK _;refine dn [(0,44),(1,45),(2,46),(3,47),(4,48),(5,49),(6,50),(7,51),(8,52),(9,53),(10,54),(11,55),(12,56),(13,57),(14,58),(15,59),(16,60),(17,61),(18,62),(19,63),(20,64),(21,65),(22,66),(23,67),(24,68),(25,69),(26,70),(27,71)] 0 0 0 (L':=?Lr1_1) hWr1 hH ?hyr1_1 ?_
         case hyr1_1=>((iterate 28 apply dA;rfl;kernel_rfl;intro w' hSw;replace hSw:=aA hSw;(try dsimp only at hSw);have q0:=hSw.1;have q1:=hSw.2.1;have q2:=hSw.2.2.1;have q3:=hSw.2.2.2.1;have q4:=hSw.2.2.2.2.1;have q5:=hSw.2.2.2.2.2.1;have q6:=hSw.2.2.2.2.2.2;(try simp only [sB,sC]);go_simp;(try with_reducible rfl));exact dw)
         simp only [sB,sC];refine ak (by kernel_rfl) ?_ _ _;refine NoPanic.normal ?_;clear hWr1;replace hH:=aA hH
         (try dsimp only at hH)
         have q0:=hH.1;have q1:=hH.2.1;have q2:=hH.2.2.1;have q3:=hH.2.2.2.1;have q4:=hH.2.2.2.2.1;have q5:=hH.2.2.2.2.2.1;have q6:=hH.2.2.2.2.2.2;clear hH;have HPQ:=hid (HPY.out.keep q6);clear HPY g0 g1' u1 u3 v1 v3 hBv q0 q2 q3 q4 q5 q6 xk;generalize wv.drew=wq at *
         by_cases d2:x1≤y3
         ·have HO2 : Hid (lV l (op1.take (k + 1)) i = lV l (op1.take k) i ++ [EM i kk]) := by show _ = _; rw [HOT.out, HYM.out, decide_eq_true d1, decide_eq_true d2]; rfl
          have e1:((EM i kk).1:Int)=min (i:Int) (kk:Int):=by unfold EM;dsimp only;omega
          have e2:((EM i kk).2:Int)=max (i:Int) (kk:Int):=by unfold EM;dsimp only;omega
          have HE:=hid (And.intro e1 e2);clear HOT HYM e1 e2
          go_wp2_with (at_builtin;refine dS OD rfl _ _ rfl w2.heap.size _ _ rfl (HPQ.out.px.o2.alloc _) wq.heap.size 0 1 1 [EM i kk] rfl rfl (Fh (by rw [HE.out.1];go_simp) (by rw [HE.out.2];go_simp)) (by have:=HOUL.out;have:=HOTL.out;simp;omega) (by have:=HOUL.out;have:=HOTL.out;simp;omega) (by have:=HPQ.out.px.bel.size;simp;omega) ?_;intro v' w7 ho1 hg1 hat;have HP7:=hid ((HPQ.out.keep Ba).set2 ho1 hg1 hat);clear ho1 hg1 hat)
          clear HPQ q1;go_roundw
          case rel=>exact ⟨k+1,hlt2,by go_num,by rw [HO2.out,← List.append_assoc];exact HP7.out⟩
          case measure=>simp [intOf];omega
         ·have HO2 : Hid (lV l (op1.take (k + 1)) i = lV l (op1.take k) i) := by show _ = _; rw [HOT.out, HYM.out, decide_eq_true d1, decide_eq_false d2]; simp
          clear HOT HYM q1;go_wp2;go_roundw
          case rel=>exact ⟨k+1,hlt2,by go_num,by rw [HO2.out];exact HPQ.out⟩
          case measure=>simp [intOf];omega
        ·go_upto_region 18 with fail
         refine wp_region_noPanic ?_;refine au (S:=(S2 (fun w'=>w'.cell? ⟨gb,0,none⟩=some (.slice (some ⟨b,off,none⟩) l.length c)∧w'.cell? ⟨gi,0,none⟩=some (.int .i64 i)∧w'.cell? ⟨b,off+i*4+1,none⟩=some (.int .i64 x1)∧w'.cell? ⟨b,off+i*4+3,none⟩=some (.int .i64 x3)∧w'.cell? ⟨b,off+kk*4+1,none⟩=some (.int .i64 y1)∧w'.cell? ⟨b,off+kk*4+3,none⟩=some (.int .i64 y3)∧Below wv.heap.size wv w'))) (T:=(fun _=>0)) (by kernel_rfl) (aC ⟨g0,g1',u1,u3,v1,v3,hBv⟩) (fun hH=>?_);have hWr2:aH (S2 (fun w'=>w'.cell? ⟨gb,0,none⟩=some (.slice (some ⟨b,off,none⟩) l.length c)∧w'.cell? ⟨gi,0,none⟩=some (.int .i64 i)∧w'.cell? ⟨b,off+i*4+1,none⟩=some (.int .i64 x1)∧w'.cell? ⟨b,off+i*4+3,none⟩=some (.int .i64 x3)∧w'.cell? ⟨b,off+kk*4+1,none⟩=some (.int .i64 y1)∧w'.cell? ⟨b,off+kk*4+3,none⟩=some (.int .i64 y3)∧Below wv.heap.size wv w')):=aK _;refine dn [(0,44),(1,45),(2,46),(3,47),(4,48),(5,49),(6,50),(7,51),(8,52),(9,53),(10,54),(11,55),(12,56),(13,57)] 14 0 0 (L':=?Lr2_1) hWr2 hH ?hyr2_1 ?_
         case hyr2_1=>((iterate 14 apply dA;rfl;kernel_rfl;intro w' hSw;replace hSw:=aA hSw;(try dsimp only at hSw);have q0:=hSw.1;have q1:=hSw.2.1;have q2:=hSw.2.2.1;have q3:=hSw.2.2.2.1;have q4:=hSw.2.2.2.2.1;have q5:=hSw.2.2.2.2.2.1;have q6:=hSw.2.2.2.2.2.2;(try simp only [sB,sC]);go_simp;(try with_reducible rfl));exact dw)
         simp only [sB,sC];refine kX (by kernel_rfl) (fun _ _ _ _ h=>h) hWr2 0 0 (by omega) hH [(14,58),(15,59),(16,60),(17,61),(18,62),(19,63),(20,64),(21,65),(22,66),(23,67),(24,68),(25,69),(26,70)] 1 _ _ _ (by kernel_rfl) (by kernel_rfl) ?_;simp only [fZ,List.set_cons_zero,List.set_cons_succ];refine Ut 27 71 0 0 0 (v:=?vr2_15) rfl hWr2 hH ?hyr2_15 ?_
         case hyr2_15=>(intro w' hSw;clear hSw;go_simp;try (with_reducible rfl))
         simp only [sB,sC];refine ak (by kernel_rfl) ?_ _ _;refine NoPanic.normal ?_;clear hWr2;replace hH:=aA hH
         (try dsimp only at hH)
         have q0:=hH.1;have q1:=hH.2.1;have q2:=hH.2.2.1;have q3:=hH.2.2.2.1;have q4:=hH.2.2.2.2.1;have q5:=hH.2.2.2.2.2.1;have q6:=hH.2.2.2.2.2.2;clear hH;have HPQ:=hid (HPY.out.keep q6);have HO2:Hid (lV l (op1.take (k+1)) i=lV l (op1.take k) i):=by show _=_;rw [HOT.out,HYM.out,decide_eq_false d1];simp
         clear HPY g0 g1' u1 u3 v1 v3 hBv q0 q1 q2 q3 q4 q5 q6 xk HOT HYM;generalize wv.drew=wq at *
         go_wp2;go_roundw
         case rel=>exact ⟨k+1,hlt2,by go_num,by rw [HO2.out];exact HPQ.out⟩
         case measure=>simp [intOf];omega
      ·have hke : k = op1.length := by omega
       subst hke;rw [List.take_length] at HPY;have ci:=hpy.ci;clear hpy
       go_wp2_with (at_builtin;refine dS NR rfl _ _ rfl w2.heap.size _ _ rfl (HPY.out.px.o1.alloc _) wv.heap.size 0 1 1 [i] rfl rfl (zC (by go_simp)) (by have:=HKL.out;simp;omega) (by have:=HKL.out;simp;omega) (by have:=HPY.out.px.bel.size;simp;omega) ?_;intro v' w7 ho1 hg1 hat;have HP7:=hid ((HPY.out.px.keep Ba).set1 ho1 hg1 hat);clear ho1 hg1 hat)
       clear HPY ci;go_roundw
       case rel=>exact ⟨m+1,hlt,by go_num,by rw [HST.out];exact HP7.out⟩
       case measure=>simp [intOf];omega
    ·have hme : m = o.length := by omega
     subst hme;rw [List.take_length] at HPX;have hfin:=Bn (l:=l) o ([],[])
     have hfl:(tH l o ([],[])).2.length≤1000000:=by
      have:=hfin.2;simp at this;have:o.length*o.length≤1000*1000:=Nat.mul_le_mul (by omega) (by omega);omega
     have HSP:=hid (vM _ w2.heap.size _ wo2 HPX.out.o2 hfl);clear hpx hfin hfl
     go_wp2_with fail
     refine HSP.out.mono ?_;rintro e w5 ⟨rfl,⟨r,hrp,hrs,hro⟩,hg⟩;have HLAW:=hid (Jh HPERM.out HSRT.out hrp (hrs.imp fun h=>Int.not_lt.2 h));have HB5:Hid (Below w.heap.size w w5):=HBEL2.out.trans ((HPX.out.bel.grown hg HPX.out.bel.size (fun k hk=>(HPX.out.o2.lt hk).1)).mono hw2);obtain ⟨Ar,nr,cr,rfl,hsr,hfr⟩:=hro.sl;have HRT:Hid (Ko (jd l) w (.returned (.slice Ar nr cr)) w5):=⟨_,rfl,by rw [← HLAW.out];exact hro.mono hw2,HB5.out⟩;clear hrp hrs hro hg HSP HLAW HB5 hsr hfr HPX;go_wp2;refine bodyPost_ret (v:=.slice Ar nr cr) (by simp [results,Tryz.results30,go_sem]) rfl HRT.out
theorem CQ (A:Option Addr) (n c:Nat) (l:List Bx) (w:World) (hS:dW dP w A n c l) (hlen:l.length≤1000):Calls Tryz.prog 30 #[.slice A n c] w (Og (jd l) w) :=
 (sK A n c l w hS hlen).mono fun e w' h=>by
  obtain ⟨s,rfl,ho,hb⟩:=h
  obtain ⟨A',n',c',rfl,hs,hf⟩:=ho.sl
  exact ⟨A',n',c',rfl,hs,hf,hb⟩
end
end Go.Proofs.YtokgmcomgflloaaGreat
