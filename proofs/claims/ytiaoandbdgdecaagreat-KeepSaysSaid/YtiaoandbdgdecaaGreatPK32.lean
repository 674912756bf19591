/- Parts of a proof: contracts and laws. -/
import Derived.Test.YtiaoandbdgdecaaGreatPK20
import Derived.Test.YtiaoandbdgdecaaGreatPK13
import Derived.Test.YtiaoandbdgdecaaGreatPK31
import Derived.Test.YtiaoandbdgdecaaGreatPK12
import Derived.Test.YtiaoandbdgdecaaGreatPK15
set_option maxRecDepth 100000
set_option maxHeartbeats 16000000
namespace Go.Proofs.YtiaoandbdgdecaaGreat
section
set_option linter.unusedVariables false
set_option linter.unusedSimpArgs false
open Go.RowKit
def vldB (b:Bx):Bool:=decide (b.1.1≤b.2.1∧b.1.2≤b.2.2)

def tchB (a b:Bx):Bool:=vldB a && (vldB b && (decide (a.1.1≤b.2.1) && (decide (b.1.1≤a.2.1) && (decide (a.1.2≤b.2.2) && decide (b.1.2≤a.2.2)))))
theorem tchB_iff {a b:Bx}:tchB a b=true↔(a.1.1≤a.2.1∧a.1.2≤a.2.2)∧(b.1.1≤b.2.1∧b.1.2≤b.2.2)∧a.1.1≤b.2.1∧b.1.1≤a.2.1∧a.1.2≤b.2.2∧b.1.2≤a.2.2:=by
 unfold tchB vldB
 simp only [Bool.and_eq_true,decide_eq_true_iff]
theorem tchB_comm (a b:Bx):tchB a b=tchB b a:=by
 rw [Bool.eq_iff_iff,tchB_iff,tchB_iff]
 omega
def ltP (p q:Nat × Nat):Prop:=p.1<q.1∨(p.1=q.1∧p.2<q.2)
instance (p q:Nat × Nat):Decidable (ltP p q):=by unfold ltP;infer_instance
def rowP (l:List Bx) (i m:Nat):List (Nat × Nat):=((List.range m).filter fun k=>decide (i<k) && tchB (bxAt l i) (bxAt l k)).map fun k=>(i,k)
def prsTo (l:List Bx) (m:Nat):List (Nat × Nat):=(List.range m).flatMap fun i=>rowP l i l.length
def pairsL (l:List Bx):List (Nat × Nat):=prsTo l l.length
theorem mem_row {l:List Bx} {i m:Nat} {p:Nat × Nat}:p ∈ rowP l i m↔p.1=i∧p.2<m∧i<p.2∧tchB (bxAt l i) (bxAt l p.2)=true:=by
 unfold rowP
 simp only [List.mem_map,List.mem_filter,List.mem_range,Bool.and_eq_true,decide_eq_true_iff]
 constructor
 ·rintro ⟨k, ⟨h1, h2, h3⟩, rfl⟩
  exact ⟨rfl,h1,h2,h3⟩
 ·rintro ⟨h1, h2, h3, h4⟩
  exact ⟨p.2,⟨h2,h3,h4⟩,by rw [← h1]⟩
theorem mem_pairs {l:List Bx} {p:Nat × Nat}:p ∈ pairsL l↔p.1<p.2∧p.2<l.length∧tchB (bxAt l p.1) (bxAt l p.2)=true:=by
 unfold pairsL prsTo
 simp only [List.mem_flatMap,List.mem_range,mem_row]
 constructor
 ·rintro ⟨i, h, rfl, h1, h2, h3⟩
  exact ⟨h2,h1,h3⟩
 ·rintro ⟨h1, h2, h3⟩
  exact ⟨p.1,by omega,rfl,h2,h1,h3⟩
theorem row_sorted (l:List Bx) (i m:Nat):(rowP l i m).Pairwise ltP:=by
 unfold rowP
 rw [List.pairwise_map]
 refine (List.Pairwise.filter _ List.pairwise_lt_range).imp fun h=>?_
 exact .inr ⟨rfl,h⟩
theorem pairs_sorted (l:List Bx):(pairsL l).Pairwise ltP:=by
 unfold pairsL prsTo
 rw [List.pairwise_flatMap]
 refine ⟨fun i _=>row_sorted l i _,List.pairwise_lt_range.imp fun {i j} h=>fun x hx y hy=>?_⟩
 have h1:=(mem_row.1 hx).1
 have h2:=(mem_row.1 hy).1
 exact .inl (by omega)
theorem ltP_irrefl {p:Nat × Nat} (h:ltP p p):False:=by unfold ltP at h;omega
theorem ltP_trans {p q r:Nat × Nat} (h:ltP p q) (k:ltP q r):ltP p r:=by unfold ltP at *;omega
theorem ltP_asymm {p q:Nat × Nat} (h:ltP p q) (k:ltP q p):False:=ltP_irrefl (ltP_trans h k)
theorem sorted_eq : ∀ {l m : List (Nat × Nat)}, l.Pairwise ltP → m.Pairwise ltP → (∀ p, p ∈ l ↔ p ∈ m) → l = m
 | [],[],_,_,_=>rfl
 | [],q :: m,_,_,h=>by have:=(h q).2 (List.mem_cons_self ..);cases this
 | p :: l,[],_,_,h=>by have:=(h p).1 (List.mem_cons_self ..);cases this
 | p :: l,q :: m,hl,hm,h=>by
  rw [List.pairwise_cons] at hl hm
  have e:p=q:=by
   rcases List.mem_cons.1 ((h p).1 (List.mem_cons_self ..)) with g | g
   ·exact g
   ·rcases List.mem_cons.1 ((h q).2 (List.mem_cons_self ..)) with k | k
    ·exact k.symm
    ·exact absurd (hm.1 p g) (fun a=>ltP_asymm a (hl.1 q k))
  subst e
  have:l=m:=sorted_eq hl.2 hm.2 fun r=>by
   constructor
   ·intro hr
    rcases List.mem_cons.1 ((h r).1 (List.mem_cons_of_mem _ hr)) with g | g
    ·subst g;exact absurd (hl.1 r hr) ltP_irrefl
    ·exact g
   ·intro hr
    rcases List.mem_cons.1 ((h r).2 (List.mem_cons_of_mem _ hr)) with g | g
    ·subst g;exact absurd (hm.1 r hr) ltP_irrefl
    ·exact g
  rw [this]

def opnK (l:List Bx) (op:List Nat) (i:Nat):List Nat:=op.filter fun k => !decide ((bxAt l k).2.1<(bxAt l i).1.1)
def yMeet (l:List Bx) (i k:Nat):Bool:=decide ((bxAt l k).1.2≤(bxAt l i).2.2) && decide ((bxAt l i).1.2≤(bxAt l k).2.2)
def mkP (i k:Nat):Nat × Nat:=(min i k,max i k)
def outK (l:List Bx) (op:List Nat) (i:Nat):List (Nat × Nat):=(op.filter fun k=>yMeet l i k).map fun k=>mkP i k

def swS (l : List Bx) : List Nat → List Nat × List (Nat × Nat) → List Nat × List (Nat × Nat)
 | [],s=>s
 | i :: o,s=>swS l o (opnK l s.1 i ++ [i],s.2 ++ outK l (opnK l s.1 i) i)

structure SwI (l : List Bx) (pre rest : List Nat) (s : List Nat × List (Nat × Nat)) : Prop where
 a1:s.1.Nodup
 a2:∀ k ∈ s.1,k ∈ pre
 b:∀ k ∈ pre,k ∉ s.1→∀ j ∈ rest,(bxAt l k).2.1<(bxAt l j).1.1
 c1:s.2.Nodup
 c2:∀ p,p ∈ s.2↔p.1<p.2∧p.1 ∈ pre∧p.2 ∈ pre∧tchB (bxAt l p.1) (bxAt l p.2)=true
theorem mkP_inj {i k k':Nat} (h:mkP i k=mkP i k'):k=k':=by
 unfold mkP at h
 have h1:=congrArg Prod.fst h
 have h2:=congrArg Prod.snd h
 dsimp only at h1 h2
 omega
theorem sw_step {l : List Bx} {pre rest : List Nat} {i : Nat} {s : List Nat × List (Nat × Nat)} (h : SwI l pre (i :: rest) s) (hi : i ∉ pre) (hv : ∀ k ∈ pre, vldB (bxAt l k) = true) (hvi : vldB (bxAt l i) = true)
  (hlo:∀ k ∈ pre,(bxAt l k).1.1≤(bxAt l i).1.1) (hr:∀ j ∈ rest,(bxAt l i).1.1≤(bxAt l j).1.1) :
  SwI l (pre ++ [i]) rest (opnK l s.1 i ++ [i],s.2 ++ outK l (opnK l s.1 i) i):=by
 obtain ⟨a1,a2,b,c1,c2⟩:=h
 have mo:∀ k,k ∈ opnK l s.1 i↔k ∈ s.1∧¬ (bxAt l k).2.1<(bxAt l i).1.1:=fun k=>by
  unfold opnK
  rw [List.mem_filter]
  simp
 have nin:i ∉ opnK l s.1 i:=fun g=>hi (a2 i ((mo i).1 g).1)
 have vi:(bxAt l i).1.1≤(bxAt l i).2.1∧(bxAt l i).1.2≤(bxAt l i).2.2:=by unfold vldB at hvi;exact of_decide_eq_true hvi
 -- which boxes before meet box i
 have meets:∀ k ∈ pre,(k ∈ opnK l s.1 i∧yMeet l i k=true)↔tchB (bxAt l k) (bxAt l i)=true:=fun k hk=>by
  have vk:(bxAt l k).1.1≤(bxAt l k).2.1∧(bxAt l k).1.2≤(bxAt l k).2.2:=by have:=hv k hk;unfold vldB at this;exact of_decide_eq_true this
  have lk:=hlo k hk
  rw [tchB_iff,mo]
  unfold yMeet
  simp only [Bool.and_eq_true,decide_eq_true_iff]
  constructor
  ·rintro ⟨⟨h1, h2⟩, h3, h4⟩
   omega
  ·rintro ⟨-, -, h1, h2, h3, h4⟩
   refine ⟨⟨?_,by omega⟩,h3,h4⟩
   rcases Classical.em (k ∈ s.1) with g | g
   ·exact g
   ·have := b k hk g i (List.mem_cons_self ..)
    omega
 refine ⟨?_,?_,?_,?_,?_⟩
 ·rw [List.nodup_append]
  refine ⟨a1.filter _,by simp,fun a ha b hb e=>?_⟩
  rw [List.mem_singleton] at hb
  subst hb
  subst e
  exact nin ha
 ·intro k hk
  rw [List.mem_append,List.mem_singleton] at hk ⊢
  rcases hk with g | g
  ·exact .inl (a2 k ((mo k).1 g).1)
  ·exact .inr g
 ·intro k hk hno j hj
  rw [List.mem_append,List.mem_singleton] at hk
  rw [List.mem_append,List.mem_singleton] at hno
  rcases hk with g | g
  ·rcases Classical.em (k ∈ s.1) with q | q
   ·have:(bxAt l k).2.1<(bxAt l i).1.1:=by
     rcases Int.lt_or_le (bxAt l k).2.1 (bxAt l i).1.1 with r | r
     ·exact r
     ·exact absurd (.inl ((mo k).2 ⟨q,by omega⟩)) hno
    have:=hr j hj
    omega
   ·exact b k g q j (List.mem_cons_of_mem _ hj)
  ·exact absurd (.inr g) hno
 ·rw [List.nodup_append]
  refine ⟨c1,?_,fun p hp q hq e=>?_⟩
  ·unfold outK
   refine List.Pairwise.map _ (fun x y hxy e=>hxy (mkP_inj e)) ((a1.filter _).filter _)
  ·subst e
   unfold outK at hq
   obtain ⟨k,hk,rfl⟩:=List.mem_map.1 hq
   obtain ⟨_,h1,h2,_⟩:=(c2 _).1 hp
   unfold mkP at h1 h2
   dsimp only at h1 h2
   rcases Nat.le_total i k with g | g
   ·rw [Nat.min_eq_left g] at h1;exact hi h1
   ·rw [Nat.max_eq_left g] at h2;exact hi h2
 ·intro p
  rw [List.mem_append,c2]
  simp only [List.mem_append,List.mem_singleton]
  unfold outK
  rw [List.mem_map]
  constructor
  ·rintro (⟨h1, h2, h3, h4⟩ | ⟨k, hk, rfl⟩)
   ·exact ⟨h1,.inl h2,.inl h3,h4⟩
   ·rw [List.mem_filter] at hk
    have hkp:=a2 k ((mo k).1 hk.1).1
    have ht:=(meets k hkp).1 hk
    have hne:i≠k:=fun e=>hi (by rw [e];exact hkp)
    unfold mkP
    dsimp only
    rcases Nat.le_total i k with g | g
    ·rw [Nat.min_eq_left g, Nat.max_eq_right g]
     exact ⟨by omega,.inr rfl,.inl hkp,by rw [tchB_comm];exact ht⟩
    ·rw [Nat.min_eq_right g, Nat.max_eq_left g]
     exact ⟨by omega,.inl hkp,.inr rfl,ht⟩
  ·rintro ⟨h1, h2, h3, h4⟩
   rcases h2 with h2 | h2
   ·rcases h3 with h3 | h3
    ·exact .inl ⟨h1,h2,h3,h4⟩
    ·right
     rw [h3] at h1 h4
     refine ⟨p.1,?_,?_⟩
     ·rw [List.mem_filter]
      exact (meets _ h2).2 h4
     ·unfold mkP
      rw [Nat.min_eq_right (by omega),Nat.max_eq_left (by omega)]
      ext <;> simp [h3]
   ·rcases h3 with h3 | h3
    ·right
     rw [h2] at h1 h4
     refine ⟨p.2,?_,?_⟩
     ·rw [List.mem_filter]
      exact (meets _ h3).2 (by rw [tchB_comm];exact h4)
     ·unfold mkP
      rw [Nat.min_eq_left (by omega),Nat.max_eq_right (by omega)]
      ext <;> simp [h2]
    ·omega
theorem sw_run {l : List Bx} : ∀ (rest pre : List Nat) (s : List Nat × List (Nat × Nat)), SwI l pre rest s → (pre ++ rest).Nodup → (∀ k ∈ pre ++ rest, vldB (bxAt l k) = true) → (pre ++ rest).Pairwise (fun a b => (bxAt l a).1.1 ≤ (bxAt l b).1.1) →
  SwI l (pre ++ rest) [] (swS l rest s)
 | [],pre,s,h,_,_,_=>by rw [List.append_nil];exact h
 | i :: rest,pre,s,h,hn,hv,hp=>by
  have e:pre ++ i :: rest=(pre ++ [i]) ++ rest:=by simp
  rw [swS,e]
  refine sw_run rest (pre ++ [i]) _ ?_ (by rw [← e];exact hn) (by rw [← e];exact hv) (by rw [← e];exact hp)
  rw [List.nodup_append] at hn
  rw [List.pairwise_append] at hp
  obtain ⟨p1,p2,p3⟩:=hp
  rw [List.pairwise_cons] at p2
  exact sw_step h (fun g=>hn.2.2 i g i (List.mem_cons_self ..) rfl) (fun k hk=>hv k (List.mem_append_left _ hk)) (hv i (List.mem_append_right _ (List.mem_cons_self ..))) (fun k hk=>p3 k hk i (List.mem_cons_self ..)) p2.1

def ordTo (l:List Bx) (m:Nat):List Nat:=(List.range m).filter fun i=>vldB (bxAt l i)
theorem cmpPair_lt {p q:Nat × Nat}:cmpPair p q<0↔ltP p q:=by
 unfold cmpPair Lib.compareInt ltP
 split <;> (repeat' split) <;> omega

theorem sweep_law {l:List Bx} {o:List Nat} (ho:o.Perm (ordTo l l.length)) (hs:o.Pairwise (fun a b=>(bxAt l a).1.1≤(bxAt l b).1.1)) {r:List (Nat × Nat)} (hr:r.Perm (swS l o ([],[])).2) (hrs:r.Pairwise fun p q=>¬ cmpPair q p<0):r=pairsL l:=by
 have hmem:∀ k,k ∈ o↔k<l.length∧vldB (bxAt l k)=true:=fun k=>by
  rw [ho.mem_iff]
  unfold ordTo
  rw [List.mem_filter,List.mem_range]
 have hnd:o.Nodup:=ho.nodup_iff.2 (List.nodup_range.filter _)
 have h:=sw_run (l:=l) o [] ([],[]) ⟨List.nodup_nil,by simp,by simp,List.nodup_nil,by simp⟩ hnd (fun k hk=>((hmem k).1 hk).2) hs
 rw [List.nil_append] at h
 refine sorted_eq ?_ (pairs_sorted l) fun p=>?_
 ·have hn : r.Nodup := hr.nodup_iff.2 h.c1
  refine (hrs.and hn).imp fun {p q} hh=>?_
  obtain ⟨g1,g2⟩:=hh
  rw [cmpPair_lt] at g1
  unfold ltP at *
  rcases Nat.lt_trichotomy p.1 q.1 with a | a | a
  ·exact .inl a
  ·rcases Nat.lt_trichotomy p.2 q.2 with c | c | c
   ·exact .inr ⟨a,c⟩
   ·exact absurd (by ext <;> assumption) g2
   ·exact absurd (.inr ⟨a.symm,c⟩) g1
  ·exact absurd (.inl a) g1
 ·rw [hr.mem_iff, h.c2, mem_pairs, hmem, hmem]
  constructor
  ·rintro ⟨h1, ⟨h2, _⟩, ⟨h3, _⟩, h4⟩
   exact ⟨h1,h3,h4⟩
  ·rintro ⟨h1, h2, h3⟩
   have:=tchB_iff.1 h3
   exact ⟨h1,⟨by omega,by unfold vldB;exact decide_eq_true this.1⟩,⟨h2,by unfold vldB;exact decide_eq_true this.2.1⟩,h3⟩
end
end Go.Proofs.YtiaoandbdgdecaaGreat
namespace Go.Proofs.YtiaoandbdgdecaaGreat
section
set_option linter.unusedVariables false
set_option linter.unusedSimpArgs false
open Go.RowKit
def plB (x:BE):List V:=placeL x.b x.l

def bxB (x:BE):Bx:=((minL (xsL (plB x)),minL (ysL (plB x))),(maxL (xsL (plB x)),maxL (ysL (plB x))))
def massN (L:List BE) (i:Nat):Int:=match L[i]? with | some x=>x.b.mass | none=>0

def still2 (L:List BE) (p:Nat × Nat):Bool:=decide (massN L p.1=0) && decide (massN L p.2=0)
def nearL (L:List BE):List (Nat × Nat):=(pairsL (L.map bxB)).filter fun p => !still2 L p
def ptC (p:Nat × Nat) (t:Pt):Ct:=⟨p.1,p.2,t.2.2,t.1.1.1,t.1.1.2,t.1.2.1,t.1.2.2,t.2.1,0,0⟩
def plAt (L:List BE) (i:Nat):List V:=match L[i]? with | some x=>plB x | none=>[]

def fndP (L:List BE) (p:Nat × Nat):List Ct:=(ptsZ (plAt L p.1) (plAt L p.2)).map (ptC p)

def fndL (L:List BE):List Ct:=(nearL L).flatMap (fndP L)
theorem massN_at {L:List BE} {i:Nat} (h:i<L.length):massN L i=L[i].b.mass:=by unfold massN;rw [List.getElem?_eq_getElem h]
theorem plAt_at {L:List BE} {i:Nat} (h:i<L.length):plAt L i=plB L[i]:=by unfold plAt;rw [List.getElem?_eq_getElem h]
theorem bxAt_map {L:List BE} {i:Nat} (h:i<L.length):bxAt (L.map bxB) i=bxB L[i]:=by unfold bxAt;simp [h]
theorem mem_near {L:List BE} {p:Nat × Nat}:p ∈ nearL L↔(p.1<p.2∧p.2<L.length∧tchB (bxAt (L.map bxB) p.1) (bxAt (L.map bxB) p.2)=true)∧still2 L p=false:=by
 unfold nearL
 rw [List.mem_filter,mem_pairs,List.length_map]
 simp

def nearB (L:List BE) (i k:Nat):Bool := !still2 L (i,k) && tchB (bxAt (L.map bxB) i) (bxAt (L.map bxB) k)
def rowN (L:List BE) (i m:Nat):List (Nat × Nat):=((List.range m).filter fun k=>decide (i<k) && nearB L i k).map fun k=>(i,k)
def nearTo (L:List BE) (m:Nat):List (Nat × Nat):=(List.range m).flatMap fun i=>rowN L i L.length
theorem rowN_low (L:List BE) (i:Nat):rowN L i (i+1)=[]:=by
 unfold rowN
 rw [List.map_eq_nil_iff,List.filter_eq_nil_iff]
 intro k hk
 have:=List.mem_range.1 hk
 simp
 omega
theorem rowN_succ {L:List BE} {i k:Nat} (h:i<k):rowN L i (k+1)=rowN L i k ++ if nearB L i k=true then [(i,k)] else []:=by
 unfold rowN
 rw [List.range_succ,List.filter_append,List.map_append]
 congr 1
 cases hb:nearB L i k <;> simp [hb,h]
theorem nearTo_succ (L:List BE) (m:Nat):nearTo L (m+1)=nearTo L m ++ rowN L m L.length:=by
 unfold nearTo
 rw [List.range_succ,List.flatMap_append]
 simp
theorem filter_flatMap' {α β : Type} (f : α → List β) (p : β → Bool) : ∀ l : List α, (l.flatMap f).filter p = l.flatMap fun a => (f a).filter p
 | []=>rfl
 | a :: l=>by rw [List.flatMap_cons,List.flatMap_cons,List.filter_append,filter_flatMap' f p l]
theorem row_near (L:List BE) (i:Nat):(rowP (L.map bxB) i L.length).filter (fun p => !still2 L p)=rowN L i L.length:=by
 unfold rowP rowN
 rw [List.filter_map,List.filter_filter]
 congr 1
 refine List.filter_congr fun k _=>?_
 show (!still2 L (i,k) && (decide (i<k) && tchB _ _))=_
 unfold nearB
 cases decide (i<k) <;> cases still2 L (i,k) <;> rfl
theorem nearTo_all (L:List BE):nearTo L L.length=nearL L:=by
 unfold nearTo nearL pairsL prsTo
 rw [filter_flatMap',List.length_map]
 congr 1
 funext i
 exact (row_near L i).symm
theorem rowN_len (L:List BE) (i m:Nat):(rowN L i m).length≤m:=by
 unfold rowN
 rw [List.length_map]
 exact Nat.le_trans (List.length_filter_le _ _) (by simp)
theorem nearTo_len (L : List BE) : ∀ m, (nearTo L m).length ≤ m * L.length
 | 0=>by unfold nearTo;simp
 | m+1=>by
  rw [nearTo_succ,List.length_append,Nat.add_mul,Nat.one_mul]
  have:=nearTo_len L m
  have:=rowN_len L m L.length
  omega
theorem near_len (L:List BE):(nearL L).length≤L.length*L.length:=by rw [← nearTo_all];exact nearTo_len L L.length
theorem ptsG_len (ref:List V) (e:Nat) (way:V) (id:Int) (g:(V × V) × Bool) (k:Nat):(ptsG ref e way id g k).length≤2:=by
 unfold ptsG
 split
 ·simp
 ·split <;> simp
 ·rw [List.length_append]
  split <;> split <;> simp
theorem ptsR_len (ref inc:List V) (e:Nat) (way:V) (id0:Int):(ptsR ref inc e way id0).length≤2:=by
 unfold ptsR
 split
 ·simp
 ·exact ptsG_len _ _ _ _ _ _
theorem ptsZ_len (l m:List V):(ptsZ l m).length≤2:=by
 unfold ptsZ
 split
 ·simp
 ·split <;> exact ptsR_len _ _ _ _ _
theorem fndP_len (L:List BE) (p:Nat × Nat):(fndP L p).length≤2:=by unfold fndP;rw [List.length_map];exact ptsZ_len _ _
theorem flatK_len {α β : Type} {f : α → List β} {n : Nat} (h : ∀ a, (f a).length ≤ n) : ∀ l : List α, (l.flatMap f).length ≤ l.length * n
 | []=>by simp
 | a :: l=>by
  rw [List.flatMap_cons,List.length_append,List.length_cons,Nat.add_mul,Nat.one_mul]
  have:=h a
  have:=flatK_len h l
  omega
theorem pairs_len (l:List Bx):(pairsL l).length≤l.length*l.length:=by
 have h1:=flatK_len (f:=fun i=>rowP l i l.length) (n:=l.length) (fun i=>by unfold rowP;rw [List.length_map];exact Nat.le_trans (List.length_filter_le _ _) (by simp)) (List.range l.length)
 rw [List.length_range] at h1
 exact h1
theorem fnd_len (L:List BE):(fndL L).length≤L.length*L.length*2:=by
 have h1:=flatK_len (fndP_len L) (nearL L)
 have h2:=Nat.mul_le_mul_right 2 (near_len L)
 unfold fndL
 omega

def fndTo (L:List BE) (P:List (Nat × Nat)) (m:Nat):List Ct:=(P.take m).flatMap (fndP L)
theorem fndTo_succ {L:List BE} {P:List (Nat × Nat)} {m:Nat} (h:m<P.length):fndTo L P (m+1)=fndTo L P m ++ fndP L P[m]:=by
 unfold fndTo
 rw [List.take_succ_eq_append_getElem h,List.flatMap_append]
 simp
theorem fndTo_all (L:List BE):fndTo L (nearL L) (nearL L).length=fndL L:=by unfold fndTo fndL;rw [List.take_length]
theorem fndTo_len (L:List BE) (P:List (Nat × Nat)) (m:Nat):(fndTo L P m).length≤P.length*2:=by
 have h1:=flatK_len (fndP_len L) (P.take m)
 have h2:(P.take m).length≤P.length:=by rw [List.length_take];omega
 have h3:=Nat.mul_le_mul_right 2 h2
 unfold fndTo
 omega
theorem carL_take {old C:List Ct} {k:Nat} (h:k<C.length):carL old (C.take (k+1))=carL old (C.take k) ++ [carC old C[k]]:=by
 unfold carL
 rw [List.take_succ_eq_append_getElem h,List.map_append]
 rfl
end
end Go.Proofs.YtiaoandbdgdecaaGreat
