/- Parts of a proof: contracts and laws. -/
import Derived.Test.YtokgmcomgflloaaGreatQA18
set_option maxRecDepth 100000
set_option maxHeartbeats 16000000
namespace Go.Proofs.YtokgmcomgflloaaGreat
section
set_option linter.unusedVariables false
set_option linter.unusedSimpArgs false
open Go.RowKit
def jD (b:Bx):Bool:=decide (b.1.1≤b.2.1∧b.1.2≤b.2.2)

def vS (a b:Bx):Bool:=jD a && (jD b && (decide (a.1.1≤b.2.1) && (decide (b.1.1≤a.2.1) && (decide (a.1.2≤b.2.2) && decide (b.1.2≤a.2.2)))))
theorem sO {a b:Bx}:vS a b=true↔(a.1.1≤a.2.1∧a.1.2≤a.2.2)∧(b.1.1≤b.2.1∧b.1.2≤b.2.2)∧a.1.1≤b.2.1∧b.1.1≤a.2.1∧a.1.2≤b.2.2∧b.1.2≤a.2.2:=by
 unfold vS jD;simp only [Bool.and_eq_true,decide_eq_true_iff]
theorem zM (a b:Bx):vS a b=vS b a:=by
 rw [Bool.eq_iff_iff,sO,sO];omega
def Bv (p q:Nat × Nat):Prop:=p.1<q.1∨(p.1=q.1∧p.2<q.2)
instance (p q:Nat × Nat):Decidable (Bv p q):=by unfold Bv;infer_instance
def rowP (l:List Bx) (i m:Nat):List (Nat × Nat):=((List.range m).filter fun k=>decide (i<k) && vS (bG l i) (bG l k)).map fun k=>(i,k)
def Gu (l:List Bx) (m:Nat):List (Nat × Nat):=(List.range m).flatMap fun i=>rowP l i l.length
def jd (l:List Bx):List (Nat × Nat):=Gu l l.length
theorem mem_row {l:List Bx} {i m:Nat} {p:Nat × Nat}:p ∈ rowP l i m↔p.1=i∧p.2<m∧i<p.2∧vS (bG l i) (bG l p.2)=true:=by
 unfold rowP;simp only [List.mem_map,List.mem_filter,List.mem_range,Bool.and_eq_true,decide_eq_true_iff]
 constructor
 ·rintro ⟨k, ⟨h1, h2, h3⟩, rfl⟩;exact ⟨rfl,h1,h2,h3⟩
 ·rintro ⟨h1, h2, h3, h4⟩;exact ⟨p.2,⟨h2,h3,h4⟩,by rw [← h1]⟩
theorem nJ {l:List Bx} {p:Nat × Nat}:p ∈ jd l↔p.1<p.2∧p.2<l.length∧vS (bG l p.1) (bG l p.2)=true:=by
 unfold jd Gu;simp only [List.mem_flatMap,List.mem_range,mem_row]
 constructor
 ·rintro ⟨i, h, rfl, h1, h2, h3⟩;exact ⟨h2,h1,h3⟩
 ·rintro ⟨h1, h2, h3⟩;exact ⟨p.1,by omega,rfl,h2,h1,h3⟩
theorem Fg (l:List Bx) (i m:Nat):(rowP l i m).Pairwise Bv:=by
 unfold rowP;rw [List.pairwise_map];refine (List.Pairwise.filter _ List.pairwise_lt_range).imp fun h=>?_
 exact .inr ⟨rfl,h⟩
theorem BI (l:List Bx):(jd l).Pairwise Bv:=by
 unfold jd Gu;rw [List.pairwise_flatMap];refine ⟨fun i _=>Fg l i _,List.pairwise_lt_range.imp fun {i j} h=>fun x hx y hy=>?_⟩;have h1:=(mem_row.1 hx).1;have h2:=(mem_row.1 hy).1;exact .inl (by omega)
theorem nM {p:Nat × Nat} (h:Bv p p):False:=by unfold Bv at h;omega
theorem zR {p q r:Nat × Nat} (h:Bv p q) (k:Bv q r):Bv p r:=by unfold Bv at *;omega
theorem Ik {p q:Nat × Nat} (h:Bv p q) (k:Bv q p):False:=nM (zR h k)
theorem zx : ∀ {l m : List (Nat × Nat)}, l.Pairwise Bv → m.Pairwise Bv → (∀ p, p ∈ l ↔ p ∈ m) → l = m
 | [],[],_,_,_=>rfl
 | [],q :: m,_,_,h=>by have:=(h q).2 (List.mem_cons_self ..);cases this
 | p :: l,[],_,_,h=>by have:=(h p).1 (List.mem_cons_self ..);cases this
 | p :: l,q :: m,hl,hm,h=>by
  rw [List.pairwise_cons] at hl hm
  have e:p=q:=by
   rcases List.mem_cons.1 ((h p).1 (List.mem_cons_self ..)) with g | g
   ·exact g
   ·rcases List.mem_cons.1 ((h q).2 (List.mem_cons_self ..)) with k | k
    ·exact k.symm
    ·exact absurd (hm.1 p g) (fun a=>Ik a (hl.1 q k))
  subst e
  have:l=m:=zx hl.2 hm.2 fun r=>by
   constructor
   ·intro hr
    rcases List.mem_cons.1 ((h r).1 (List.mem_cons_of_mem _ hr)) with g | g
    ·subst g;exact absurd (hl.1 r hr) nM
    ·exact g
   ·intro hr
    rcases List.mem_cons.1 ((h r).2 (List.mem_cons_of_mem _ hr)) with g | g
    ·subst g;exact absurd (hm.1 r hr) nM
    ·exact g
  rw [this]

def kS (l:List Bx) (op:List Nat) (i:Nat):List Nat:=op.filter fun k => !decide ((bG l k).2.1<(bG l i).1.1)
def xD (l:List Bx) (i k:Nat):Bool:=decide ((bG l k).1.2≤(bG l i).2.2) && decide ((bG l i).1.2≤(bG l k).2.2)
def EM (i k:Nat):Nat × Nat:=(min i k,max i k)
def lV (l:List Bx) (op:List Nat) (i:Nat):List (Nat × Nat):=(op.filter fun k=>xD l i k).map fun k=>EM i k

def tH (l : List Bx) : List Nat → List Nat × List (Nat × Nat) → List Nat × List (Nat × Nat)
 | [],s=>s
 | i :: o,s=>tH l o (kS l s.1 i ++ [i],s.2 ++ lV l (kS l s.1 i) i)

structure PN (l : List Bx) (pre rest : List Nat) (s : List Nat × List (Nat × Nat)) : Prop where
 a1:s.1.Nodup
 a2:∀ k ∈ s.1,k ∈ pre
 b:∀ k ∈ pre,k ∉ s.1→∀ j ∈ rest,(bG l k).2.1<(bG l j).1.1
 c1:s.2.Nodup
 c2:∀ p,p ∈ s.2↔p.1<p.2∧p.1 ∈ pre∧p.2 ∈ pre∧vS (bG l p.1) (bG l p.2)=true
theorem NM {i k k':Nat} (h:EM i k=EM i k'):k=k':=by
 unfold EM at h;have h1:=congrArg Prod.fst h;have h2:=congrArg Prod.snd h;dsimp only at h1 h2;omega
theorem Nh {l : List Bx} {pre rest : List Nat} {i : Nat} {s : List Nat × List (Nat × Nat)} (h : PN l pre (i :: rest) s) (hi : i ∉ pre) (hv : ∀ k ∈ pre, jD (bG l k) = true) (hvi : jD (bG l i) = true)
  (hlo:∀ k ∈ pre,(bG l k).1.1≤(bG l i).1.1) (hr:∀ j ∈ rest,(bG l i).1.1≤(bG l j).1.1) :
  PN l (pre ++ [i]) rest (kS l s.1 i ++ [i],s.2 ++ lV l (kS l s.1 i) i):=by
 obtain ⟨a1,a2,b,c1,c2⟩:=h
 have mo:∀ k,k ∈ kS l s.1 i↔k ∈ s.1∧¬ (bG l k).2.1<(bG l i).1.1:=fun k=>by
  unfold kS;rw [List.mem_filter];simp
 have nin:i ∉ kS l s.1 i:=fun g=>hi (a2 i ((mo i).1 g).1)
 have vi:(bG l i).1.1≤(bG l i).2.1∧(bG l i).1.2≤(bG l i).2.2:=by unfold jD at hvi;exact of_decide_eq_true hvi
 -- which boxes before meet box i
 have meets:∀ k ∈ pre,(k ∈ kS l s.1 i∧xD l i k=true)↔vS (bG l k) (bG l i)=true:=fun k hk=>by
  have vk:(bG l k).1.1≤(bG l k).2.1∧(bG l k).1.2≤(bG l k).2.2:=by have:=hv k hk;unfold jD at this;exact of_decide_eq_true this
  have lk:=hlo k hk;rw [sO,mo];unfold xD;simp only [Bool.and_eq_true,decide_eq_true_iff]
  constructor
  ·rintro ⟨⟨h1, h2⟩, h3, h4⟩;omega
  ·rintro ⟨-, -, h1, h2, h3, h4⟩;refine ⟨⟨?_,by omega⟩,h3,h4⟩
   rcases Classical.em (k ∈ s.1) with g | g
   ·exact g
   ·have := b k hk g i (List.mem_cons_self ..);omega
 refine ⟨?_,?_,?_,?_,?_⟩
 ·rw [List.nodup_append];refine ⟨a1.filter _,by simp,fun a ha b hb e=>?_⟩;rw [List.mem_singleton] at hb;subst hb;subst e;exact nin ha
 ·intro k hk;rw [List.mem_append,List.mem_singleton] at hk ⊢
  rcases hk with g | g
  ·exact .inl (a2 k ((mo k).1 g).1)
  ·exact .inr g
 ·intro k hk hno j hj;rw [List.mem_append,List.mem_singleton] at hk;rw [List.mem_append,List.mem_singleton] at hno
  rcases hk with g | g
  ·rcases Classical.em (k ∈ s.1) with q | q
   ·have:(bG l k).2.1<(bG l i).1.1:=by
     rcases Int.lt_or_le (bG l k).2.1 (bG l i).1.1 with r | r
     ·exact r
     ·exact absurd (.inl ((mo k).2 ⟨q,by omega⟩)) hno
    have:=hr j hj;omega
   ·exact b k g q j (List.mem_cons_of_mem _ hj)
  ·exact absurd (.inr g) hno
 ·rw [List.nodup_append];refine ⟨c1,?_,fun p hp q hq e=>?_⟩
  ·unfold lV;refine List.Pairwise.map _ (fun x y hxy e=>hxy (NM e)) ((a1.filter _).filter _)
  ·subst e;unfold lV at hq;obtain ⟨k,hk,rfl⟩:=List.mem_map.1 hq;obtain ⟨_,h1,h2,_⟩:=(c2 _).1 hp;unfold EM at h1 h2;dsimp only at h1 h2
   rcases Nat.le_total i k with g | g
   ·rw [Nat.min_eq_left g] at h1;exact hi h1
   ·rw [Nat.max_eq_left g] at h2;exact hi h2
 ·intro p;rw [List.mem_append,c2];simp only [List.mem_append,List.mem_singleton];unfold lV;rw [List.mem_map]
  constructor
  ·rintro (⟨h1, h2, h3, h4⟩ | ⟨k, hk, rfl⟩)
   ·exact ⟨h1,.inl h2,.inl h3,h4⟩
   ·rw [List.mem_filter] at hk;have hkp:=a2 k ((mo k).1 hk.1).1;have ht:=(meets k hkp).1 hk;have hne:i≠k:=fun e=>hi (by rw [e];exact hkp)
    unfold EM;dsimp only
    rcases Nat.le_total i k with g | g
    ·rw [Nat.min_eq_left g, Nat.max_eq_right g];exact ⟨by omega,.inr rfl,.inl hkp,by rw [zM];exact ht⟩
    ·rw [Nat.min_eq_right g, Nat.max_eq_left g];exact ⟨by omega,.inl hkp,.inr rfl,ht⟩
  ·rintro ⟨h1, h2, h3, h4⟩
   rcases h2 with h2 | h2
   ·rcases h3 with h3 | h3
    ·exact .inl ⟨h1,h2,h3,h4⟩
    ·right
     rw [h3] at h1 h4;refine ⟨p.1,?_,?_⟩
     ·rw [List.mem_filter];exact (meets _ h2).2 h4
     ·unfold EM;rw [Nat.min_eq_right (by omega),Nat.max_eq_left (by omega)]
      ext <;> simp [h3]
   ·rcases h3 with h3 | h3
    ·right
     rw [h2] at h1 h4;refine ⟨p.2,?_,?_⟩
     ·rw [List.mem_filter];exact (meets _ h3).2 (by rw [zM];exact h4)
     ·unfold EM;rw [Nat.min_eq_left (by omega),Nat.max_eq_right (by omega)]
      ext <;> simp [h2]
    ·omega
theorem J5 {l : List Bx} : ∀ (rest pre : List Nat) (s : List Nat × List (Nat × Nat)), PN l pre rest s → (pre ++ rest).Nodup → (∀ k ∈ pre ++ rest, jD (bG l k) = true) → (pre ++ rest).Pairwise (fun a b => (bG l a).1.1 ≤ (bG l b).1.1) →
  PN l (pre ++ rest) [] (tH l rest s)
 | [],pre,s,h,_,_,_=>by rw [List.append_nil];exact h
 | i :: rest,pre,s,h,hn,hv,hp=>by
  have e:pre ++ i :: rest=(pre ++ [i]) ++ rest:=by simp
  rw [tH,e]
  refine J5 rest (pre ++ [i]) _ ?_ (by rw [← e];exact hn) (by rw [← e];exact hv) (by rw [← e];exact hp)
  rw [List.nodup_append] at hn
  rw [List.pairwise_append] at hp
  obtain ⟨p1,p2,p3⟩:=hp
  rw [List.pairwise_cons] at p2
  exact Nh h (fun g=>hn.2.2 i g i (List.mem_cons_self ..) rfl) (fun k hk=>hv k (List.mem_append_left _ hk)) (hv i (List.mem_append_right _ (List.mem_cons_self ..))) (fun k hk=>p3 k hk i (List.mem_cons_self ..)) p2.1

def jK (l:List Bx) (m:Nat):List Nat:=(List.range m).filter fun i=>jD (bG l i)
theorem xL {p q:Nat × Nat}:jc p q<0↔Bv p q:=by
 unfold jc Lib.compareInt Bv
 split <;> (repeat' split) <;> omega

theorem Jh {l:List Bx} {o:List Nat} (ho:o.Perm (jK l l.length)) (hs:o.Pairwise (fun a b=>(bG l a).1.1≤(bG l b).1.1)) {r:List (Nat × Nat)} (hr:r.Perm (tH l o ([],[])).2) (hrs:r.Pairwise fun p q=>¬ jc q p<0):r=jd l:=by
 have hmem:∀ k,k ∈ o↔k<l.length∧jD (bG l k)=true:=fun k=>by
  rw [ho.mem_iff];unfold jK;rw [List.mem_filter,List.mem_range]
 have hnd:o.Nodup:=ho.nodup_iff.2 (List.nodup_range.filter _);have h:=J5 (l:=l) o [] ([],[]) ⟨List.nodup_nil,by simp,by simp,List.nodup_nil,by simp⟩ hnd (fun k hk=>((hmem k).1 hk).2) hs;rw [List.nil_append] at h;refine zx ?_ (BI l) fun p=>?_
 ·have hn : r.Nodup := hr.nodup_iff.2 h.c1;refine (hrs.and hn).imp fun {p q} hh=>?_
  obtain ⟨g1,g2⟩:=hh;rw [xL] at g1;unfold Bv at *
  rcases Nat.lt_trichotomy p.1 q.1 with a | a | a
  ·exact .inl a
  ·rcases Nat.lt_trichotomy p.2 q.2 with c | c | c
   ·exact .inr ⟨a,c⟩
   ·exact absurd (by ext <;> assumption) g2
   ·exact absurd (.inr ⟨a.symm,c⟩) g1
  ·exact absurd (.inl a) g1
 ·rw [hr.mem_iff, h.c2, nJ, hmem, hmem]
  constructor
  ·rintro ⟨h1, ⟨h2, _⟩, ⟨h3, _⟩, h4⟩;exact ⟨h1,h3,h4⟩
  ·rintro ⟨h1, h2, h3⟩;have:=sO.1 h3;exact ⟨h1,⟨by omega,by unfold jD;exact decide_eq_true this.1⟩,⟨h2,by unfold jD;exact decide_eq_true this.2.1⟩,h3⟩
end
section
set_option linter.unusedVariables false
set_option linter.unusedSimpArgs false
open Go.Shelf
open Go.RowKit Go.Sort Go.Lib
def vK:Go.Shelf.Ren:=⟨fun | 6=>73 | 15=>138 | 14=>137 | 28=>196 | 29=>197 | 20=>188 | 21=>189 | 22=>190 | 23=>191 | 24=>192 | 25=>193 | 26=>194 | 27=>195 | 46=>231 | 47=>232 | 48=>233 | 49=>234 | 50=>235 | 57=>253 | n=>n,fun | 22=>45 | 24=>3 | 25=>22 | 3=>3 | 39=>191 | 0=>0 | 53=>235 | 55=>118 | 4=>4 | 46=>229 | 45=>228 | 50=>154 | 5=>5 | 9=>9 | 66=>259 | 70=>263 | 76=>277 | 77=>278 | n=>n,fun | n=>n⟩
theorem uQ : Go.Proofs.SlLaysF0.n6 Tryz.prog vK := {
 mixed:=by kernel_rfl
 f6:=⟨Tryz.f73.name,by decide,Tryz.func73.trans (congrArg some (by kernel_rfl))⟩
 f14:=⟨Tryz.f137.name,by decide,Tryz.func137.trans (congrArg some (by kernel_rfl))⟩
 f15:=Tryz.func138.trans (congrArg some (by kernel_rfl))
 f20:=⟨Tryz.f188.name,by decide,Tryz.func188.trans (congrArg some (by kernel_rfl))⟩
 f21:=⟨Tryz.f189.name,by decide,Tryz.func189.trans (congrArg some (by kernel_rfl))⟩
 f22:=⟨Tryz.f190.name,by decide,Tryz.func190.trans (congrArg some (by kernel_rfl))⟩
 f23:=⟨Tryz.f191.name,by decide,Tryz.func191.trans (congrArg some (by kernel_rfl))⟩
 f24:=⟨Tryz.f192.name,by decide,Tryz.func192.trans (congrArg some (by kernel_rfl))⟩
 f25:=⟨Tryz.f193.name,by decide,Tryz.func193.trans (congrArg some (by kernel_rfl))⟩
 f26:=⟨Tryz.f194.name,by decide,Tryz.func194.trans (congrArg some (by kernel_rfl))⟩
 f27:=⟨Tryz.f195.name,by decide,Tryz.func195.trans (congrArg some (by kernel_rfl))⟩
 f28:=Tryz.func196.trans (congrArg some (by kernel_rfl))
 f29:=Tryz.func197.trans (congrArg some (by kernel_rfl))
 f46:=⟨Tryz.f231.name,by decide,Tryz.func231.trans (congrArg some (by kernel_rfl))⟩
 f47:=Tryz.func232.trans (congrArg some (by kernel_rfl))
 f48:=Tryz.func233.trans (congrArg some (by kernel_rfl))
 f49:=⟨Tryz.f234.name,by decide,Tryz.func234.trans (congrArg some (by kernel_rfl))⟩
 f50:=⟨Tryz.f235.name,by decide,Tryz.func235.trans (congrArg some (by kernel_rfl))⟩
 f57:=⟨Tryz.f253.name,by decide,Tryz.func253.trans (congrArg some (by kernel_rfl))⟩
 t0:=Tryz.underlying0
 a0:=Tryz.isAgg0
 z0:=Tryz.sizeOf0
 v0:=Tryz.zeroValue0
 t3:=Tryz.underlying3
 a3:=Tryz.isAgg3
 z3:=Tryz.sizeOf3
 v3:=Tryz.zeroValue3
 t4:=Tryz.underlying4
 a4:=Tryz.isAgg4
 z4:=Tryz.sizeOf4
 v4:=Tryz.zeroValue4
 t5:=Tryz.underlying5
 a5:=Tryz.isAgg5
 z5:=Tryz.sizeOf5
 v5:=Tryz.zeroValue5
 t9:=Tryz.underlying9
 a9:=Tryz.isAgg9
 z9:=Tryz.sizeOf9
 v9:=Tryz.zeroValue9
 t22:=Tryz.underlying45
 a22:=Tryz.isAgg45
 z22:=Tryz.sizeOf45
 v22:=Tryz.zeroValue45
 t25:=Tryz.underlying22
 a25:=Tryz.isAgg22
 z25:=Tryz.sizeOf22
 v25:=Tryz.zeroValue22
 t39:=Tryz.underlying191
 a39:=Tryz.isAgg191
 z39:=Tryz.sizeOf191
 v39:=Tryz.zeroValue191
 t45:=Tryz.underlying228
 a45:=Tryz.isAgg228
 z45:=Tryz.sizeOf228
 v45:=Tryz.zeroValue228
 t46:=Tryz.underlying229
 a46:=Tryz.isAgg229
 z46:=Tryz.sizeOf229
 v46:=Tryz.zeroValue229
 t50:=Tryz.underlying154
 a50:=Tryz.isAgg154
 z50:=Tryz.sizeOf154
 v50:=Tryz.zeroValue154
 t53:=Tryz.underlying235
 a53:=Tryz.isAgg235
 z53:=Tryz.sizeOf235
 v53:=Tryz.zeroValue235
 t55:=Tryz.underlying118
 a55:=Tryz.isAgg118
 z55:=Tryz.sizeOf118
 v55:=Tryz.zeroValue118
 t66:=Tryz.underlying259
 a66:=Tryz.isAgg259
 z66:=Tryz.sizeOf259
 v66:=Tryz.zeroValue259
 t70:=Tryz.underlying263
 a70:=Tryz.isAgg263
 z70:=Tryz.sizeOf263
 v70:=Tryz.zeroValue263
 t76:=Tryz.underlying277
 a76:=Tryz.isAgg277
 z76:=Tryz.sizeOf277
 v76:=Tryz.zeroValue277
 t77:=Tryz.underlying278
 a77:=Tryz.isAgg278
 z77:=Tryz.sizeOf278
 v77:=Tryz.zeroValue278 }

def fq:Lay Nat:=⟨fun i=>[.int .i64 i],1,fun _=>rfl,fun x v hv=>by simp at hv;subst hv;rfl,by omega⟩
abbrev Ix (n:Nat):={i:Nat // i<n}
def uL (n:Nat):Lay (Ix n):=⟨fun i=>[.int .i64 (i.1:Int)],1,fun _=>rfl,fun x v hv=>by simp at hv;subst hv;rfl,by omega⟩
def qp (n:Nat) (i:Ix n):Value:=.int .i64 (i.1:Int)
theorem zP (n:Nat):OneCell (qp n):=fun _=>rfl
theorem KQ {n:Nat} (o:List (Ix n)):fB (uL n) o=fB fq (o.map (·.1)):=by
 induction o with
 | nil=>rfl
 | cons i o ih=>unfold fB at *;rw [List.map_cons,List.flatMap_cons,List.flatMap_cons,ih];rfl
theorem aU.ix {n:Nat} {e:TypeId} {w:World} {B:Nat} {v:Value} {o:List (Ix n)}:aU (uL n) e w B v o↔aU fq e w B v (o.map (·.1)):=by
 unfold aU;rw [KQ,List.length_map];rfl
theorem JW {n : Nat} : ∀ {o : List Nat}, (∀ k ∈ o, k < n) → ∃ o' : List (Ix n), o = o'.map (·.1)
 | [],_=>⟨[],rfl⟩
 | k :: o,h=>by
  obtain ⟨o',ho⟩:=JW (o:=o) (fun j hj=>h j (List.mem_cons_of_mem _ hj))
  exact ⟨⟨k,h k (List.mem_cons_self ..)⟩ :: o',by rw [List.map_cons,← ho]⟩
theorem Ab:(Tryz.prog.info? 3).map (fun i=>(i.zero,i.size,i.bytes))=some (some (.int .i64 0),1,8):=by kernel_rfl
theorem NR:IY fq 45 3 8:=⟨Tryz.underlying45,by obtain ⟨i0,hi,hz0,hz1,hz2⟩:=info_parts Ab;exact ⟨i0,.int .i64 0,hi,hz0,hz1,hz2,rfl⟩⟩
theorem Jf:(Tryz.prog.info? 72).map (fun i=>(i.zero,i.size,i.bytes))=some (some (.agg #[.int .i64 0,.int .i64 0]),2,16):=by kernel_rfl
theorem OD:IY bW 67 72 16:=⟨Tryz.underlying67,by obtain ⟨i0,hi,hz0,hz1,hz2⟩:=info_parts Jf;exact ⟨i0,.agg #[.int .i64 0,.int .i64 0],hi,hz0,hz1,hz2,rfl⟩⟩
theorem aU.take {α:Type} {L:Lay α} {e:TypeId} {w:World} {B g n cap:Nat} {l:List α} (h:aU L e w B (.slice (some ⟨g,0,none⟩) n cap) l) {m:Nat} (hm:m≤l.length):aU L e w B (.slice (some ⟨g,0,none⟩) m cap) (l.take m):=by
 obtain ⟨h1,⟨h2,-⟩ | ⟨g',cap',cur,hv,hb,hg,hn,hmx,hsz,ht⟩⟩:=h
 ·cases h2
 ·cases hv
  have e1:(l.take m).length=m:=by rw [List.length_take];omega
  refine ⟨kY _,.inr ⟨g,cap,cur,by rw [e1],hb,hg,by rw [e1];omega,hmx,hsz,?_⟩⟩;have e2:fB L l=fB L (l.take m) ++ fB L (l.drop m):=by rw [← sI,List.take_append_drop]
  have e3:m*L.k≤l.length*L.k:=Nat.mul_le_mul_right _ hm;have e4:cur.toList.take (m*L.k)=(cur.toList.take (l.length*L.k)).take (m*L.k):=by rw [List.take_take,Nat.min_eq_left e3]
  rw [e1,e4,ht,e2,List.take_left' (by rw [kY,e1])]
theorem uP {α:Type} [Inhabited α] {d d':Array α} (h:PermIn 0 d.size d d'):d'.toList.Perm d.toList∧d'.size=d.size:=by
 obtain ⟨h1,-,h3⟩:=h;refine ⟨?_,h1⟩;have e1:d.extract 0 d.size=d:=by simp
 have e2:d'.extract 0 d.size=d':=by rw [← h1];simp
 rwa [e1,e2] at h3
theorem qR {α:Type} [Inhabited α] {lt:α→α→Bool} {d:Array α} (h:SortedIn lt 0 d.size d):d.toList.Pairwise fun a b=>lt b a=false:=by
 rw [List.pairwise_iff_getElem];intro i j hi hj hij;have:=h i j (Nat.zero_le _) hij (by simpa using hj);rw [getElem!_pos d j (by simpa using hj),getElem!_pos d i (by simpa using hi)] at this;simpa using this
theorem qK {x y:Int}:Lib.compareInt x y<0↔x<y:=by unfold Lib.compareInt;(repeat' split) <;> omega
theorem O4 (args:Array Value) (w:World):(callFunc 74 args).run Tryz.prog w = .ok (.enter 74 args) w:=by kernel_rfl
theorem PD (args:Array Value) (w:World):(callFunc 77 args).run Tryz.prog w = .ok (.enter 77 args) w:=by kernel_rfl
theorem O6 (args:Array Value) (w:World):(callFunc 79 args).run Tryz.prog w = .ok (.enter 79 args) w:=by kernel_rfl

theorem aU.ne {α:Type} {L:Lay α} {e:TypeId} {w:World} {B:Nat} {v:Value} {l:List α} (h:aU L e w B v l) {g:Nat} (hg:g<B):some g≠v.ownBlock:=fun q=>by
 have:=(h.lt q.symm).1;omega

theorem yZ (l:List Bx) (o:List Nat) (ho:∀ k ∈ o,k<l.length) (gb c B:Nat) (s:Value) (w:World) (hx:o≠[]→∃ b off,w.cell? ⟨gb,0,none⟩=some (.slice (some ⟨b,off,none⟩) l.length c)∧b<B∧aJ dP w b off l) (hgb:gb<B) (hs:aU fq 3 w B s o) (hl:o.length≤1000000) :
  Calls Tryz.prog 73 #[s,.func (.func 74) #[] #[.pointer (some ⟨gb,0,none⟩)]] w fun e w'=>e = .returned (.tuple #[])∧(∃ o',o'.Perm o∧o'.Pairwise (fun a b=>(bG l a).1.1≤(bG l b).1.1)∧aU fq 3 w' B s o')∧w.grownBy w' s.ownBlock:=by
 obtain ⟨o',rfl⟩:=JW ho
 rcases hs.form with ⟨rfl,h0⟩ | ⟨g,cap,rfl,hB,hg,hn,hm,hf,hcl⟩
 ·refine (AnyF.slices_SortFunc_none uQ none 0 _ w).mono ?_;rintro e w' ⟨rfl,rfl⟩;rw [h0] at hs ⊢;exact ⟨rfl,⟨[],List.Perm.refl _,List.Pairwise.nil,hs⟩,⟨rfl,rfl,rfl,Nat.le_refl _,fun _ _ _=>rfl⟩⟩
 ·have hne : o'.map (·.1) ≠ [] ∨ o' = [] := by cases o' <;> simp
  rcases hne with hne | rfl
  ·obtain ⟨b, off, hbox, hb, hC⟩ := hx hne
   obtain ⟨i0,hi0⟩:∃ i:Ix l.length,i ∈ o':=by
    cases o' with
    | nil=>exact absurd rfl hne
    | cons i o'=>exact ⟨i,List.mem_cons_self ..⟩
   haveI:Inhabited (Ix l.length):=⟨i0⟩
   have hs2:=aU.ix.2 hs;have hH:=hs2.holds
   have hcmp:CmpLays1 Tryz.prog 74 #[.pointer (some ⟨gb,0,none⟩)] (qp l.length) (fun x y=>Lib.compareInt (bG l x.1).1.1 (bG l y.1).1.1) g 0 o'.toArray.size w:=by
    intro m os dk hdk x y;have other:∀ a:Addr,a.block<B→(sortWorld (qp l.length) w g 0 m dk os).cell? a=w.cell? a:=fun a ha=>by rw [iw];exact cell?_sortWorldK_other _ _ _ _ _ _ _ _ _ (by omega) (by omega)
    have hsz:w.heap.size≤(sortWorld (qp l.length) w g 0 m dk os).heap.size:=by
     rw [iw];exact (iq (L:=uL l.length) dk).size
    refine (AZ l x.1 y.1 gb b off l.length c x.2 y.2 _ (by rw [other _ hgb];exact hbox) ⟨Nat.lt_of_lt_of_le hC.lt hsz,fun j hj i v hv=>by rw [other _ hb];exact hC.at_ j hj i v hv⟩).mono ?_;rintro e w' ⟨rfl,rfl⟩;exact ⟨rfl,1,#[],by rw [grow_empty];rfl⟩
   have hO:SWO (ltOf fun x y:Ix l.length=>Lib.compareInt (bG l x.1).1.1 (bG l y.1).1.1):=by
    have e:∀ x y:Ix l.length,ltOf (fun x y:Ix l.length=>Lib.compareInt (bG l x.1).1.1 (bG l y.1).1.1) x y=decide ((bG l x.1).1.1<(bG l y.1).1.1):=fun x y=>by
     unfold ltOf;rw [decide_eq_decide,qK]
    refine ⟨fun x=>?_,fun x y z h1 h2=>?_,fun x y z h1 h2=>?_⟩
    ·rw [e];simp
    ·rw [e] at *;simp at *;omega
    ·rw [e] at *;simp at *;omega
   have hlen:(o'.map (·.1)).length=o'.toArray.size:=by simp
   have hsz2:o'.toArray.size≤1000000:=by rw [← hlen];exact hl
   have hcon:=Any.slices_SortFunc FL (qp l.length) (zP _) (fun x y=>Lib.compareInt (bG l x.1).1.1 (bG l y.1).1.1) hO 74 #[.pointer (some ⟨gb,0,none⟩)] g 0 cap o'.toArray w O4 hcmp (holds_one hH) hg (by omega);rw [hlen];refine Calls.mono hcon ?_;rintro e w' ⟨rfl,d',m,os,hp,hsd,rfl⟩;obtain ⟨p1,p2⟩:=uP hp;rw [iw];have hso:SortedIn (ltOf fun x y:Ix l.length=>Lib.compareInt (bG l x.1).1.1 (bG l y.1).1.1) 0 d'.size d':=by rw [p2];exact hsd
   have hpw:=qR hso;rw [hlen] at hs2;refine ⟨rfl,⟨d'.toList.map (·.1),p1.map _,?_,?_⟩,iq (L:=uL l.length) d'⟩
   ·rw [List.pairwise_map];refine hpw.imp fun {x y} h=>?_
    unfold ltOf at h;rw [decide_eq_false_iff_not,qK] at h;omega
   ·exact aU.ix.1 (hs2.sorted d' (by rw [p2];simp))
  ·refine Calls.mono (AnyF.slices_SortFunc_none uQ (some ⟨g, 0, none⟩) cap _ w) ?_;rintro e w' ⟨rfl,rfl⟩;exact ⟨rfl,⟨[],List.Perm.refl _,List.Pairwise.nil,hs⟩,⟨rfl,rfl,rfl,Nat.le_refl _,fun _ _ _=>rfl⟩⟩

theorem vM (o:List (Nat × Nat)) (B:Nat) (s:Value) (w:World) (hs:aU bW 72 w B s o) (hl:o.length≤1000000) :
  Calls Tryz.prog 78 #[s,.func (.func 79) #[] #[]] w fun e w'=>e = .returned (.tuple #[])∧(∃ o':List (Nat × Nat),o'.Perm o∧o'.Pairwise (fun p q=>¬ jc q p<0)∧aU bW 72 w' B s o')∧w.grownBy w' s.ownBlock:=by
 rcases hs.form with ⟨rfl,h0⟩ | ⟨g,cap,rfl,hB,hg,hn,hm,hf,hcl⟩
 ·refine (AnyF.slices_SortFunc_none vG none 0 _ w).mono ?_;rintro e w' ⟨rfl,rfl⟩;rw [h0] at hs ⊢;exact ⟨rfl,⟨[],List.Perm.refl _,List.Pairwise.nil,hs⟩,⟨rfl,rfl,rfl,Nat.le_refl _,fun _ _ _=>rfl⟩⟩
 ·have hH := hs.holds;have hcmp:CmpLays Tryz.prog 79 #[] bW.enc 2 jc g 0 o.toArray.size w:=fun m os dk hdk x y=>BU x y _
  have hO:SWO (ltOf jc):=by
   have e:∀ x y,ltOf jc x y=decide (Bv x y):=fun x y=>by
    unfold ltOf;rw [decide_eq_decide,xL]
   refine ⟨fun x=>?_,fun x y z h1 h2=>?_,fun x y z h1 h2=>?_⟩
   ·rw [e];exact decide_eq_false nM
   ·rw [e] at *;exact decide_eq_true (zR (of_decide_eq_true h1) (of_decide_eq_true h2))
   ·rw [e] at *
    have a:=of_decide_eq_false h1;have b:=of_decide_eq_false h2;refine decide_eq_false ?_;unfold Bv at *
    omega
  have hlen:o.length=o.toArray.size:=by simp
  have hsz2:o.toArray.size≤1000000:=by rw [← hlen];exact hl
  have hcon:=AnyQ.slices_SortFunc vG 2 Tryz.isAgg72 Tryz.sizeOf72 bW.enc bW.hk bW.one jc hO 79 #[] g 0 cap o.toArray w O6 hcmp hH hg (by omega);rw [hlen];refine Calls.mono hcon ?_;rintro e w' ⟨rfl,d',m,os,hp,hsd,rfl⟩;obtain ⟨p1,p2⟩:=uP hp;have hso:SortedIn (ltOf jc) 0 d'.size d':=by rw [p2];exact hsd
  have hpw:=qR hso;rw [hlen] at hs;refine ⟨rfl,⟨d'.toList,p1,?_,hs.sorted d' (by rw [p2];simp)⟩,iq (L:=bW) d'⟩;refine hpw.imp fun {x y} h=>?_
  unfold ltOf at h;rwa [decide_eq_false_iff_not] at h
theorem MF (s:Option Addr) (n c:Nat) (hn:n=0) (fv:Value) (w:World):Calls Tryz.prog 76 #[.slice s n c,fv] w fun e w'=>e = .returned (.slice s n c)∧w'=w:=by
 subst hn
 go_enter Tryz.func76,Tryz.ntmps76
 go_wp2
 go_loopw [8] (fun j wr=>j = .int .i64 0∧wr=w) (fun _ _=>0)
 case atStart=>exact ⟨rfl,rfl⟩
 case round =>
  obtain ⟨rfl,rfl⟩:=hrel;go_wp2
  go_returns
  exact ⟨rfl,rfl⟩

theorem yV (l : List Bx) (op : List Nat) (i : Nat) (hop : ∀ k ∈ op, k < l.length) (hi : i < l.length) (gb gi b off c B : Nat) (s : Value) (w : World) (hbox : w.cell? ⟨gb, 0, none⟩ = some (.slice (some ⟨b, off, none⟩) l.length c)) (hgi : w.cell? ⟨gi, 0, none⟩ = some (.int .i64 i)) (hne : ∀ k, s.ownBlock = some k → k ≠ gi)
  (hc:aJ dP w b off l) (hgb:gb<B) (hb:b<B) (hs:aU fq 3 w B s op) (hl:op.length≤1000000) :
  Calls Tryz.prog 76 #[s,.func (.func 77) #[] #[.pointer (some ⟨gb,0,none⟩),.pointer (some ⟨gi,0,none⟩)]] w fun e w'=>(∃ s',e = .returned s'∧s'.ownBlock=s.ownBlock∧aU fq 3 w' B s' (kS l op i))∧w.grownBy w' s.ownBlock:=by
 obtain ⟨o',rfl⟩:=JW hop
 rcases hs.form with ⟨rfl,h0⟩ | ⟨g,cap,rfl,hB,hg,hn,hm,hf,hcl⟩
 ·refine (MF none 0 0 rfl _ w).mono ?_;rintro e w' ⟨rfl,rfl⟩;rw [h0] at hs ⊢;exact ⟨⟨_,rfl,rfl,hs⟩,⟨rfl,rfl,rfl,Nat.le_refl _,fun _ _ _=>rfl⟩⟩
 ·haveI : Inhabited (Ix l.length) := ⟨⟨i, hi⟩⟩
  have hs2:=aU.ix.2 hs;have hH:=hs2.holds;have hgg:g≠gi:=hne g rfl;have hgil:=lt_of_cell hgi
  have read:∀ (W:World),(∀ a:Addr,a.block<w.heap.size→a.block≠g→W.cell? a=w.cell? a)→w.heap.size≤W.heap.size→∀ x:Ix l.length,FnGives Tryz.prog 77 #[.pointer (some ⟨gb,0,none⟩),.pointer (some ⟨gi,0,none⟩)] #[qp l.length x] (.bool (decide ((bG l x.1).2.1<(bG l i).1.1))) W:=fun W hW hsz x=>by
   refine Calls.mono (AU l x.1 i gb gi b off c x.2 hi W (by rw [hW _ (by show gb<_;omega) (by show gb≠_;omega)];exact hbox) (by rw [hW _ hgil (fun e=>hgg e.symm)];exact hgi) ⟨Nat.lt_of_lt_of_le hc.lt hsz,fun j hj i v hv=>by rw [hW _ (by show b<_;omega) (by show b≠_;omega)];exact hc.at_ j hj i v hv⟩) ?_;rintro e w' ⟨rfl,rfl⟩;exact ⟨rfl,1,rfl⟩
  have hp:PredAt Tryz.prog 77 #[.pointer (some ⟨gb,0,none⟩),.pointer (some ⟨gi,0,none⟩)] (qp l.length) (fun x=>decide ((bG l x.1).2.1<(bG l i).1.1)) w:=fun W x hW=>read W (fun a ha _=>hW.cell ha) hW.size x
  have hpo:PredOver Tryz.prog 77 #[.pointer (some ⟨gb,0,none⟩),.pointer (some ⟨gi,0,none⟩)] (qp l.length) (fun x=>decide ((bG l x.1).2.1<(bG l i).1.1)) g 0 o'.toArray.size w:=by
   intro m os dk x hdk;refine read _ (fun a ha hne=>by rw [iw];exact cell?_sortWorldK_other _ _ _ _ _ _ _ _ _ hne ha) ?_ x;rw [iw];exact (iq (L:=uL l.length) dk).size
  have hlen:(o'.map (·.1)).length=o'.toArray.size:=by simp
  have hsz2:o'.toArray.size≤1000000:=by rw [← hlen];exact hl
  rw [hlen] at hn;have hcon:=AnyE.slices_DeleteFunc Jr (qp l.length) (zP _) (fun x=>decide ((bG l x.1).2.1<(bG l i).1.1)) 77 #[.pointer (some ⟨gb,0,none⟩),.pointer (some ⟨gi,0,none⟩)] PD (⟨0,by omega⟩:Ix l.length) (fun w=>Tryz.zeroValue3 w) g 0 cap o'.toArray w hp hpo (holds_one hH) (by omega) hn;rw [hlen];refine Calls.mono hcon ?_;rintro e w' ⟨rfl,q,rfl⟩;obtain ⟨F,hF⟩:∃ F,F=o'.filter fun x => !decide ((bG l x.1).2.1<(bG l i).1.1):=⟨_,rfl⟩
  have eF:o'.toArray.toList.filter (fun x => !decide ((bG l x.1).2.1<(bG l i).1.1))=F:=hF.symm;rw [eF];have hFl:F.length≤o'.length:=by rw [hF];exact List.length_filter_le _ _
  obtain ⟨D,hD⟩:∃ D:Array (Ix l.length),D=(F ++ List.replicate (o'.toArray.size-F.length) (⟨0,by omega⟩:Ix l.length)).toArray:=⟨_,rfl⟩;rw [← hD];have hDs:D.size=o'.length:=by rw [hD];simp;omega
  have eW:putRow (qp l.length) (Sort.ahead w q) g 0 D=sortWorldK (uL l.length).enc (uL l.length).k w g 0 q D #[]:=by
   have:=iw (qp l.length) w g 0 q D #[];unfold sortWorld at this;rw [grow_empty] at this;exact this
  rw [eW];rw [hlen] at hs2;have h5:=(hs2.sorted (m:=q) (os:=#[]) D hDs).take (m:=F.length) (by rw [hD];simp);have eT:D.toList.take F.length=F:=by rw [hD];simp
  rw [eT] at h5;have eO:kS l (o'.map (·.1)) i=F.map (·.1):=by rw [hF];unfold kS;rw [List.filter_map];rfl
  rw [eO];exact ⟨⟨_,rfl,rfl,aU.ix.1 h5⟩,iq (L:=uL l.length) D⟩
end
end Go.Proofs.YtokgmcomgflloaaGreat
