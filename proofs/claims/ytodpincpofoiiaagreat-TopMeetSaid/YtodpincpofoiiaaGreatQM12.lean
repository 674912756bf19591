/- Parts of a proof: contracts and laws. -/
import Derived.Test.YtodpincpofoiiaaGreatQM11
set_option maxRecDepth 100000
set_option maxHeartbeats 16000000
namespace Go.Proofs.YtodpincpofoiiaaGreat
section
set_option linter.unusedVariables false
set_option linter.unusedSimpArgs false
open Go.RowKit
def vldB (b:Bx):Bool:=decide (b.1.1≤b.2.1∧b.1.2≤b.2.2)

def tchB (a b:Bx):Bool:=vldB a && (vldB b && (decide (a.1.1≤b.2.1) && (decide (b.1.1≤a.2.1) && (decide (a.1.2≤b.2.2) && decide (b.1.2≤a.2.2)))))
theorem tchB_iff {a b:Bx}:tchB a b=true↔(a.1.1≤a.2.1∧a.1.2≤a.2.2)∧(b.1.1≤b.2.1∧b.1.2≤b.2.2)∧a.1.1≤b.2.1∧b.1.1≤a.2.1∧a.1.2≤b.2.2∧b.1.2≤a.2.2:=by
 unfold tchB vldB
 simp only [Bool.and_eq_true,decide_eq_true_iff]
theorem tchB_comm (a b:Bx):tchB a b=tchB b a:=by
 rw [Bool.eq_iff_iff,tchB_iff,tchB_iff]
 omega
def ltP (p q:Nat × Nat):Prop:=p.1<q.1∨(p.1=q.1∧p.2<q.2)
instance (p q:Nat × Nat):Decidable (ltP p q):=by unfold ltP;infer_instance
def rowP (l:List Bx) (i m:Nat):List (Nat × Nat):=((List.range m).filter fun k=>decide (i<k) && tchB (bxAt l i) (bxAt l k)).map fun k=>(i,k)
def prsTo (l:List Bx) (m:Nat):List (Nat × Nat):=(List.range m).flatMap fun i=>rowP l i l.length
def pairsL (l:List Bx):List (Nat × Nat):=prsTo l l.length
theorem mem_row {l:List Bx} {i m:Nat} {p:Nat × Nat}:p ∈ rowP l i m↔p.1=i∧p.2<m∧i<p.2∧tchB (bxAt l i) (bxAt l p.2)=true:=by
 unfold rowP
 simp only [List.mem_map,List.mem_filter,List.mem_range,Bool.and_eq_true,decide_eq_true_iff]
 constructor
 ·rintro ⟨k, ⟨h1, h2, h3⟩, rfl⟩
  exact ⟨rfl,h1,h2,h3⟩
 ·rintro ⟨h1, h2, h3, h4⟩
  exact ⟨p.2,⟨h2,h3,h4⟩,by rw [← h1]⟩
theorem mem_pairs {l:List Bx} {p:Nat × Nat}:p ∈ pairsL l↔p.1<p.2∧p.2<l.length∧tchB (bxAt l p.1) (bxAt l p.2)=true:=by
 unfold pairsL prsTo
 simp only [List.mem_flatMap,List.mem_range,mem_row]
 constructor
 ·rintro ⟨i, h, rfl, h1, h2, h3⟩
  exact ⟨h2,h1,h3⟩
 ·rintro ⟨h1, h2, h3⟩
  exact ⟨p.1,by omega,rfl,h2,h1,h3⟩
theorem row_sorted (l:List Bx) (i m:Nat):(rowP l i m).Pairwise ltP:=by
 unfold rowP
 rw [List.pairwise_map]
 refine (List.Pairwise.filter _ List.pairwise_lt_range).imp fun h=>?_
 exact .inr ⟨rfl,h⟩
theorem pairs_sorted (l:List Bx):(pairsL l).Pairwise ltP:=by
 unfold pairsL prsTo
 rw [List.pairwise_flatMap]
 refine ⟨fun i _=>row_sorted l i _,List.pairwise_lt_range.imp fun {i j} h=>fun x hx y hy=>?_⟩
 have h1:=(mem_row.1 hx).1
 have h2:=(mem_row.1 hy).1
 exact .inl (by omega)
theorem ltP_irrefl {p:Nat × Nat} (h:ltP p p):False:=by unfold ltP at h;omega
theorem ltP_trans {p q r:Nat × Nat} (h:ltP p q) (k:ltP q r):ltP p r:=by unfold ltP at *;omega
theorem ltP_asymm {p q:Nat × Nat} (h:ltP p q) (k:ltP q p):False:=ltP_irrefl (ltP_trans h k)
theorem sorted_eq : ∀ {l m : List (Nat × Nat)}, l.Pairwise ltP → m.Pairwise ltP → (∀ p, p ∈ l ↔ p ∈ m) → l = m
 | [],[],_,_,_=>rfl
 | [],q :: m,_,_,h=>by have:=(h q).2 (List.mem_cons_self ..);cases this
 | p :: l,[],_,_,h=>by have:=(h p).1 (List.mem_cons_self ..);cases this
 | p :: l,q :: m,hl,hm,h=>by
  rw [List.pairwise_cons] at hl hm
  have e:p=q:=by
   rcases List.mem_cons.1 ((h p).1 (List.mem_cons_self ..)) with g | g
   ·exact g
   ·rcases List.mem_cons.1 ((h q).2 (List.mem_cons_self ..)) with k | k
    ·exact k.symm
    ·exact absurd (hm.1 p g) (fun a=>ltP_asymm a (hl.1 q k))
  subst e
  have:l=m:=sorted_eq hl.2 hm.2 fun r=>by
   constructor
   ·intro hr
    rcases List.mem_cons.1 ((h r).1 (List.mem_cons_of_mem _ hr)) with g | g
    ·subst g;exact absurd (hl.1 r hr) ltP_irrefl
    ·exact g
   ·intro hr
    rcases List.mem_cons.1 ((h r).2 (List.mem_cons_of_mem _ hr)) with g | g
    ·subst g;exact absurd (hm.1 r hr) ltP_irrefl
    ·exact g
  rw [this]

def opnK (l:List Bx) (op:List Nat) (i:Nat):List Nat:=op.filter fun k => !decide ((bxAt l k).2.1<(bxAt l i).1.1)
def yMeet (l:List Bx) (i k:Nat):Bool:=decide ((bxAt l k).1.2≤(bxAt l i).2.2) && decide ((bxAt l i).1.2≤(bxAt l k).2.2)
def mkP (i k:Nat):Nat × Nat:=(min i k,max i k)
def outK (l:List Bx) (op:List Nat) (i:Nat):List (Nat × Nat):=(op.filter fun k=>yMeet l i k).map fun k=>mkP i k

def swS (l : List Bx) : List Nat → List Nat × List (Nat × Nat) → List Nat × List (Nat × Nat)
 | [],s=>s
 | i :: o,s=>swS l o (opnK l s.1 i ++ [i],s.2 ++ outK l (opnK l s.1 i) i)

structure SwI (l : List Bx) (pre rest : List Nat) (s : List Nat × List (Nat × Nat)) : Prop where
 a1:s.1.Nodup
 a2:∀ k ∈ s.1,k ∈ pre
 b:∀ k ∈ pre,k ∉ s.1→∀ j ∈ rest,(bxAt l k).2.1<(bxAt l j).1.1
 c1:s.2.Nodup
 c2:∀ p,p ∈ s.2↔p.1<p.2∧p.1 ∈ pre∧p.2 ∈ pre∧tchB (bxAt l p.1) (bxAt l p.2)=true
theorem mkP_inj {i k k':Nat} (h:mkP i k=mkP i k'):k=k':=by
 unfold mkP at h
 have h1:=congrArg Prod.fst h
 have h2:=congrArg Prod.snd h
 dsimp only at h1 h2
 omega
theorem sw_step {l : List Bx} {pre rest : List Nat} {i : Nat} {s : List Nat × List (Nat × Nat)} (h : SwI l pre (i :: rest) s) (hi : i ∉ pre) (hv : ∀ k ∈ pre, vldB (bxAt l k) = true) (hvi : vldB (bxAt l i) = true)
  (hlo:∀ k ∈ pre,(bxAt l k).1.1≤(bxAt l i).1.1) (hr:∀ j ∈ rest,(bxAt l i).1.1≤(bxAt l j).1.1) :
  SwI l (pre ++ [i]) rest (opnK l s.1 i ++ [i],s.2 ++ outK l (opnK l s.1 i) i):=by
 obtain ⟨a1,a2,b,c1,c2⟩:=h
 have mo:∀ k,k ∈ opnK l s.1 i↔k ∈ s.1∧¬ (bxAt l k).2.1<(bxAt l i).1.1:=fun k=>by
  unfold opnK
  rw [List.mem_filter]
  simp
 have nin:i ∉ opnK l s.1 i:=fun g=>hi (a2 i ((mo i).1 g).1)
 have vi:(bxAt l i).1.1≤(bxAt l i).2.1∧(bxAt l i).1.2≤(bxAt l i).2.2:=by unfold vldB at hvi;exact of_decide_eq_true hvi
 -- which boxes before meet box i
 have meets:∀ k ∈ pre,(k ∈ opnK l s.1 i∧yMeet l i k=true)↔tchB (bxAt l k) (bxAt l i)=true:=fun k hk=>by
  have vk:(bxAt l k).1.1≤(bxAt l k).2.1∧(bxAt l k).1.2≤(bxAt l k).2.2:=by have:=hv k hk;unfold vldB at this;exact of_decide_eq_true this
  have lk:=hlo k hk
  rw [tchB_iff,mo]
  unfold yMeet
  simp only [Bool.and_eq_true,decide_eq_true_iff]
  constructor
  ·rintro ⟨⟨h1, h2⟩, h3, h4⟩
   omega
  ·rintro ⟨-, -, h1, h2, h3, h4⟩
   refine ⟨⟨?_,by omega⟩,h3,h4⟩
   rcases Classical.em (k ∈ s.1) with g | g
   ·exact g
   ·have := b k hk g i (List.mem_cons_self ..)
    omega
 refine ⟨?_,?_,?_,?_,?_⟩
 ·rw [List.nodup_append]
  refine ⟨a1.filter _,by simp,fun a ha b hb e=>?_⟩
  rw [List.mem_singleton] at hb
  subst hb
  subst e
  exact nin ha
 ·intro k hk
  rw [List.mem_append,List.mem_singleton] at hk ⊢
  rcases hk with g | g
  ·exact .inl (a2 k ((mo k).1 g).1)
  ·exact .inr g
 ·intro k hk hno j hj
  rw [List.mem_append,List.mem_singleton] at hk
  rw [List.mem_append,List.mem_singleton] at hno
  rcases hk with g | g
  ·rcases Classical.em (k ∈ s.1) with q | q
   ·have:(bxAt l k).2.1<(bxAt l i).1.1:=by
     rcases Int.lt_or_le (bxAt l k).2.1 (bxAt l i).1.1 with r | r
     ·exact r
     ·exact absurd (.inl ((mo k).2 ⟨q,by omega⟩)) hno
    have:=hr j hj
    omega
   ·exact b k g q j (List.mem_cons_of_mem _ hj)
  ·exact absurd (.inr g) hno
 ·rw [List.nodup_append]
  refine ⟨c1,?_,fun p hp q hq e=>?_⟩
  ·unfold outK
   refine List.Pairwise.map _ (fun x y hxy e=>hxy (mkP_inj e)) ((a1.filter _).filter _)
  ·subst e
   unfold outK at hq
   obtain ⟨k,hk,rfl⟩:=List.mem_map.1 hq
   obtain ⟨_,h1,h2,_⟩:=(c2 _).1 hp
   unfold mkP at h1 h2
   dsimp only at h1 h2
   rcases Nat.le_total i k with g | g
   ·rw [Nat.min_eq_left g] at h1;exact hi h1
   ·rw [Nat.max_eq_left g] at h2;exact hi h2
 ·intro p
  rw [List.mem_append,c2]
  simp only [List.mem_append,List.mem_singleton]
  unfold outK
  rw [List.mem_map]
  constructor
  ·rintro (⟨h1, h2, h3, h4⟩ | ⟨k, hk, rfl⟩)
   ·exact ⟨h1,.inl h2,.inl h3,h4⟩
   ·rw [List.mem_filter] at hk
    have hkp:=a2 k ((mo k).1 hk.1).1
    have ht:=(meets k hkp).1 hk
    have hne:i≠k:=fun e=>hi (by rw [e];exact hkp)
    unfold mkP
    dsimp only
    rcases Nat.le_total i k with g | g
    ·rw [Nat.min_eq_left g, Nat.max_eq_right g]
     exact ⟨by omega,.inr rfl,.inl hkp,by rw [tchB_comm];exact ht⟩
    ·rw [Nat.min_eq_right g, Nat.max_eq_left g]
     exact ⟨by omega,.inl hkp,.inr rfl,ht⟩
  ·rintro ⟨h1, h2, h3, h4⟩
   rcases h2 with h2 | h2
   ·rcases h3 with h3 | h3
    ·exact .inl ⟨h1,h2,h3,h4⟩
    ·right
     rw [h3] at h1 h4
     refine ⟨p.1,?_,?_⟩
     ·rw [List.mem_filter]
      exact (meets _ h2).2 h4
     ·unfold mkP
      rw [Nat.min_eq_right (by omega),Nat.max_eq_left (by omega)]
      ext <;> simp [h3]
   ·rcases h3 with h3 | h3
    ·right
     rw [h2] at h1 h4
     refine ⟨p.2,?_,?_⟩
     ·rw [List.mem_filter]
      exact (meets _ h3).2 (by rw [tchB_comm];exact h4)
     ·unfold mkP
      rw [Nat.min_eq_left (by omega),Nat.max_eq_right (by omega)]
      ext <;> simp [h2]
    ·omega
theorem sw_run {l : List Bx} : ∀ (rest pre : List Nat) (s : List Nat × List (Nat × Nat)), SwI l pre rest s → (pre ++ rest).Nodup → (∀ k ∈ pre ++ rest, vldB (bxAt l k) = true) → (pre ++ rest).Pairwise (fun a b => (bxAt l a).1.1 ≤ (bxAt l b).1.1) →
  SwI l (pre ++ rest) [] (swS l rest s)
 | [],pre,s,h,_,_,_=>by rw [List.append_nil];exact h
 | i :: rest,pre,s,h,hn,hv,hp=>by
  have e:pre ++ i :: rest=(pre ++ [i]) ++ rest:=by simp
  rw [swS,e]
  refine sw_run rest (pre ++ [i]) _ ?_ (by rw [← e];exact hn) (by rw [← e];exact hv) (by rw [← e];exact hp)
  rw [List.nodup_append] at hn
  rw [List.pairwise_append] at hp
  obtain ⟨p1,p2,p3⟩:=hp
  rw [List.pairwise_cons] at p2
  exact sw_step h (fun g=>hn.2.2 i g i (List.mem_cons_self ..) rfl) (fun k hk=>hv k (List.mem_append_left _ hk)) (hv i (List.mem_append_right _ (List.mem_cons_self ..))) (fun k hk=>p3 k hk i (List.mem_cons_self ..)) p2.1

def ordTo (l:List Bx) (m:Nat):List Nat:=(List.range m).filter fun i=>vldB (bxAt l i)
theorem cmpPair_lt {p q:Nat × Nat}:cmpPair p q<0↔ltP p q:=by
 unfold cmpPair Lib.compareInt ltP
 split <;> (repeat' split) <;> omega

theorem sweep_law {l:List Bx} {o:List Nat} (ho:o.Perm (ordTo l l.length)) (hs:o.Pairwise (fun a b=>(bxAt l a).1.1≤(bxAt l b).1.1)) {r:List (Nat × Nat)} (hr:r.Perm (swS l o ([],[])).2) (hrs:r.Pairwise fun p q=>¬ cmpPair q p<0):r=pairsL l:=by
 have hmem:∀ k,k ∈ o↔k<l.length∧vldB (bxAt l k)=true:=fun k=>by
  rw [ho.mem_iff]
  unfold ordTo
  rw [List.mem_filter,List.mem_range]
 have hnd:o.Nodup:=ho.nodup_iff.2 (List.nodup_range.filter _)
 have h:=sw_run (l:=l) o [] ([],[]) ⟨List.nodup_nil,by simp,by simp,List.nodup_nil,by simp⟩ hnd (fun k hk=>((hmem k).1 hk).2) hs
 rw [List.nil_append] at h
 refine sorted_eq ?_ (pairs_sorted l) fun p=>?_
 ·have hn : r.Nodup := hr.nodup_iff.2 h.c1
  refine (hrs.and hn).imp fun {p q} hh=>?_
  obtain ⟨g1,g2⟩:=hh
  rw [cmpPair_lt] at g1
  unfold ltP at *
  rcases Nat.lt_trichotomy p.1 q.1 with a | a | a
  ·exact .inl a
  ·rcases Nat.lt_trichotomy p.2 q.2 with c | c | c
   ·exact .inr ⟨a,c⟩
   ·exact absurd (by ext <;> assumption) g2
   ·exact absurd (.inr ⟨a.symm,c⟩) g1
  ·exact absurd (.inl a) g1
 ·rw [hr.mem_iff, h.c2, mem_pairs, hmem, hmem]
  constructor
  ·rintro ⟨h1, ⟨h2, _⟩, ⟨h3, _⟩, h4⟩
   exact ⟨h1,h3,h4⟩
  ·rintro ⟨h1, h2, h3⟩
   have:=tchB_iff.1 h3
   exact ⟨h1,⟨by omega,by unfold vldB;exact decide_eq_true this.1⟩,⟨h2,by unfold vldB;exact decide_eq_true this.2.1⟩,h3⟩
end
end Go.Proofs.YtodpincpofoiiaaGreat
namespace Go.Proofs.YtodpincpofoiiaaGreat
section
set_option linter.unusedVariables false
set_option linter.unusedSimpArgs false
open Go.Shelf
open Go.RowKit Go.Sort Go.Lib
def laySortInt0_ren:Go.Shelf.Ren:=⟨fun | 6=>110 | 15=>189 | 14=>188 | 28=>225 | 29=>226 | 20=>217 | 21=>218 | 22=>219 | 23=>220 | 24=>221 | 25=>222 | 26=>223 | 27=>224 | 46=>246 | 47=>247 | 48=>248 | 49=>249 | 50=>250 | 57=>261 | n=>n,fun | 22=>45 | 24=>3 | 25=>22 | 3=>3 | 39=>226 | 0=>0 | 53=>254 | 55=>142 | 4=>4 | 46=>248 | 45=>247 | 50=>125 | 5=>5 | 9=>9 | 66=>268 | 70=>272 | 76=>282 | 77=>283 | n=>n,fun | n=>n⟩
theorem laySortInt0 : Go.Proofs.SlLaysF0.n6 Tryz.prog laySortInt0_ren := {
 mixed:=by kernel_rfl
 f6:=⟨Tryz.f110.name,by decide,Tryz.func110.trans (congrArg some (by kernel_rfl))⟩
 f14:=⟨Tryz.f188.name,by decide,Tryz.func188.trans (congrArg some (by kernel_rfl))⟩
 f15:=Tryz.func189.trans (congrArg some (by kernel_rfl))
 f20:=⟨Tryz.f217.name,by decide,Tryz.func217.trans (congrArg some (by kernel_rfl))⟩
 f21:=⟨Tryz.f218.name,by decide,Tryz.func218.trans (congrArg some (by kernel_rfl))⟩
 f22:=⟨Tryz.f219.name,by decide,Tryz.func219.trans (congrArg some (by kernel_rfl))⟩
 f23:=⟨Tryz.f220.name,by decide,Tryz.func220.trans (congrArg some (by kernel_rfl))⟩
 f24:=⟨Tryz.f221.name,by decide,Tryz.func221.trans (congrArg some (by kernel_rfl))⟩
 f25:=⟨Tryz.f222.name,by decide,Tryz.func222.trans (congrArg some (by kernel_rfl))⟩
 f26:=⟨Tryz.f223.name,by decide,Tryz.func223.trans (congrArg some (by kernel_rfl))⟩
 f27:=⟨Tryz.f224.name,by decide,Tryz.func224.trans (congrArg some (by kernel_rfl))⟩
 f28:=Tryz.func225.trans (congrArg some (by kernel_rfl))
 f29:=Tryz.func226.trans (congrArg some (by kernel_rfl))
 f46:=⟨Tryz.f246.name,by decide,Tryz.func246.trans (congrArg some (by kernel_rfl))⟩
 f47:=Tryz.func247.trans (congrArg some (by kernel_rfl))
 f48:=Tryz.func248.trans (congrArg some (by kernel_rfl))
 f49:=⟨Tryz.f249.name,by decide,Tryz.func249.trans (congrArg some (by kernel_rfl))⟩
 f50:=⟨Tryz.f250.name,by decide,Tryz.func250.trans (congrArg some (by kernel_rfl))⟩
 f57:=⟨Tryz.f261.name,by decide,Tryz.func261.trans (congrArg some (by kernel_rfl))⟩
 t0:=Tryz.underlying0
 a0:=Tryz.isAgg0
 z0:=Tryz.sizeOf0
 v0:=Tryz.zeroValue0
 t3:=Tryz.underlying3
 a3:=Tryz.isAgg3
 z3:=Tryz.sizeOf3
 v3:=Tryz.zeroValue3
 t4:=Tryz.underlying4
 a4:=Tryz.isAgg4
 z4:=Tryz.sizeOf4
 v4:=Tryz.zeroValue4
 t5:=Tryz.underlying5
 a5:=Tryz.isAgg5
 z5:=Tryz.sizeOf5
 v5:=Tryz.zeroValue5
 t9:=Tryz.underlying9
 a9:=Tryz.isAgg9
 z9:=Tryz.sizeOf9
 v9:=Tryz.zeroValue9
 t22:=Tryz.underlying45
 a22:=Tryz.isAgg45
 z22:=Tryz.sizeOf45
 v22:=Tryz.zeroValue45
 t25:=Tryz.underlying22
 a25:=Tryz.isAgg22
 z25:=Tryz.sizeOf22
 v25:=Tryz.zeroValue22
 t39:=Tryz.underlying226
 a39:=Tryz.isAgg226
 z39:=Tryz.sizeOf226
 v39:=Tryz.zeroValue226
 t45:=Tryz.underlying247
 a45:=Tryz.isAgg247
 z45:=Tryz.sizeOf247
 v45:=Tryz.zeroValue247
 t46:=Tryz.underlying248
 a46:=Tryz.isAgg248
 z46:=Tryz.sizeOf248
 v46:=Tryz.zeroValue248
 t50:=Tryz.underlying125
 a50:=Tryz.isAgg125
 z50:=Tryz.sizeOf125
 v50:=Tryz.zeroValue125
 t53:=Tryz.underlying254
 a53:=Tryz.isAgg254
 z53:=Tryz.sizeOf254
 v53:=Tryz.zeroValue254
 t55:=Tryz.underlying142
 a55:=Tryz.isAgg142
 z55:=Tryz.sizeOf142
 v55:=Tryz.zeroValue142
 t66:=Tryz.underlying268
 a66:=Tryz.isAgg268
 z66:=Tryz.sizeOf268
 v66:=Tryz.zeroValue268
 t70:=Tryz.underlying272
 a70:=Tryz.isAgg272
 z70:=Tryz.sizeOf272
 v70:=Tryz.zeroValue272
 t76:=Tryz.underlying282
 a76:=Tryz.isAgg282
 z76:=Tryz.sizeOf282
 v76:=Tryz.zeroValue282
 t77:=Tryz.underlying283
 a77:=Tryz.isAgg283
 z77:=Tryz.sizeOf283
 v77:=Tryz.zeroValue283 }

def layNat:Lay Nat:=⟨fun i=>[.int .i64 i],1,fun _=>rfl,fun x v hv=>by simp at hv;subst hv;rfl,by omega⟩
abbrev Ix (n:Nat):={i:Nat // i<n}
def layIx (n:Nat):Lay (Ix n):=⟨fun i=>[.int .i64 (i.1:Int)],1,fun _=>rfl,fun x v hv=>by simp at hv;subst hv;rfl,by omega⟩
def encIx (n:Nat) (i:Ix n):Value:=.int .i64 (i.1:Int)
theorem encIx_one (n:Nat):OneCell (encIx n):=fun _=>rfl
theorem flatE_ix {n:Nat} (o:List (Ix n)):flatE (layIx n) o=flatE layNat (o.map (·.1)):=by
 induction o with
 | nil=>rfl
 | cons i o ih=>unfold flatE at *;rw [List.map_cons,List.flatMap_cons,List.flatMap_cons,ih];rfl
theorem OwnE.ix {n:Nat} {e:TypeId} {w:World} {B:Nat} {v:Value} {o:List (Ix n)}:OwnE (layIx n) e w B v o↔OwnE layNat e w B v (o.map (·.1)):=by
 unfold OwnE
 rw [flatE_ix,List.length_map]
 rfl
theorem ix_of {n : Nat} : ∀ {o : List Nat}, (∀ k ∈ o, k < n) → ∃ o' : List (Ix n), o = o'.map (·.1)
 | [],_=>⟨[],rfl⟩
 | k :: o,h=>by
  obtain ⟨o',ho⟩:=ix_of (o:=o) (fun j hj=>h j (List.mem_cons_of_mem _ hj))
  exact ⟨⟨k,h k (List.mem_cons_self ..)⟩ :: o',by rw [List.map_cons,← ho]⟩
theorem info_int':(Tryz.prog.info? 3).map (fun i=>(i.zero,i.size,i.bytes))=some (some (.int .i64 0),1,8):=by kernel_rfl
theorem tyNat:TyE layNat 45 3 8:=⟨Tryz.underlying45,by obtain ⟨i0,hi,hz0,hz1,hz2⟩:=info_parts info_int';exact ⟨i0,.int .i64 0,hi,hz0,hz1,hz2,rfl⟩⟩
theorem info_pair:(Tryz.prog.info? 91).map (fun i=>(i.zero,i.size,i.bytes))=some (some (.agg #[.int .i64 0,.int .i64 0]),2,16):=by kernel_rfl
theorem tyPair:TyE layPair 86 91 16:=⟨Tryz.underlying86,by obtain ⟨i0,hi,hz0,hz1,hz2⟩:=info_parts info_pair;exact ⟨i0,.agg #[.int .i64 0,.int .i64 0],hi,hz0,hz1,hz2,rfl⟩⟩
theorem OwnE.take {α:Type} {L:Lay α} {e:TypeId} {w:World} {B g n cap:Nat} {l:List α} (h:OwnE L e w B (.slice (some ⟨g,0,none⟩) n cap) l) {m:Nat} (hm:m≤l.length):OwnE L e w B (.slice (some ⟨g,0,none⟩) m cap) (l.take m):=by
 obtain ⟨h1,⟨h2,-⟩ | ⟨g',cap',cur,hv,hb,hg,hn,hmx,hsz,ht⟩⟩:=h
 ·cases h2
 ·cases hv
  have e1:(l.take m).length=m:=by rw [List.length_take];omega
  refine ⟨flatE_len _,.inr ⟨g,cap,cur,by rw [e1],hb,hg,by rw [e1];omega,hmx,hsz,?_⟩⟩
  have e2:flatE L l=flatE L (l.take m) ++ flatE L (l.drop m):=by rw [← flatE_append,List.take_append_drop]
  have e3:m*L.k≤l.length*L.k:=Nat.mul_le_mul_right _ hm
  have e4:cur.toList.take (m*L.k)=(cur.toList.take (l.length*L.k)).take (m*L.k):=by rw [List.take_take,Nat.min_eq_left e3]
  rw [e1,e4,ht,e2,List.take_left' (by rw [flatE_len,e1])]
theorem permIn_list {α:Type} [Inhabited α] {d d':Array α} (h:PermIn 0 d.size d d'):d'.toList.Perm d.toList∧d'.size=d.size:=by
 obtain ⟨h1,-,h3⟩:=h
 refine ⟨?_,h1⟩
 have e1:d.extract 0 d.size=d:=by simp
 have e2:d'.extract 0 d.size=d':=by rw [← h1];simp
 rwa [e1,e2] at h3
theorem sortedIn_list {α:Type} [Inhabited α] {lt:α→α→Bool} {d:Array α} (h:SortedIn lt 0 d.size d):d.toList.Pairwise fun a b=>lt b a=false:=by
 rw [List.pairwise_iff_getElem]
 intro i j hi hj hij
 have:=h i j (Nat.zero_le _) hij (by simpa using hj)
 rw [getElem!_pos d j (by simpa using hj),getElem!_pos d i (by simpa using hi)] at this
 simpa using this
theorem compareInt_lt {x y:Int}:Lib.compareInt x y<0↔x<y:=by unfold Lib.compareInt;(repeat' split) <;> omega
theorem cf_p1 (args:Array Value) (w:World):(callFunc 111 args).run Tryz.prog w = .ok (.enter 111 args) w:=by kernel_rfl
theorem cf_p2 (args:Array Value) (w:World):(callFunc 114 args).run Tryz.prog w = .ok (.enter 114 args) w:=by kernel_rfl
theorem cf_p3 (args:Array Value) (w:World):(callFunc 116 args).run Tryz.prog w = .ok (.enter 116 args) w:=by kernel_rfl

theorem OwnE.ne {α:Type} {L:Lay α} {e:TypeId} {w:World} {B:Nat} {v:Value} {l:List α} (h:OwnE L e w B v l) {g:Nat} (hg:g<B):some g≠v.ownBlock:=fun q=>by
 have:=(h.lt q.symm).1
 omega

theorem sortOrd_calls (l:List Bx) (o:List Nat) (ho:∀ k ∈ o,k<l.length) (gb c B:Nat) (s:Value) (w:World) (hx:o≠[]→∃ b off,w.cell? ⟨gb,0,none⟩=some (.slice (some ⟨b,off,none⟩) l.length c)∧b<B∧CellsE layBox w b off l) (hgb:gb<B) (hs:OwnE layNat 3 w B s o) (hl:o.length≤1000000) :
  Calls Tryz.prog 110 #[s,.func (.func 111) #[] #[.pointer (some ⟨gb,0,none⟩)]] w fun e w'=>e = .returned (.tuple #[])∧(∃ o',o'.Perm o∧o'.Pairwise (fun a b=>(bxAt l a).1.1≤(bxAt l b).1.1)∧OwnE layNat 3 w' B s o')∧w.grownBy w' s.ownBlock:=by
 obtain ⟨o',rfl⟩:=ix_of ho
 rcases hs.form with ⟨rfl,h0⟩ | ⟨g,cap,rfl,hB,hg,hn,hm,hf,hcl⟩
 ·refine (AnyF.slices_SortFunc_none laySortInt0 none 0 _ w).mono ?_
  rintro e w' ⟨rfl,rfl⟩
  rw [h0] at hs ⊢
  exact ⟨rfl,⟨[],List.Perm.refl _,List.Pairwise.nil,hs⟩,⟨rfl,rfl,rfl,Nat.le_refl _,fun _ _ _=>rfl⟩⟩
 ·have hne : o'.map (·.1) ≠ [] ∨ o' = [] := by cases o' <;> simp
  rcases hne with hne | rfl
  ·obtain ⟨b, off, hbox, hb, hC⟩ := hx hne
   obtain ⟨i0,hi0⟩:∃ i:Ix l.length,i ∈ o':=by
    cases o' with
    | nil=>exact absurd rfl hne
    | cons i o'=>exact ⟨i,List.mem_cons_self ..⟩
   haveI:Inhabited (Ix l.length):=⟨i0⟩
   have hs2:=OwnE.ix.2 hs
   have hH:=hs2.holds
   have hcmp:CmpLays1 Tryz.prog 111 #[.pointer (some ⟨gb,0,none⟩)] (encIx l.length) (fun x y=>Lib.compareInt (bxAt l x.1).1.1 (bxAt l y.1).1.1) g 0 o'.toArray.size w:=by
    intro m os dk hdk x y
    have other:∀ a:Addr,a.block<B→(sortWorld (encIx l.length) w g 0 m dk os).cell? a=w.cell? a:=fun a ha=>by rw [sortWorld_one];exact cell?_sortWorldK_other _ _ _ _ _ _ _ _ _ (by omega) (by omega)
    have hsz:w.heap.size≤(sortWorld (encIx l.length) w g 0 m dk os).heap.size:=by
     rw [sortWorld_one]
     exact (grownBy_sortedK (L:=layIx l.length) dk).size
    refine (pairs1_calls l x.1 y.1 gb b off l.length c x.2 y.2 _ (by rw [other _ hgb];exact hbox) ⟨Nat.lt_of_lt_of_le hC.lt hsz,fun j hj i v hv=>by rw [other _ hb];exact hC.at_ j hj i v hv⟩).mono ?_
    rintro e w' ⟨rfl,rfl⟩
    exact ⟨rfl,1,#[],by rw [grow_empty];rfl⟩
   have hO:SWO (ltOf fun x y:Ix l.length=>Lib.compareInt (bxAt l x.1).1.1 (bxAt l y.1).1.1):=by
    have e:∀ x y:Ix l.length,ltOf (fun x y:Ix l.length=>Lib.compareInt (bxAt l x.1).1.1 (bxAt l y.1).1.1) x y=decide ((bxAt l x.1).1.1<(bxAt l y.1).1.1):=fun x y=>by
     unfold ltOf
     rw [decide_eq_decide,compareInt_lt]
    refine ⟨fun x=>?_,fun x y z h1 h2=>?_,fun x y z h1 h2=>?_⟩
    ·rw [e];simp
    ·rw [e] at *;simp at *;omega
    ·rw [e] at *;simp at *;omega
   have hlen:(o'.map (·.1)).length=o'.toArray.size:=by simp
   have hsz2:o'.toArray.size≤1000000:=by rw [← hlen];exact hl
   have hcon:=Any.slices_SortFunc laySortInt (encIx l.length) (encIx_one _) (fun x y=>Lib.compareInt (bxAt l x.1).1.1 (bxAt l y.1).1.1) hO 111 #[.pointer (some ⟨gb,0,none⟩)] g 0 cap o'.toArray w cf_p1 hcmp (holds_one hH) hg (by omega)
   rw [hlen]
   refine Calls.mono hcon ?_
   rintro e w' ⟨rfl,d',m,os,hp,hsd,rfl⟩
   obtain ⟨p1,p2⟩:=permIn_list hp
   rw [sortWorld_one]
   have hso:SortedIn (ltOf fun x y:Ix l.length=>Lib.compareInt (bxAt l x.1).1.1 (bxAt l y.1).1.1) 0 d'.size d':=by rw [p2];exact hsd
   have hpw:=sortedIn_list hso
   rw [hlen] at hs2
   refine ⟨rfl,⟨d'.toList.map (·.1),p1.map _,?_,?_⟩,grownBy_sortedK (L:=layIx l.length) d'⟩
   ·rw [List.pairwise_map]
    refine hpw.imp fun {x y} h=>?_
    unfold ltOf at h
    rw [decide_eq_false_iff_not,compareInt_lt] at h
    omega
   ·exact OwnE.ix.1 (hs2.sorted d' (by rw [p2];simp))
  ·refine Calls.mono (AnyF.slices_SortFunc_none laySortInt0 (some ⟨g, 0, none⟩) cap _ w) ?_
   rintro e w' ⟨rfl,rfl⟩
   exact ⟨rfl,⟨[],List.Perm.refl _,List.Pairwise.nil,hs⟩,⟨rfl,rfl,rfl,Nat.le_refl _,fun _ _ _=>rfl⟩⟩

theorem sortPairs_calls (o:List (Nat × Nat)) (B:Nat) (s:Value) (w:World) (hs:OwnE layPair 91 w B s o) (hl:o.length≤1000000) :
  Calls Tryz.prog 115 #[s,.func (.func 116) #[] #[]] w fun e w'=>e = .returned (.tuple #[])∧(∃ o':List (Nat × Nat),o'.Perm o∧o'.Pairwise (fun p q=>¬ cmpPair q p<0)∧OwnE layPair 91 w' B s o')∧w.grownBy w' s.ownBlock:=by
 rcases hs.form with ⟨rfl,h0⟩ | ⟨g,cap,rfl,hB,hg,hn,hm,hf,hcl⟩
 ·refine (AnyF.slices_SortFunc_none laySortPair none 0 _ w).mono ?_
  rintro e w' ⟨rfl,rfl⟩
  rw [h0] at hs ⊢
  exact ⟨rfl,⟨[],List.Perm.refl _,List.Pairwise.nil,hs⟩,⟨rfl,rfl,rfl,Nat.le_refl _,fun _ _ _=>rfl⟩⟩
 ·have hH := hs.holds
  have hcmp:CmpLays Tryz.prog 116 #[] layPair.enc 2 cmpPair g 0 o.toArray.size w:=fun m os dk hdk x y=>pairs3_calls x y _
  have hO:SWO (ltOf cmpPair):=by
   have e:∀ x y,ltOf cmpPair x y=decide (ltP x y):=fun x y=>by
    unfold ltOf
    rw [decide_eq_decide,cmpPair_lt]
   refine ⟨fun x=>?_,fun x y z h1 h2=>?_,fun x y z h1 h2=>?_⟩
   ·rw [e];exact decide_eq_false ltP_irrefl
   ·rw [e] at *;exact decide_eq_true (ltP_trans (of_decide_eq_true h1) (of_decide_eq_true h2))
   ·rw [e] at *
    have a:=of_decide_eq_false h1
    have b:=of_decide_eq_false h2
    refine decide_eq_false ?_
    unfold ltP at *
    omega
  have hlen:o.length=o.toArray.size:=by simp
  have hsz2:o.toArray.size≤1000000:=by rw [← hlen];exact hl
  have hcon:=AnyQ.slices_SortFunc laySortPair 2 Tryz.isAgg91 Tryz.sizeOf91 layPair.enc layPair.hk layPair.one cmpPair hO 116 #[] g 0 cap o.toArray w cf_p3 hcmp hH hg (by omega)
  rw [hlen]
  refine Calls.mono hcon ?_
  rintro e w' ⟨rfl,d',m,os,hp,hsd,rfl⟩
  obtain ⟨p1,p2⟩:=permIn_list hp
  have hso:SortedIn (ltOf cmpPair) 0 d'.size d':=by rw [p2];exact hsd
  have hpw:=sortedIn_list hso
  rw [hlen] at hs
  refine ⟨rfl,⟨d'.toList,p1,?_,hs.sorted d' (by rw [p2];simp)⟩,grownBy_sortedK (L:=layPair) d'⟩
  refine hpw.imp fun {x y} h=>?_
  unfold ltOf at h
  rwa [decide_eq_false_iff_not] at h
theorem del_nil (s:Option Addr) (n c:Nat) (hn:n=0) (fv:Value) (w:World):Calls Tryz.prog 113 #[.slice s n c,fv] w fun e w'=>e = .returned (.slice s n c)∧w'=w:=by
 subst hn
 go_enter Tryz.func113,Tryz.ntmps113
 go_wp2
 go_loopw [8] (fun j wr=>j = .int .i64 0∧wr=w) (fun _ _=>0)
 case atStart=>exact ⟨rfl,rfl⟩
 case round =>
  obtain ⟨rfl,rfl⟩:=hrel
  go_wp2
  go_returns
  exact ⟨rfl,rfl⟩

theorem delOpen_calls (l : List Bx) (op : List Nat) (i : Nat) (hop : ∀ k ∈ op, k < l.length) (hi : i < l.length) (gb gi b off c B : Nat) (s : Value) (w : World) (hbox : w.cell? ⟨gb, 0, none⟩ = some (.slice (some ⟨b, off, none⟩) l.length c)) (hgi : w.cell? ⟨gi, 0, none⟩ = some (.int .i64 i)) (hne : ∀ k, s.ownBlock = some k → k ≠ gi)
  (hc:CellsE layBox w b off l) (hgb:gb<B) (hb:b<B) (hs:OwnE layNat 3 w B s op) (hl:op.length≤1000000) :
  Calls Tryz.prog 113 #[s,.func (.func 114) #[] #[.pointer (some ⟨gb,0,none⟩),.pointer (some ⟨gi,0,none⟩)]] w fun e w'=>(∃ s',e = .returned s'∧s'.ownBlock=s.ownBlock∧OwnE layNat 3 w' B s' (opnK l op i))∧w.grownBy w' s.ownBlock:=by
 obtain ⟨o',rfl⟩:=ix_of hop
 rcases hs.form with ⟨rfl,h0⟩ | ⟨g,cap,rfl,hB,hg,hn,hm,hf,hcl⟩
 ·refine (del_nil none 0 0 rfl _ w).mono ?_
  rintro e w' ⟨rfl,rfl⟩
  rw [h0] at hs ⊢
  exact ⟨⟨_,rfl,rfl,hs⟩,⟨rfl,rfl,rfl,Nat.le_refl _,fun _ _ _=>rfl⟩⟩
 ·haveI : Inhabited (Ix l.length) := ⟨⟨i, hi⟩⟩
  have hs2:=OwnE.ix.2 hs
  have hH:=hs2.holds
  have hgg:g≠gi:=hne g rfl
  have hgil:=lt_of_cell hgi
  have read:∀ (W:World),(∀ a:Addr,a.block<w.heap.size→a.block≠g→W.cell? a=w.cell? a)→w.heap.size≤W.heap.size→∀ x:Ix l.length,FnGives Tryz.prog 114 #[.pointer (some ⟨gb,0,none⟩),.pointer (some ⟨gi,0,none⟩)] #[encIx l.length x] (.bool (decide ((bxAt l x.1).2.1<(bxAt l i).1.1))) W:=fun W hW hsz x=>by
   refine Calls.mono (pairs2_calls l x.1 i gb gi b off c x.2 hi W (by rw [hW _ (by show gb<_;omega) (by show gb≠_;omega)];exact hbox) (by rw [hW _ hgil (fun e=>hgg e.symm)];exact hgi) ⟨Nat.lt_of_lt_of_le hc.lt hsz,fun j hj i v hv=>by rw [hW _ (by show b<_;omega) (by show b≠_;omega)];exact hc.at_ j hj i v hv⟩) ?_
   rintro e w' ⟨rfl,rfl⟩
   exact ⟨rfl,1,rfl⟩
  have hp:PredAt Tryz.prog 114 #[.pointer (some ⟨gb,0,none⟩),.pointer (some ⟨gi,0,none⟩)] (encIx l.length) (fun x=>decide ((bxAt l x.1).2.1<(bxAt l i).1.1)) w:=fun W x hW=>read W (fun a ha _=>hW.cell ha) hW.size x
  have hpo:PredOver Tryz.prog 114 #[.pointer (some ⟨gb,0,none⟩),.pointer (some ⟨gi,0,none⟩)] (encIx l.length) (fun x=>decide ((bxAt l x.1).2.1<(bxAt l i).1.1)) g 0 o'.toArray.size w:=by
   intro m os dk x hdk
   refine read _ (fun a ha hne=>by rw [sortWorld_one];exact cell?_sortWorldK_other _ _ _ _ _ _ _ _ _ hne ha) ?_ x
   rw [sortWorld_one]
   exact (grownBy_sortedK (L:=layIx l.length) dk).size
  have hlen:(o'.map (·.1)).length=o'.toArray.size:=by simp
  have hsz2:o'.toArray.size≤1000000:=by rw [← hlen];exact hl
  rw [hlen] at hn
  have hcon:=AnyE.slices_DeleteFunc layDelInt (encIx l.length) (encIx_one _) (fun x=>decide ((bxAt l x.1).2.1<(bxAt l i).1.1)) 114 #[.pointer (some ⟨gb,0,none⟩),.pointer (some ⟨gi,0,none⟩)] cf_p2 (⟨0,by omega⟩:Ix l.length) (fun w=>Tryz.zeroValue3 w) g 0 cap o'.toArray w hp hpo (holds_one hH) (by omega) hn
  rw [hlen]
  refine Calls.mono hcon ?_
  rintro e w' ⟨rfl,q,rfl⟩
  obtain ⟨F,hF⟩:∃ F,F=o'.filter fun x => !decide ((bxAt l x.1).2.1<(bxAt l i).1.1):=⟨_,rfl⟩
  have eF:o'.toArray.toList.filter (fun x => !decide ((bxAt l x.1).2.1<(bxAt l i).1.1))=F:=hF.symm
  rw [eF]
  have hFl:F.length≤o'.length:=by rw [hF];exact List.length_filter_le _ _
  obtain ⟨D,hD⟩:∃ D:Array (Ix l.length),D=(F ++ List.replicate (o'.toArray.size-F.length) (⟨0,by omega⟩:Ix l.length)).toArray:=⟨_,rfl⟩
  rw [← hD]
  have hDs:D.size=o'.length:=by rw [hD];simp;omega
  have eW:putRow (encIx l.length) (Sort.ahead w q) g 0 D=sortWorldK (layIx l.length).enc (layIx l.length).k w g 0 q D #[]:=by
   have:=sortWorld_one (encIx l.length) w g 0 q D #[]
   unfold sortWorld at this
   rw [grow_empty] at this
   exact this
  rw [eW]
  rw [hlen] at hs2
  have h5:=(hs2.sorted (m:=q) (os:=#[]) D hDs).take (m:=F.length) (by rw [hD];simp)
  have eT:D.toList.take F.length=F:=by rw [hD];simp
  rw [eT] at h5
  have eO:opnK l (o'.map (·.1)) i=F.map (·.1):=by rw [hF];unfold opnK;rw [List.filter_map];rfl
  rw [eO]
  exact ⟨⟨_,rfl,rfl,OwnE.ix.1 h5⟩,grownBy_sortedK (L:=layIx l.length) D⟩
end
end Go.Proofs.YtodpincpofoiiaaGreat
