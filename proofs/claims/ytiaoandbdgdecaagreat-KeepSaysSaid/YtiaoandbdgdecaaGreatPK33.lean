/- Parts of a proof: contracts and laws. -/
import Derived.Test.YtiaoandbdgdecaaGreatPK32
set_option maxRecDepth 100000
set_option maxHeartbeats 16000000
namespace Go.Proofs.YtiaoandbdgdecaaGreat
section
set_option linter.unusedVariables false
set_option linter.unusedSimpArgs false
open Go.Shelf
open Go.RowKit Go.Sort Go.Lib
def laySortInt0_ren:Go.Shelf.Ren:=⟨fun | 6=>75 | 15=>127 | 14=>126 | 28=>174 | 29=>175 | 20=>166 | 21=>167 | 22=>168 | 23=>169 | 24=>170 | 25=>171 | 26=>172 | 27=>173 | 46=>194 | 47=>195 | 48=>196 | 49=>197 | 50=>198 | 57=>202 | n=>n,fun | 22=>22 | 24=>3 | 25=>41 | 3=>3 | 39=>163 | 0=>0 | 53=>166 | 55=>114 | 4=>4 | 46=>189 | 45=>188 | 50=>123 | 5=>5 | 9=>9 | 66=>206 | 70=>210 | 76=>214 | 77=>215 | n=>n,fun | n=>n⟩
theorem laySortInt0 : Go.Proofs.SlLaysF0.n6 Tryz.prog laySortInt0_ren := {
 mixed:=by kernel_rfl
 f6:=⟨Tryz.f75.name,by decide,Tryz.func75.trans (congrArg some (by kernel_rfl))⟩
 f14:=⟨Tryz.f126.name,by decide,Tryz.func126.trans (congrArg some (by kernel_rfl))⟩
 f15:=Tryz.func127.trans (congrArg some (by kernel_rfl))
 f20:=⟨Tryz.f166.name,by decide,Tryz.func166.trans (congrArg some (by kernel_rfl))⟩
 f21:=⟨Tryz.f167.name,by decide,Tryz.func167.trans (congrArg some (by kernel_rfl))⟩
 f22:=⟨Tryz.f168.name,by decide,Tryz.func168.trans (congrArg some (by kernel_rfl))⟩
 f23:=⟨Tryz.f169.name,by decide,Tryz.func169.trans (congrArg some (by kernel_rfl))⟩
 f24:=⟨Tryz.f170.name,by decide,Tryz.func170.trans (congrArg some (by kernel_rfl))⟩
 f25:=⟨Tryz.f171.name,by decide,Tryz.func171.trans (congrArg some (by kernel_rfl))⟩
 f26:=⟨Tryz.f172.name,by decide,Tryz.func172.trans (congrArg some (by kernel_rfl))⟩
 f27:=⟨Tryz.f173.name,by decide,Tryz.func173.trans (congrArg some (by kernel_rfl))⟩
 f28:=Tryz.func174.trans (congrArg some (by kernel_rfl))
 f29:=Tryz.func175.trans (congrArg some (by kernel_rfl))
 f46:=⟨Tryz.f194.name,by decide,Tryz.func194.trans (congrArg some (by kernel_rfl))⟩
 f47:=Tryz.func195.trans (congrArg some (by kernel_rfl))
 f48:=Tryz.func196.trans (congrArg some (by kernel_rfl))
 f49:=⟨Tryz.f197.name,by decide,Tryz.func197.trans (congrArg some (by kernel_rfl))⟩
 f50:=⟨Tryz.f198.name,by decide,Tryz.func198.trans (congrArg some (by kernel_rfl))⟩
 f57:=⟨Tryz.f202.name,by decide,Tryz.func202.trans (congrArg some (by kernel_rfl))⟩
 t0:=Tryz.underlying0
 a0:=Tryz.isAgg0
 z0:=Tryz.sizeOf0
 v0:=Tryz.zeroValue0
 t3:=Tryz.underlying3
 a3:=Tryz.isAgg3
 z3:=Tryz.sizeOf3
 v3:=Tryz.zeroValue3
 t4:=Tryz.underlying4
 a4:=Tryz.isAgg4
 z4:=Tryz.sizeOf4
 v4:=Tryz.zeroValue4
 t5:=Tryz.underlying5
 a5:=Tryz.isAgg5
 z5:=Tryz.sizeOf5
 v5:=Tryz.zeroValue5
 t9:=Tryz.underlying9
 a9:=Tryz.isAgg9
 z9:=Tryz.sizeOf9
 v9:=Tryz.zeroValue9
 t22:=Tryz.underlying22
 a22:=Tryz.isAgg22
 z22:=Tryz.sizeOf22
 v22:=Tryz.zeroValue22
 t25:=Tryz.underlying41
 a25:=Tryz.isAgg41
 z25:=Tryz.sizeOf41
 v25:=Tryz.zeroValue41
 t39:=Tryz.underlying163
 a39:=Tryz.isAgg163
 z39:=Tryz.sizeOf163
 v39:=Tryz.zeroValue163
 t45:=Tryz.underlying188
 a45:=Tryz.isAgg188
 z45:=Tryz.sizeOf188
 v45:=Tryz.zeroValue188
 t46:=Tryz.underlying189
 a46:=Tryz.isAgg189
 z46:=Tryz.sizeOf189
 v46:=Tryz.zeroValue189
 t50:=Tryz.underlying123
 a50:=Tryz.isAgg123
 z50:=Tryz.sizeOf123
 v50:=Tryz.zeroValue123
 t53:=Tryz.underlying166
 a53:=Tryz.isAgg166
 z53:=Tryz.sizeOf166
 v53:=Tryz.zeroValue166
 t55:=Tryz.underlying114
 a55:=Tryz.isAgg114
 z55:=Tryz.sizeOf114
 v55:=Tryz.zeroValue114
 t66:=Tryz.underlying206
 a66:=Tryz.isAgg206
 z66:=Tryz.sizeOf206
 v66:=Tryz.zeroValue206
 t70:=Tryz.underlying210
 a70:=Tryz.isAgg210
 z70:=Tryz.sizeOf210
 v70:=Tryz.zeroValue210
 t76:=Tryz.underlying214
 a76:=Tryz.isAgg214
 z76:=Tryz.sizeOf214
 v76:=Tryz.zeroValue214
 t77:=Tryz.underlying215
 a77:=Tryz.isAgg215
 z77:=Tryz.sizeOf215
 v77:=Tryz.zeroValue215 }

def layNat:Lay Nat:=⟨fun i=>[.int .i64 i],1,fun _=>rfl,fun x v hv=>by simp at hv;subst hv;rfl,by omega⟩
abbrev Ix (n:Nat):={i:Nat // i<n}
def layIx (n:Nat):Lay (Ix n):=⟨fun i=>[.int .i64 (i.1:Int)],1,fun _=>rfl,fun x v hv=>by simp at hv;subst hv;rfl,by omega⟩
def encIx (n:Nat) (i:Ix n):Value:=.int .i64 (i.1:Int)
theorem encIx_one (n:Nat):OneCell (encIx n):=fun _=>rfl
theorem flatE_ix {n:Nat} (o:List (Ix n)):flatE (layIx n) o=flatE layNat (o.map (·.1)):=by
 induction o with
 | nil=>rfl
 | cons i o ih=>unfold flatE at *;rw [List.map_cons,List.flatMap_cons,List.flatMap_cons,ih];rfl
theorem OwnE.ix {n:Nat} {e:TypeId} {w:World} {B:Nat} {v:Value} {o:List (Ix n)}:OwnE (layIx n) e w B v o↔OwnE layNat e w B v (o.map (·.1)):=by
 unfold OwnE
 rw [flatE_ix,List.length_map]
 rfl
theorem ix_of {n : Nat} : ∀ {o : List Nat}, (∀ k ∈ o, k < n) → ∃ o' : List (Ix n), o = o'.map (·.1)
 | [],_=>⟨[],rfl⟩
 | k :: o,h=>by
  obtain ⟨o',ho⟩:=ix_of (o:=o) (fun j hj=>h j (List.mem_cons_of_mem _ hj))
  exact ⟨⟨k,h k (List.mem_cons_self ..)⟩ :: o',by rw [List.map_cons,← ho]⟩
theorem info_int':(Tryz.prog.info? 3).map (fun i=>(i.zero,i.size,i.bytes))=some (some (.int .i64 0),1,8):=by kernel_rfl
theorem tyNat:TyE layNat 22 3 8:=⟨Tryz.underlying22,by obtain ⟨i0,hi,hz0,hz1,hz2⟩:=info_parts info_int';exact ⟨i0,.int .i64 0,hi,hz0,hz1,hz2,rfl⟩⟩
theorem info_pair:(Tryz.prog.info? 44).map (fun i=>(i.zero,i.size,i.bytes))=some (some (.agg #[.int .i64 0,.int .i64 0]),2,16):=by kernel_rfl
theorem tyPair:TyE layPair 34 44 16:=⟨Tryz.underlying34,by obtain ⟨i0,hi,hz0,hz1,hz2⟩:=info_parts info_pair;exact ⟨i0,.agg #[.int .i64 0,.int .i64 0],hi,hz0,hz1,hz2,rfl⟩⟩
theorem OwnE.take {α:Type} {L:Lay α} {e:TypeId} {w:World} {B g n cap:Nat} {l:List α} (h:OwnE L e w B (.slice (some ⟨g,0,none⟩) n cap) l) {m:Nat} (hm:m≤l.length):OwnE L e w B (.slice (some ⟨g,0,none⟩) m cap) (l.take m):=by
 obtain ⟨h1,⟨h2,-⟩ | ⟨g',cap',cur,hv,hb,hg,hn,hmx,hsz,ht⟩⟩:=h
 ·cases h2
 ·cases hv
  have e1:(l.take m).length=m:=by rw [List.length_take];omega
  refine ⟨flatE_len _,.inr ⟨g,cap,cur,by rw [e1],hb,hg,by rw [e1];omega,hmx,hsz,?_⟩⟩
  have e2:flatE L l=flatE L (l.take m) ++ flatE L (l.drop m):=by rw [← flatE_append,List.take_append_drop]
  have e3:m*L.k≤l.length*L.k:=Nat.mul_le_mul_right _ hm
  have e4:cur.toList.take (m*L.k)=(cur.toList.take (l.length*L.k)).take (m*L.k):=by rw [List.take_take,Nat.min_eq_left e3]
  rw [e1,e4,ht,e2,List.take_left' (by rw [flatE_len,e1])]
theorem permIn_list {α:Type} [Inhabited α] {d d':Array α} (h:PermIn 0 d.size d d'):d'.toList.Perm d.toList∧d'.size=d.size:=by
 obtain ⟨h1,-,h3⟩:=h
 refine ⟨?_,h1⟩
 have e1:d.extract 0 d.size=d:=by simp
 have e2:d'.extract 0 d.size=d':=by rw [← h1];simp
 rwa [e1,e2] at h3
theorem sortedIn_list {α:Type} [Inhabited α] {lt:α→α→Bool} {d:Array α} (h:SortedIn lt 0 d.size d):d.toList.Pairwise fun a b=>lt b a=false:=by
 rw [List.pairwise_iff_getElem]
 intro i j hi hj hij
 have:=h i j (Nat.zero_le _) hij (by simpa using hj)
 rw [getElem!_pos d j (by simpa using hj),getElem!_pos d i (by simpa using hi)] at this
 simpa using this
theorem compareInt_lt {x y:Int}:Lib.compareInt x y<0↔x<y:=by unfold Lib.compareInt;(repeat' split) <;> omega
theorem cf_p1 (args:Array Value) (w:World):(callFunc 76 args).run Tryz.prog w = .ok (.enter 76 args) w:=by kernel_rfl
theorem cf_p2 (args:Array Value) (w:World):(callFunc 78 args).run Tryz.prog w = .ok (.enter 78 args) w:=by kernel_rfl
theorem cf_p3 (args:Array Value) (w:World):(callFunc 80 args).run Tryz.prog w = .ok (.enter 80 args) w:=by kernel_rfl

theorem OwnE.ne {α:Type} {L:Lay α} {e:TypeId} {w:World} {B:Nat} {v:Value} {l:List α} (h:OwnE L e w B v l) {g:Nat} (hg:g<B):some g≠v.ownBlock:=fun q=>by
 have:=(h.lt q.symm).1
 omega

theorem sortOrd_calls (l:List Bx) (o:List Nat) (ho:∀ k ∈ o,k<l.length) (gb c B:Nat) (s:Value) (w:World) (hx:o≠[]→∃ b off,w.cell? ⟨gb,0,none⟩=some (.slice (some ⟨b,off,none⟩) l.length c)∧b<B∧CellsE layBox w b off l) (hgb:gb<B) (hs:OwnE layNat 3 w B s o) (hl:o.length≤1000000) :
  Calls Tryz.prog 75 #[s,.func (.func 76) #[] #[.pointer (some ⟨gb,0,none⟩)]] w fun e w'=>e = .returned (.tuple #[])∧(∃ o',o'.Perm o∧o'.Pairwise (fun a b=>(bxAt l a).1.1≤(bxAt l b).1.1)∧OwnE layNat 3 w' B s o')∧w.grownBy w' s.ownBlock:=by
 obtain ⟨o',rfl⟩:=ix_of ho
 rcases hs.form with ⟨rfl,h0⟩ | ⟨g,cap,rfl,hB,hg,hn,hm,hf,hcl⟩
 ·refine (AnyF.slices_SortFunc_none laySortInt0 none 0 _ w).mono ?_
  rintro e w' ⟨rfl,rfl⟩
  rw [h0] at hs ⊢
  exact ⟨rfl,⟨[],List.Perm.refl _,List.Pairwise.nil,hs⟩,⟨rfl,rfl,rfl,Nat.le_refl _,fun _ _ _=>rfl⟩⟩
 ·have hne : o'.map (·.1) ≠ [] ∨ o' = [] := by cases o' <;> simp
  rcases hne with hne | rfl
  ·obtain ⟨b, off, hbox, hb, hC⟩ := hx hne
   obtain ⟨i0,hi0⟩:∃ i:Ix l.length,i ∈ o':=by
    cases o' with
    | nil=>exact absurd rfl hne
    | cons i o'=>exact ⟨i,List.mem_cons_self ..⟩
   haveI:Inhabited (Ix l.length):=⟨i0⟩
   have hs2:=OwnE.ix.2 hs
   have hH:=hs2.holds
   have hcmp:CmpLays1 Tryz.prog 76 #[.pointer (some ⟨gb,0,none⟩)] (encIx l.length) (fun x y=>Lib.compareInt (bxAt l x.1).1.1 (bxAt l y.1).1.1) g 0 o'.toArray.size w:=by
    intro m os dk hdk x y
    have other:∀ a:Addr,a.block<B→(sortWorld (encIx l.length) w g 0 m dk os).cell? a=w.cell? a:=fun a ha=>by rw [sortWorld_one];exact cell?_sortWorldK_other _ _ _ _ _ _ _ _ _ (by omega) (by omega)
    have hsz:w.heap.size≤(sortWorld (encIx l.length) w g 0 m dk os).heap.size:=by
     rw [sortWorld_one]
     exact (grownBy_sortedK (L:=layIx l.length) dk).size
    refine (pairs1_calls l x.1 y.1 gb b off l.length c x.2 y.2 _ (by rw [other _ hgb];exact hbox) ⟨Nat.lt_of_lt_of_le hC.lt hsz,fun j hj i v hv=>by rw [other _ hb];exact hC.at_ j hj i v hv⟩).mono ?_
    rintro e w' ⟨rfl,rfl⟩
    exact ⟨rfl,1,#[],by rw [grow_empty];rfl⟩
   have hO:SWO (ltOf fun x y:Ix l.length=>Lib.compareInt (bxAt l x.1).1.1 (bxAt l y.1).1.1):=by
    have e:∀ x y:Ix l.length,ltOf (fun x y:Ix l.length=>Lib.compareInt (bxAt l x.1).1.1 (bxAt l y.1).1.1) x y=decide ((bxAt l x.1).1.1<(bxAt l y.1).1.1):=fun x y=>by
     unfold ltOf
     rw [decide_eq_decide,compareInt_lt]
    refine ⟨fun x=>?_,fun x y z h1 h2=>?_,fun x y z h1 h2=>?_⟩
    ·rw [e];simp
    ·rw [e] at *;simp at *;omega
    ·rw [e] at *;simp at *;omega
   have hlen:(o'.map (·.1)).length=o'.toArray.size:=by simp
   have hsz2:o'.toArray.size≤1000000:=by rw [← hlen];exact hl
   have hcon:=Any.slices_SortFunc laySortInt (encIx l.length) (encIx_one _) (fun x y=>Lib.compareInt (bxAt l x.1).1.1 (bxAt l y.1).1.1) hO 76 #[.pointer (some ⟨gb,0,none⟩)] g 0 cap o'.toArray w cf_p1 hcmp (holds_one hH) hg (by omega)
   rw [hlen]
   refine Calls.mono hcon ?_
   rintro e w' ⟨rfl,d',m,os,hp,hsd,rfl⟩
   obtain ⟨p1,p2⟩:=permIn_list hp
   rw [sortWorld_one]
   have hso:SortedIn (ltOf fun x y:Ix l.length=>Lib.compareInt (bxAt l x.1).1.1 (bxAt l y.1).1.1) 0 d'.size d':=by rw [p2];exact hsd
   have hpw:=sortedIn_list hso
   rw [hlen] at hs2
   refine ⟨rfl,⟨d'.toList.map (·.1),p1.map _,?_,?_⟩,grownBy_sortedK (L:=layIx l.length) d'⟩
   ·rw [List.pairwise_map]
    refine hpw.imp fun {x y} h=>?_
    unfold ltOf at h
    rw [decide_eq_false_iff_not,compareInt_lt] at h
    omega
   ·exact OwnE.ix.1 (hs2.sorted d' (by rw [p2];simp))
  ·refine Calls.mono (AnyF.slices_SortFunc_none laySortInt0 (some ⟨g, 0, none⟩) cap _ w) ?_
   rintro e w' ⟨rfl,rfl⟩
   exact ⟨rfl,⟨[],List.Perm.refl _,List.Pairwise.nil,hs⟩,⟨rfl,rfl,rfl,Nat.le_refl _,fun _ _ _=>rfl⟩⟩

theorem sortPairs_calls (o:List (Nat × Nat)) (B:Nat) (s:Value) (w:World) (hs:OwnE layPair 44 w B s o) (hl:o.length≤1000000) :
  Calls Tryz.prog 79 #[s,.func (.func 80) #[] #[]] w fun e w'=>e = .returned (.tuple #[])∧(∃ o':List (Nat × Nat),o'.Perm o∧o'.Pairwise (fun p q=>¬ cmpPair q p<0)∧OwnE layPair 44 w' B s o')∧w.grownBy w' s.ownBlock:=by
 rcases hs.form with ⟨rfl,h0⟩ | ⟨g,cap,rfl,hB,hg,hn,hm,hf,hcl⟩
 ·refine (AnyF.slices_SortFunc_none laySortPair none 0 _ w).mono ?_
  rintro e w' ⟨rfl,rfl⟩
  rw [h0] at hs ⊢
  exact ⟨rfl,⟨[],List.Perm.refl _,List.Pairwise.nil,hs⟩,⟨rfl,rfl,rfl,Nat.le_refl _,fun _ _ _=>rfl⟩⟩
 ·have hH := hs.holds
  have hcmp:CmpLays Tryz.prog 80 #[] layPair.enc 2 cmpPair g 0 o.toArray.size w:=fun m os dk hdk x y=>pairs3_calls x y _
  have hO:SWO (ltOf cmpPair):=by
   have e:∀ x y,ltOf cmpPair x y=decide (ltP x y):=fun x y=>by
    unfold ltOf
    rw [decide_eq_decide,cmpPair_lt]
   refine ⟨fun x=>?_,fun x y z h1 h2=>?_,fun x y z h1 h2=>?_⟩
   ·rw [e];exact decide_eq_false ltP_irrefl
   ·rw [e] at *;exact decide_eq_true (ltP_trans (of_decide_eq_true h1) (of_decide_eq_true h2))
   ·rw [e] at *
    have a:=of_decide_eq_false h1
    have b:=of_decide_eq_false h2
    refine decide_eq_false ?_
    unfold ltP at *
    omega
  have hlen:o.length=o.toArray.size:=by simp
  have hsz2:o.toArray.size≤1000000:=by rw [← hlen];exact hl
  have hcon:=AnyQ.slices_SortFunc laySortPair 2 Tryz.isAgg44 Tryz.sizeOf44 layPair.enc layPair.hk layPair.one cmpPair hO 80 #[] g 0 cap o.toArray w cf_p3 hcmp hH hg (by omega)
  rw [hlen]
  refine Calls.mono hcon ?_
  rintro e w' ⟨rfl,d',m,os,hp,hsd,rfl⟩
  obtain ⟨p1,p2⟩:=permIn_list hp
  have hso:SortedIn (ltOf cmpPair) 0 d'.size d':=by rw [p2];exact hsd
  have hpw:=sortedIn_list hso
  rw [hlen] at hs
  refine ⟨rfl,⟨d'.toList,p1,?_,hs.sorted d' (by rw [p2];simp)⟩,grownBy_sortedK (L:=layPair) d'⟩
  refine hpw.imp fun {x y} h=>?_
  unfold ltOf at h
  rwa [decide_eq_false_iff_not] at h
theorem del_nil (s:Option Addr) (n c:Nat) (hn:n=0) (fv:Value) (w:World):Calls Tryz.prog 77 #[.slice s n c,fv] w fun e w'=>e = .returned (.slice s n c)∧w'=w:=by
 subst hn
 go_enter Tryz.func77,Tryz.ntmps77
 go_wp2
 go_loopw [8] (fun j wr=>j = .int .i64 0∧wr=w) (fun _ _=>0)
 case atStart=>exact ⟨rfl,rfl⟩
 case round =>
  obtain ⟨rfl,rfl⟩:=hrel
  go_wp2
  go_returns
  exact ⟨rfl,rfl⟩

theorem delOpen_calls (l : List Bx) (op : List Nat) (i : Nat) (hop : ∀ k ∈ op, k < l.length) (hi : i < l.length) (gb gi b off c B : Nat) (s : Value) (w : World) (hbox : w.cell? ⟨gb, 0, none⟩ = some (.slice (some ⟨b, off, none⟩) l.length c)) (hgi : w.cell? ⟨gi, 0, none⟩ = some (.int .i64 i)) (hne : ∀ k, s.ownBlock = some k → k ≠ gi)
  (hc:CellsE layBox w b off l) (hgb:gb<B) (hb:b<B) (hs:OwnE layNat 3 w B s op) (hl:op.length≤1000000) :
  Calls Tryz.prog 77 #[s,.func (.func 78) #[] #[.pointer (some ⟨gb,0,none⟩),.pointer (some ⟨gi,0,none⟩)]] w fun e w'=>(∃ s',e = .returned s'∧s'.ownBlock=s.ownBlock∧OwnE layNat 3 w' B s' (opnK l op i))∧w.grownBy w' s.ownBlock:=by
 obtain ⟨o',rfl⟩:=ix_of hop
 rcases hs.form with ⟨rfl,h0⟩ | ⟨g,cap,rfl,hB,hg,hn,hm,hf,hcl⟩
 ·refine (del_nil none 0 0 rfl _ w).mono ?_
  rintro e w' ⟨rfl,rfl⟩
  rw [h0] at hs ⊢
  exact ⟨⟨_,rfl,rfl,hs⟩,⟨rfl,rfl,rfl,Nat.le_refl _,fun _ _ _=>rfl⟩⟩
 ·haveI : Inhabited (Ix l.length) := ⟨⟨i, hi⟩⟩
  have hs2:=OwnE.ix.2 hs
  have hH:=hs2.holds
  have hgg:g≠gi:=hne g rfl
  have hgil:=lt_of_cell hgi
  have read:∀ (W:World),(∀ a:Addr,a.block<w.heap.size→a.block≠g→W.cell? a=w.cell? a)→w.heap.size≤W.heap.size→∀ x:Ix l.length,FnGives Tryz.prog 78 #[.pointer (some ⟨gb,0,none⟩),.pointer (some ⟨gi,0,none⟩)] #[encIx l.length x] (.bool (decide ((bxAt l x.1).2.1<(bxAt l i).1.1))) W:=fun W hW hsz x=>by
   refine Calls.mono (pairs2_calls l x.1 i gb gi b off c x.2 hi W (by rw [hW _ (by show gb<_;omega) (by show gb≠_;omega)];exact hbox) (by rw [hW _ hgil (fun e=>hgg e.symm)];exact hgi) ⟨Nat.lt_of_lt_of_le hc.lt hsz,fun j hj i v hv=>by rw [hW _ (by show b<_;omega) (by show b≠_;omega)];exact hc.at_ j hj i v hv⟩) ?_
   rintro e w' ⟨rfl,rfl⟩
   exact ⟨rfl,1,rfl⟩
  have hp:PredAt Tryz.prog 78 #[.pointer (some ⟨gb,0,none⟩),.pointer (some ⟨gi,0,none⟩)] (encIx l.length) (fun x=>decide ((bxAt l x.1).2.1<(bxAt l i).1.1)) w:=fun W x hW=>read W (fun a ha _=>hW.cell ha) hW.size x
  have hpo:PredOver Tryz.prog 78 #[.pointer (some ⟨gb,0,none⟩),.pointer (some ⟨gi,0,none⟩)] (encIx l.length) (fun x=>decide ((bxAt l x.1).2.1<(bxAt l i).1.1)) g 0 o'.toArray.size w:=by
   intro m os dk x hdk
   refine read _ (fun a ha hne=>by rw [sortWorld_one];exact cell?_sortWorldK_other _ _ _ _ _ _ _ _ _ hne ha) ?_ x
   rw [sortWorld_one]
   exact (grownBy_sortedK (L:=layIx l.length) dk).size
  have hlen:(o'.map (·.1)).length=o'.toArray.size:=by simp
  have hsz2:o'.toArray.size≤1000000:=by rw [← hlen];exact hl
  rw [hlen] at hn
  have hcon:=AnyE.slices_DeleteFunc layDelInt (encIx l.length) (encIx_one _) (fun x=>decide ((bxAt l x.1).2.1<(bxAt l i).1.1)) 78 #[.pointer (some ⟨gb,0,none⟩),.pointer (some ⟨gi,0,none⟩)] cf_p2 (⟨0,by omega⟩:Ix l.length) (fun w=>Tryz.zeroValue3 w) g 0 cap o'.toArray w hp hpo (holds_one hH) (by omega) hn
  rw [hlen]
  refine Calls.mono hcon ?_
  rintro e w' ⟨rfl,q,rfl⟩
  obtain ⟨F,hF⟩:∃ F,F=o'.filter fun x => !decide ((bxAt l x.1).2.1<(bxAt l i).1.1):=⟨_,rfl⟩
  have eF:o'.toArray.toList.filter (fun x => !decide ((bxAt l x.1).2.1<(bxAt l i).1.1))=F:=hF.symm
  rw [eF]
  have hFl:F.length≤o'.length:=by rw [hF];exact List.length_filter_le _ _
  obtain ⟨D,hD⟩:∃ D:Array (Ix l.length),D=(F ++ List.replicate (o'.toArray.size-F.length) (⟨0,by omega⟩:Ix l.length)).toArray:=⟨_,rfl⟩
  rw [← hD]
  have hDs:D.size=o'.length:=by rw [hD];simp;omega
  have eW:putRow (encIx l.length) (Sort.ahead w q) g 0 D=sortWorldK (layIx l.length).enc (layIx l.length).k w g 0 q D #[]:=by
   have:=sortWorld_one (encIx l.length) w g 0 q D #[]
   unfold sortWorld at this
   rw [grow_empty] at this
   exact this
  rw [eW]
  rw [hlen] at hs2
  have h5:=(hs2.sorted (m:=q) (os:=#[]) D hDs).take (m:=F.length) (by rw [hD];simp)
  have eT:D.toList.take F.length=F:=by rw [hD];simp
  rw [eT] at h5
  have eO:opnK l (o'.map (·.1)) i=F.map (·.1):=by rw [hF];unfold opnK;rw [List.filter_map];rfl
  rw [eO]
  exact ⟨⟨_,rfl,rfl,OwnE.ix.1 h5⟩,grownBy_sortedK (L:=layIx l.length) D⟩
end
end Go.Proofs.YtiaoandbdgdecaaGreat
