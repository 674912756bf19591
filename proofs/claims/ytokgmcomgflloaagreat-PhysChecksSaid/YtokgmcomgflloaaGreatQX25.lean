/- Parts of a proof: contracts and laws. -/
import Derived.Test.YtokgmcomgflloaaGreatQX24
set_option maxRecDepth 100000
set_option maxHeartbeats 16000000
namespace Go.Proofs.YtokgmcomgflloaaGreat
section
set_option linter.unusedVariables false
set_option linter.unusedSimpArgs false
open Go.Shelf
open Go.RowKit Go.Sort Go.Lib
def qc:Go.Shelf.Ren:=⟨fun | 6=>73 | 15=>138 | 14=>137 | 28=>196 | 29=>197 | 20=>188 | 21=>189 | 22=>190 | 23=>191 | 24=>192 | 25=>193 | 26=>194 | 27=>195 | 46=>231 | 47=>232 | 48=>233 | 49=>234 | 50=>235 | 57=>253 | n=>n,fun | 22=>45 | 24=>3 | 25=>22 | 3=>3 | 39=>191 | 0=>0 | 53=>235 | 55=>118 | 4=>4 | 46=>229 | 45=>228 | 50=>154 | 5=>5 | 9=>9 | 66=>259 | 70=>263 | 76=>277 | 77=>278 | n=>n,fun | n=>n⟩
theorem pE : Go.Proofs.SlLaysF0.n6 Tryz.prog qc := {
 mixed:=by kernel_rfl
 f6:=⟨Tryz.f73.name,by decide,Tryz.func73.trans (congrArg some (by kernel_rfl))⟩
 f14:=⟨Tryz.f137.name,by decide,Tryz.func137.trans (congrArg some (by kernel_rfl))⟩
 f15:=Tryz.func138.trans (congrArg some (by kernel_rfl))
 f20:=⟨Tryz.f188.name,by decide,Tryz.func188.trans (congrArg some (by kernel_rfl))⟩
 f21:=⟨Tryz.f189.name,by decide,Tryz.func189.trans (congrArg some (by kernel_rfl))⟩
 f22:=⟨Tryz.f190.name,by decide,Tryz.func190.trans (congrArg some (by kernel_rfl))⟩
 f23:=⟨Tryz.f191.name,by decide,Tryz.func191.trans (congrArg some (by kernel_rfl))⟩
 f24:=⟨Tryz.f192.name,by decide,Tryz.func192.trans (congrArg some (by kernel_rfl))⟩
 f25:=⟨Tryz.f193.name,by decide,Tryz.func193.trans (congrArg some (by kernel_rfl))⟩
 f26:=⟨Tryz.f194.name,by decide,Tryz.func194.trans (congrArg some (by kernel_rfl))⟩
 f27:=⟨Tryz.f195.name,by decide,Tryz.func195.trans (congrArg some (by kernel_rfl))⟩
 f28:=Tryz.func196.trans (congrArg some (by kernel_rfl))
 f29:=Tryz.func197.trans (congrArg some (by kernel_rfl))
 f46:=⟨Tryz.f231.name,by decide,Tryz.func231.trans (congrArg some (by kernel_rfl))⟩
 f47:=Tryz.func232.trans (congrArg some (by kernel_rfl))
 f48:=Tryz.func233.trans (congrArg some (by kernel_rfl))
 f49:=⟨Tryz.f234.name,by decide,Tryz.func234.trans (congrArg some (by kernel_rfl))⟩
 f50:=⟨Tryz.f235.name,by decide,Tryz.func235.trans (congrArg some (by kernel_rfl))⟩
 f57:=⟨Tryz.f253.name,by decide,Tryz.func253.trans (congrArg some (by kernel_rfl))⟩
 t0:=Tryz.underlying0
 a0:=Tryz.isAgg0
 z0:=Tryz.sizeOf0
 v0:=Tryz.zeroValue0
 t3:=Tryz.underlying3
 a3:=Tryz.isAgg3
 z3:=Tryz.sizeOf3
 v3:=Tryz.zeroValue3
 t4:=Tryz.underlying4
 a4:=Tryz.isAgg4
 z4:=Tryz.sizeOf4
 v4:=Tryz.zeroValue4
 t5:=Tryz.underlying5
 a5:=Tryz.isAgg5
 z5:=Tryz.sizeOf5
 v5:=Tryz.zeroValue5
 t9:=Tryz.underlying9
 a9:=Tryz.isAgg9
 z9:=Tryz.sizeOf9
 v9:=Tryz.zeroValue9
 t22:=Tryz.underlying45
 a22:=Tryz.isAgg45
 z22:=Tryz.sizeOf45
 v22:=Tryz.zeroValue45
 t25:=Tryz.underlying22
 a25:=Tryz.isAgg22
 z25:=Tryz.sizeOf22
 v25:=Tryz.zeroValue22
 t39:=Tryz.underlying191
 a39:=Tryz.isAgg191
 z39:=Tryz.sizeOf191
 v39:=Tryz.zeroValue191
 t45:=Tryz.underlying228
 a45:=Tryz.isAgg228
 z45:=Tryz.sizeOf228
 v45:=Tryz.zeroValue228
 t46:=Tryz.underlying229
 a46:=Tryz.isAgg229
 z46:=Tryz.sizeOf229
 v46:=Tryz.zeroValue229
 t50:=Tryz.underlying154
 a50:=Tryz.isAgg154
 z50:=Tryz.sizeOf154
 v50:=Tryz.zeroValue154
 t53:=Tryz.underlying235
 a53:=Tryz.isAgg235
 z53:=Tryz.sizeOf235
 v53:=Tryz.zeroValue235
 t55:=Tryz.underlying118
 a55:=Tryz.isAgg118
 z55:=Tryz.sizeOf118
 v55:=Tryz.zeroValue118
 t66:=Tryz.underlying259
 a66:=Tryz.isAgg259
 z66:=Tryz.sizeOf259
 v66:=Tryz.zeroValue259
 t70:=Tryz.underlying263
 a70:=Tryz.isAgg263
 z70:=Tryz.sizeOf263
 v70:=Tryz.zeroValue263
 t76:=Tryz.underlying277
 a76:=Tryz.isAgg277
 z76:=Tryz.sizeOf277
 v76:=Tryz.zeroValue277
 t77:=Tryz.underlying278
 a77:=Tryz.isAgg278
 z77:=Tryz.sizeOf278
 v77:=Tryz.zeroValue278 }

def bI:Lay Nat:=⟨fun i=>[.int .i64 i],1,fun _=>rfl,fun x v hv=>by simp at hv;subst hv;rfl,by omega⟩
abbrev Ix (n:Nat):={i:Nat // i<n}
def pK (n:Nat):Lay (Ix n):=⟨fun i=>[.int .i64 (i.1:Int)],1,fun _=>rfl,fun x v hv=>by simp at hv;subst hv;rfl,by omega⟩
def kU (n:Nat) (i:Ix n):Value:=.int .i64 (i.1:Int)
theorem uh (n:Nat):OneCell (kU n):=fun _=>rfl
theorem Fg {n:Nat} (o:List (Ix n)):dF (pK n) o=dF bI (o.map (·.1)):=by
 induction o with
 | nil=>rfl
 | cons i o ih=>unfold dF at *;rw [List.map_cons,List.flatMap_cons,List.flatMap_cons,ih];rfl
theorem aN.ix {n:Nat} {e:TypeId} {w:World} {B:Nat} {v:Value} {o:List (Ix n)}:aN (pK n) e w B v o↔aN bI e w B v (o.map (·.1)):=by
 unfold aN;rw [Fg,List.length_map];rfl
theorem ED {n : Nat} : ∀ {o : List Nat}, (∀ k ∈ o, k < n) → ∃ o' : List (Ix n), o = o'.map (·.1)
 | [],_=>⟨[],rfl⟩
 | k :: o,h=>by
  obtain ⟨o',ho⟩:=ED (o:=o) (fun j hj=>h j (List.mem_cons_of_mem _ hj))
  exact ⟨⟨k,h k (List.mem_cons_self ..)⟩ :: o',by rw [List.map_cons,← ho]⟩
theorem ug:(Tryz.prog.info? 3).map (fun i=>(i.zero,i.size,i.bytes))=some (some (.int .i64 0),1,8):=by kernel_rfl
theorem GK:EU bI 45 3 8:=⟨Tryz.underlying45,by obtain ⟨i0,hi,hz0,hz1,hz2⟩:=info_parts ug;exact ⟨i0,.int .i64 0,hi,hz0,hz1,hz2,rfl⟩⟩
theorem CV:(Tryz.prog.info? 72).map (fun i=>(i.zero,i.size,i.bytes))=some (some (.agg #[.int .i64 0,.int .i64 0]),2,16):=by kernel_rfl
theorem zT:EU aZ 67 72 16:=⟨Tryz.underlying67,by obtain ⟨i0,hi,hz0,hz1,hz2⟩:=info_parts CV;exact ⟨i0,.agg #[.int .i64 0,.int .i64 0],hi,hz0,hz1,hz2,rfl⟩⟩
theorem aN.take {α:Type} {L:Lay α} {e:TypeId} {w:World} {B g n cap:Nat} {l:List α} (h:aN L e w B (.slice (some ⟨g,0,none⟩) n cap) l) {m:Nat} (hm:m≤l.length):aN L e w B (.slice (some ⟨g,0,none⟩) m cap) (l.take m):=by
 obtain ⟨h1,⟨h2,-⟩ | ⟨g',cap',cur,hv,hb,hg,hn,hmx,hsz,ht⟩⟩:=h
 ·cases h2
 ·cases hv
  have e1:(l.take m).length=m:=by rw [List.length_take];omega
  refine ⟨jd _,.inr ⟨g,cap,cur,by rw [e1],hb,hg,by rw [e1];omega,hmx,hsz,?_⟩⟩;have e2:dF L l=dF L (l.take m) ++ dF L (l.drop m):=by rw [← nH,List.take_append_drop]
  have e3:m*L.k≤l.length*L.k:=Nat.mul_le_mul_right _ hm;have e4:cur.toList.take (m*L.k)=(cur.toList.take (l.length*L.k)).take (m*L.k):=by rw [List.take_take,Nat.min_eq_left e3]
  rw [e1,e4,ht,e2,List.take_left' (by rw [jd,e1])]
theorem o9 {α:Type} [Inhabited α] {d d':Array α} (h:PermIn 0 d.size d d'):d'.toList.Perm d.toList∧d'.size=d.size:=by
 obtain ⟨h1,-,h3⟩:=h;refine ⟨?_,h1⟩;have e1:d.extract 0 d.size=d:=by simp
 have e2:d'.extract 0 d.size=d':=by rw [← h1];simp
 rwa [e1,e2] at h3
theorem mD {α:Type} [Inhabited α] {lt:α→α→Bool} {d:Array α} (h:SortedIn lt 0 d.size d):d.toList.Pairwise fun a b=>lt b a=false:=by
 rw [List.pairwise_iff_getElem];intro i j hi hj hij;have:=h i j (Nat.zero_le _) hij (by simpa using hj);rw [getElem!_pos d j (by simpa using hj),getElem!_pos d i (by simpa using hi)] at this;simpa using this
theorem l9 {x y:Int}:Lib.compareInt x y<0↔x<y:=by unfold Lib.compareInt;(repeat' split) <;> omega
theorem Ic (args:Array Value) (w:World):(callFunc 74 args).run Tryz.prog w = .ok (.enter 74 args) w:=by kernel_rfl
theorem Ih (args:Array Value) (w:World):(callFunc 77 args).run Tryz.prog w = .ok (.enter 77 args) w:=by kernel_rfl
theorem Hy (args:Array Value) (w:World):(callFunc 79 args).run Tryz.prog w = .ok (.enter 79 args) w:=by kernel_rfl

theorem aN.ne {α:Type} {L:Lay α} {e:TypeId} {w:World} {B:Nat} {v:Value} {l:List α} (h:aN L e w B v l) {g:Nat} (hg:g<B):some g≠v.ownBlock:=fun q=>by
 have:=(h.lt q.symm).1;omega

theorem sD (l:List Bx) (o:List Nat) (ho:∀ k ∈ o,k<l.length) (gb c B:Nat) (s:Value) (w:World) (hx:o≠[]→∃ b off,w.cell? ⟨gb,0,none⟩=some (.slice (some ⟨b,off,none⟩) l.length c)∧b<B∧aH bT w b off l) (hgb:gb<B) (hs:aN bI 3 w B s o) (hl:o.length≤1000000) :
  Calls Tryz.prog 73 #[s,.func (.func 74) #[] #[.pointer (some ⟨gb,0,none⟩)]] w fun e w'=>e = .returned (.tuple #[])∧(∃ o',o'.Perm o∧o'.Pairwise (fun a b=>(aU l a).1.1≤(aU l b).1.1)∧aN bI 3 w' B s o')∧w.grownBy w' s.ownBlock:=by
 obtain ⟨o',rfl⟩:=ED ho
 rcases hs.form with ⟨rfl,h0⟩ | ⟨g,cap,rfl,hB,hg,hn,hm,hf,hcl⟩
 ·refine (AnyF.slices_SortFunc_none pE none 0 _ w).mono ?_;rintro e w' ⟨rfl,rfl⟩;rw [h0] at hs ⊢;exact ⟨rfl,⟨[],List.Perm.refl _,List.Pairwise.nil,hs⟩,⟨rfl,rfl,rfl,Nat.le_refl _,fun _ _ _=>rfl⟩⟩
 ·have hne : o'.map (·.1) ≠ [] ∨ o' = [] := by cases o' <;> simp
  rcases hne with hne | rfl
  ·obtain ⟨b, off, hbox, hb, hC⟩ := hx hne
   obtain ⟨i0,hi0⟩:∃ i:Ix l.length,i ∈ o':=by
    cases o' with
    | nil=>exact absurd rfl hne
    | cons i o'=>exact ⟨i,List.mem_cons_self ..⟩
   haveI:Inhabited (Ix l.length):=⟨i0⟩
   have hs2:=aN.ix.2 hs;have hH:=hs2.holds
   have hcmp:CmpLays1 Tryz.prog 74 #[.pointer (some ⟨gb,0,none⟩)] (kU l.length) (fun x y=>Lib.compareInt (aU l x.1).1.1 (aU l y.1).1.1) g 0 o'.toArray.size w:=by
    intro m os dk hdk x y;have other:∀ a:Addr,a.block<B→(sortWorld (kU l.length) w g 0 m dk os).cell? a=w.cell? a:=fun a ha=>by rw [eP];exact cell?_sortWorldK_other _ _ _ _ _ _ _ _ _ (by omega) (by omega)
    have hsz:w.heap.size≤(sortWorld (kU l.length) w g 0 m dk os).heap.size:=by
     rw [eP];exact (eB (L:=pK l.length) dk).size
    refine (uZ l x.1 y.1 gb b off l.length c x.2 y.2 _ (by rw [other _ hgb];exact hbox) ⟨Nat.lt_of_lt_of_le hC.lt hsz,fun j hj i v hv=>by rw [other _ hb];exact hC.at_ j hj i v hv⟩).mono ?_;rintro e w' ⟨rfl,rfl⟩;exact ⟨rfl,1,#[],by rw [grow_empty];rfl⟩
   have hO:SWO (ltOf fun x y:Ix l.length=>Lib.compareInt (aU l x.1).1.1 (aU l y.1).1.1):=by
    have e:∀ x y:Ix l.length,ltOf (fun x y:Ix l.length=>Lib.compareInt (aU l x.1).1.1 (aU l y.1).1.1) x y=decide ((aU l x.1).1.1<(aU l y.1).1.1):=fun x y=>by
     unfold ltOf;rw [decide_eq_decide,l9]
    refine ⟨fun x=>?_,fun x y z h1 h2=>?_,fun x y z h1 h2=>?_⟩
    ·rw [e];simp
    ·rw [e] at *;simp at *;omega
    ·rw [e] at *;simp at *;omega
   have hlen:(o'.map (·.1)).length=o'.toArray.size:=by simp
   have hsz2:o'.toArray.size≤1000000:=by rw [← hlen];exact hl
   have hcon:=Any.slices_SortFunc yX (kU l.length) (uh _) (fun x y=>Lib.compareInt (aU l x.1).1.1 (aU l y.1).1.1) hO 74 #[.pointer (some ⟨gb,0,none⟩)] g 0 cap o'.toArray w Ic hcmp (holds_one hH) hg (by omega);rw [hlen];refine Calls.mono hcon ?_;rintro e w' ⟨rfl,d',m,os,hp,hsd,rfl⟩;obtain ⟨p1,p2⟩:=o9 hp;rw [eP];have hso:SortedIn (ltOf fun x y:Ix l.length=>Lib.compareInt (aU l x.1).1.1 (aU l y.1).1.1) 0 d'.size d':=by rw [p2];exact hsd
   have hpw:=mD hso;rw [hlen] at hs2;refine ⟨rfl,⟨d'.toList.map (·.1),p1.map _,?_,?_⟩,eB (L:=pK l.length) d'⟩
   ·rw [List.pairwise_map];refine hpw.imp fun {x y} h=>?_
    unfold ltOf at h;rw [decide_eq_false_iff_not,l9] at h;omega
   ·exact aN.ix.1 (hs2.sorted d' (by rw [p2];simp))
  ·refine Calls.mono (AnyF.slices_SortFunc_none pE (some ⟨g, 0, none⟩) cap _ w) ?_;rintro e w' ⟨rfl,rfl⟩;exact ⟨rfl,⟨[],List.Perm.refl _,List.Pairwise.nil,hs⟩,⟨rfl,rfl,rfl,Nat.le_refl _,fun _ _ _=>rfl⟩⟩

theorem pR (o:List (Nat × Nat)) (B:Nat) (s:Value) (w:World) (hs:aN aZ 72 w B s o) (hl:o.length≤1000000) :
  Calls Tryz.prog 78 #[s,.func (.func 79) #[] #[]] w fun e w'=>e = .returned (.tuple #[])∧(∃ o':List (Nat × Nat),o'.Perm o∧o'.Pairwise (fun p q=>¬ fQ q p<0)∧aN aZ 72 w' B s o')∧w.grownBy w' s.ownBlock:=by
 rcases hs.form with ⟨rfl,h0⟩ | ⟨g,cap,rfl,hB,hg,hn,hm,hf,hcl⟩
 ·refine (AnyF.slices_SortFunc_none o8 none 0 _ w).mono ?_;rintro e w' ⟨rfl,rfl⟩;rw [h0] at hs ⊢;exact ⟨rfl,⟨[],List.Perm.refl _,List.Pairwise.nil,hs⟩,⟨rfl,rfl,rfl,Nat.le_refl _,fun _ _ _=>rfl⟩⟩
 ·have hH := hs.holds;have hcmp:CmpLays Tryz.prog 79 #[] aZ.enc 2 fQ g 0 o.toArray.size w:=fun m os dk hdk x y=>uO x y _
  have hO:SWO (ltOf fQ):=by
   have e:∀ x y,ltOf fQ x y=decide (vG x y):=fun x y=>by
    unfold ltOf;rw [decide_eq_decide,rF]
   refine ⟨fun x=>?_,fun x y z h1 h2=>?_,fun x y z h1 h2=>?_⟩
   ·rw [e];exact decide_eq_false kF
   ·rw [e] at *;exact decide_eq_true (tF (of_decide_eq_true h1) (of_decide_eq_true h2))
   ·rw [e] at *
    have a:=of_decide_eq_false h1;have b:=of_decide_eq_false h2;refine decide_eq_false ?_;unfold vG at *
    omega
  have hlen:o.length=o.toArray.size:=by simp
  have hsz2:o.toArray.size≤1000000:=by rw [← hlen];exact hl
  have hcon:=AnyQ.slices_SortFunc o8 2 Tryz.isAgg72 Tryz.sizeOf72 aZ.enc aZ.hk aZ.one fQ hO 79 #[] g 0 cap o.toArray w Hy hcmp hH hg (by omega);rw [hlen];refine Calls.mono hcon ?_;rintro e w' ⟨rfl,d',m,os,hp,hsd,rfl⟩;obtain ⟨p1,p2⟩:=o9 hp;have hso:SortedIn (ltOf fQ) 0 d'.size d':=by rw [p2];exact hsd
  have hpw:=mD hso;rw [hlen] at hs;refine ⟨rfl,⟨d'.toList,p1,?_,hs.sorted d' (by rw [p2];simp)⟩,eB (L:=aZ) d'⟩;refine hpw.imp fun {x y} h=>?_
  unfold ltOf at h;rwa [decide_eq_false_iff_not] at h
theorem F4 (s:Option Addr) (n c:Nat) (hn:n=0) (fv:Value) (w:World):Calls Tryz.prog 76 #[.slice s n c,fv] w fun e w'=>e = .returned (.slice s n c)∧w'=w:=by
 subst hn
 go_enter Tryz.func76,Tryz.ntmps76
 go_wp2
 go_loopw [8] (fun j wr=>j = .int .i64 0∧wr=w) (fun _ _=>0)
 case atStart=>exact ⟨rfl,rfl⟩
 case round =>
  obtain ⟨rfl,rfl⟩:=hrel;go_wp2
  go_returns
  exact ⟨rfl,rfl⟩

theorem tu (l : List Bx) (op : List Nat) (i : Nat) (hop : ∀ k ∈ op, k < l.length) (hi : i < l.length) (gb gi b off c B : Nat) (s : Value) (w : World) (hbox : w.cell? ⟨gb, 0, none⟩ = some (.slice (some ⟨b, off, none⟩) l.length c)) (hgi : w.cell? ⟨gi, 0, none⟩ = some (.int .i64 i)) (hne : ∀ k, s.ownBlock = some k → k ≠ gi)
  (hc:aH bT w b off l) (hgb:gb<B) (hb:b<B) (hs:aN bI 3 w B s op) (hl:op.length≤1000000) :
  Calls Tryz.prog 76 #[s,.func (.func 77) #[] #[.pointer (some ⟨gb,0,none⟩),.pointer (some ⟨gi,0,none⟩)]] w fun e w'=>(∃ s',e = .returned s'∧s'.ownBlock=s.ownBlock∧aN bI 3 w' B s' (iX l op i))∧w.grownBy w' s.ownBlock:=by
 obtain ⟨o',rfl⟩:=ED hop
 rcases hs.form with ⟨rfl,h0⟩ | ⟨g,cap,rfl,hB,hg,hn,hm,hf,hcl⟩
 ·refine (F4 none 0 0 rfl _ w).mono ?_;rintro e w' ⟨rfl,rfl⟩;rw [h0] at hs ⊢;exact ⟨⟨_,rfl,rfl,hs⟩,⟨rfl,rfl,rfl,Nat.le_refl _,fun _ _ _=>rfl⟩⟩
 ·haveI : Inhabited (Ix l.length) := ⟨⟨i, hi⟩⟩
  have hs2:=aN.ix.2 hs;have hH:=hs2.holds;have hgg:g≠gi:=hne g rfl;have hgil:=lt_of_cell hgi
  have read:∀ (W:World),(∀ a:Addr,a.block<w.heap.size→a.block≠g→W.cell? a=w.cell? a)→w.heap.size≤W.heap.size→∀ x:Ix l.length,FnGives Tryz.prog 77 #[.pointer (some ⟨gb,0,none⟩),.pointer (some ⟨gi,0,none⟩)] #[kU l.length x] (.bool (decide ((aU l x.1).2.1<(aU l i).1.1))) W:=fun W hW hsz x=>by
   refine Calls.mono (uK l x.1 i gb gi b off c x.2 hi W (by rw [hW _ (by show gb<_;omega) (by show gb≠_;omega)];exact hbox) (by rw [hW _ hgil (fun e=>hgg e.symm)];exact hgi) ⟨Nat.lt_of_lt_of_le hc.lt hsz,fun j hj i v hv=>by rw [hW _ (by show b<_;omega) (by show b≠_;omega)];exact hc.at_ j hj i v hv⟩) ?_;rintro e w' ⟨rfl,rfl⟩;exact ⟨rfl,1,rfl⟩
  have hp:PredAt Tryz.prog 77 #[.pointer (some ⟨gb,0,none⟩),.pointer (some ⟨gi,0,none⟩)] (kU l.length) (fun x=>decide ((aU l x.1).2.1<(aU l i).1.1)) w:=fun W x hW=>read W (fun a ha _=>hW.cell ha) hW.size x
  have hpo:PredOver Tryz.prog 77 #[.pointer (some ⟨gb,0,none⟩),.pointer (some ⟨gi,0,none⟩)] (kU l.length) (fun x=>decide ((aU l x.1).2.1<(aU l i).1.1)) g 0 o'.toArray.size w:=by
   intro m os dk x hdk;refine read _ (fun a ha hne=>by rw [eP];exact cell?_sortWorldK_other _ _ _ _ _ _ _ _ _ hne ha) ?_ x;rw [eP];exact (eB (L:=pK l.length) dk).size
  have hlen:(o'.map (·.1)).length=o'.toArray.size:=by simp
  have hsz2:o'.toArray.size≤1000000:=by rw [← hlen];exact hl
  rw [hlen] at hn;have hcon:=AnyE.slices_DeleteFunc DK (kU l.length) (uh _) (fun x=>decide ((aU l x.1).2.1<(aU l i).1.1)) 77 #[.pointer (some ⟨gb,0,none⟩),.pointer (some ⟨gi,0,none⟩)] Ih (⟨0,by omega⟩:Ix l.length) (fun w=>Tryz.zeroValue3 w) g 0 cap o'.toArray w hp hpo (holds_one hH) (by omega) hn;rw [hlen];refine Calls.mono hcon ?_;rintro e w' ⟨rfl,q,rfl⟩;obtain ⟨F,hF⟩:∃ F,F=o'.filter fun x => !decide ((aU l x.1).2.1<(aU l i).1.1):=⟨_,rfl⟩
  have eF:o'.toArray.toList.filter (fun x => !decide ((aU l x.1).2.1<(aU l i).1.1))=F:=hF.symm;rw [eF];have hFl:F.length≤o'.length:=by rw [hF];exact List.length_filter_le _ _
  obtain ⟨D,hD⟩:∃ D:Array (Ix l.length),D=(F ++ List.replicate (o'.toArray.size-F.length) (⟨0,by omega⟩:Ix l.length)).toArray:=⟨_,rfl⟩;rw [← hD];have hDs:D.size=o'.length:=by rw [hD];simp;omega
  have eW:putRow (kU l.length) (Sort.ahead w q) g 0 D=sortWorldK (pK l.length).enc (pK l.length).k w g 0 q D #[]:=by
   have:=eP (kU l.length) w g 0 q D #[];unfold sortWorld at this;rw [grow_empty] at this;exact this
  rw [eW];rw [hlen] at hs2;have h5:=(hs2.sorted (m:=q) (os:=#[]) D hDs).take (m:=F.length) (by rw [hD];simp);have eT:D.toList.take F.length=F:=by rw [hD];simp
  rw [eT] at h5;have eO:iX l (o'.map (·.1)) i=F.map (·.1):=by rw [hF];unfold iX;rw [List.filter_map];rfl
  rw [eO];exact ⟨⟨_,rfl,rfl,aN.ix.1 h5⟩,eB (L:=pK l.length) D⟩
end
end Go.Proofs.YtokgmcomgflloaaGreat
