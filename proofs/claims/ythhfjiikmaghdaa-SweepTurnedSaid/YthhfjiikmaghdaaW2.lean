/- The library's sort and DeleteFunc at own slices of numbers and of pairs. -/
import Derived.Test.YthhfjiikmaghdaaM25
namespace Go.Proofs.Ythhfjiikmaghdaa
set_option linter.unusedVariables false
set_option linter.unusedSimpArgs false
open Go.Shelf
def laySortInt0_ren : Go.Shelf.Ren := ⟨fun | 6 => 142 | 15 => 150 | 14 => 194 | 28 => 204 | 29 => 205 | 20 => 235 | 21 => 236 | 22 => 237 | 23 => 238 | 24 => 239 | 25 => 240 | 26 => 241 | 27 => 242 | 46 => 254 | 47 => 244 | 48 => 245 | 49 => 255 | 50 => 256 | 57 => 261 | n => n, fun | 22 => 51 | 24 => 3 | 25 => 143 | 3 => 3 | 39 => 167 | 0 => 0 | 53 => 113 | 55 => 125 | 4 => 4 | 46 => 201 | 45 => 200 | 50 => 35 | 5 => 5 | 9 => 9 | 66 => 226 | 70 => 230 | 76 => 236 | 77 => 237 | n => n, fun | n => n⟩
theorem laySortInt0 : Go.Proofs.SlLaysF0.n6 Try.prog laySortInt0_ren := {
  mixed := by kernel_rfl
  f6 := ⟨Try.f142.name, by decide, Try.func142.trans (congrArg some (by kernel_rfl))⟩
  f14 := ⟨Try.f194.name, by decide, Try.func194.trans (congrArg some (by kernel_rfl))⟩
  f15 := Try.func150.trans (congrArg some (by kernel_rfl))
  f20 := ⟨Try.f235.name, by decide, Try.func235.trans (congrArg some (by kernel_rfl))⟩
  f21 := ⟨Try.f236.name, by decide, Try.func236.trans (congrArg some (by kernel_rfl))⟩
  f22 := ⟨Try.f237.name, by decide, Try.func237.trans (congrArg some (by kernel_rfl))⟩
  f23 := ⟨Try.f238.name, by decide, Try.func238.trans (congrArg some (by kernel_rfl))⟩
  f24 := ⟨Try.f239.name, by decide, Try.func239.trans (congrArg some (by kernel_rfl))⟩
  f25 := ⟨Try.f240.name, by decide, Try.func240.trans (congrArg some (by kernel_rfl))⟩
  f26 := ⟨Try.f241.name, by decide, Try.func241.trans (congrArg some (by kernel_rfl))⟩
  f27 := ⟨Try.f242.name, by decide, Try.func242.trans (congrArg some (by kernel_rfl))⟩
  f28 := Try.func204.trans (congrArg some (by kernel_rfl))
  f29 := Try.func205.trans (congrArg some (by kernel_rfl))
  f46 := ⟨Try.f254.name, by decide, Try.func254.trans (congrArg some (by kernel_rfl))⟩
  f47 := Try.func244.trans (congrArg some (by kernel_rfl))
  f48 := Try.func245.trans (congrArg some (by kernel_rfl))
  f49 := ⟨Try.f255.name, by decide, Try.func255.trans (congrArg some (by kernel_rfl))⟩
  f50 := ⟨Try.f256.name, by decide, Try.func256.trans (congrArg some (by kernel_rfl))⟩
  f57 := ⟨Try.f261.name, by decide, Try.func261.trans (congrArg some (by kernel_rfl))⟩
  t0 := Try.underlying0
  a0 := Try.isAgg0
  z0 := Try.sizeOf0
  v0 := Try.zeroValue0
  t3 := Try.underlying3
  a3 := Try.isAgg3
  z3 := Try.sizeOf3
  v3 := Try.zeroValue3
  t4 := Try.underlying4
  a4 := Try.isAgg4
  z4 := Try.sizeOf4
  v4 := Try.zeroValue4
  t5 := Try.underlying5
  a5 := Try.isAgg5
  z5 := Try.sizeOf5
  v5 := Try.zeroValue5
  t9 := Try.underlying9
  a9 := Try.isAgg9
  z9 := Try.sizeOf9
  v9 := Try.zeroValue9
  t22 := Try.underlying51
  a22 := Try.isAgg51
  z22 := Try.sizeOf51
  v22 := Try.zeroValue51
  t25 := Try.underlying143
  a25 := Try.isAgg143
  z25 := Try.sizeOf143
  v25 := Try.zeroValue143
  t39 := Try.underlying167
  a39 := Try.isAgg167
  z39 := Try.sizeOf167
  v39 := Try.zeroValue167
  t45 := Try.underlying200
  a45 := Try.isAgg200
  z45 := Try.sizeOf200
  v45 := Try.zeroValue200
  t46 := Try.underlying201
  a46 := Try.isAgg201
  z46 := Try.sizeOf201
  v46 := Try.zeroValue201
  t50 := Try.underlying35
  a50 := Try.isAgg35
  z50 := Try.sizeOf35
  v50 := Try.zeroValue35
  t53 := Try.underlying113
  a53 := Try.isAgg113
  z53 := Try.sizeOf113
  v53 := Try.zeroValue113
  t55 := Try.underlying125
  a55 := Try.isAgg125
  z55 := Try.sizeOf125
  v55 := Try.zeroValue125
  t66 := Try.underlying226
  a66 := Try.isAgg226
  z66 := Try.sizeOf226
  v66 := Try.zeroValue226
  t70 := Try.underlying230
  a70 := Try.isAgg230
  z70 := Try.sizeOf230
  v70 := Try.zeroValue230
  t76 := Try.underlying236
  a76 := Try.isAgg236
  z76 := Try.sizeOf236
  v76 := Try.zeroValue236
  t77 := Try.underlying237
  a77 := Try.isAgg237
  z77 := Try.sizeOf237
  v77 := Try.zeroValue237 }
end Go.Proofs.Ythhfjiikmaghdaa

namespace Go.Proofs.Ythhfjiikmaghdaa
set_option linter.unusedVariables false
set_option linter.unusedSimpArgs false
open Go.RowKit Go.Sort Go.Lib

/-- numbers -/
def layNat : Lay Nat := ⟨fun i => [.int .i64 i], 1, fun _ => rfl, fun x v hv => by simp at hv; subst hv; rfl, by omega⟩
abbrev Ix (n : Nat) := {i : Nat // i < n}
def layIx (n : Nat) : Lay (Ix n) := ⟨fun i => [.int .i64 (i.1 : Int)], 1, fun _ => rfl, fun x v hv => by simp at hv; subst hv; rfl, by omega⟩
def encIx (n : Nat) (i : Ix n) : Value := .int .i64 (i.1 : Int)
theorem encIx_one (n : Nat) : OneCell (encIx n) := fun _ => rfl
theorem flatE_ix {n : Nat} (o : List (Ix n)) : flatE (layIx n) o = flatE layNat (o.map (·.1)) := by
  induction o with
  | nil => rfl
  | cons i o ih => unfold flatE at *; rw [List.map_cons, List.flatMap_cons, List.flatMap_cons, ih]; rfl
theorem OwnE.ix {n : Nat} {e : TypeId} {w : World} {B : Nat} {v : Value} {o : List (Ix n)} : OwnE (layIx n) e w B v o ↔ OwnE layNat e w B v (o.map (·.1)) := by
  unfold OwnE
  rw [flatE_ix, List.length_map]
  rfl
theorem ix_of {n : Nat} : ∀ {o : List Nat}, (∀ k ∈ o, k < n) → ∃ o' : List (Ix n), o = o'.map (·.1)
  | [], _ => ⟨[], rfl⟩
  | k :: o, h => by
    obtain ⟨o', ho⟩ := ix_of (o := o) (fun j hj => h j (List.mem_cons_of_mem _ hj))
    exact ⟨⟨k, h k (List.mem_cons_self ..)⟩ :: o', by rw [List.map_cons, ← ho]⟩
theorem info_int' : (Try.prog.info? 3).map (fun i => (i.zero, i.size, i.bytes)) = some (some (.int .i64 0), 1, 8) := by kernel_rfl
theorem tyNat : TyE layNat 51 3 8 := ⟨Try.underlying51, by obtain ⟨i0, hi, hz0, hz1, hz2⟩ := info_parts info_int'; exact ⟨i0, .int .i64 0, hi, hz0, hz1, hz2, rfl⟩⟩
theorem info_pair : (Try.prog.info? 96).map (fun i => (i.zero, i.size, i.bytes)) = some (some (.agg #[.int .i64 0, .int .i64 0]), 2, 16) := by kernel_rfl
theorem tyPair : TyE layPair 92 96 16 := ⟨Try.underlying92, by obtain ⟨i0, hi, hz0, hz1, hz2⟩ := info_parts info_pair; exact ⟨i0, .agg #[.int .i64 0, .int .i64 0], hi, hz0, hz1, hz2, rfl⟩⟩
theorem OwnE.take {α : Type} {L : Lay α} {e : TypeId} {w : World} {B g n cap : Nat} {l : List α} (h : OwnE L e w B (.slice (some ⟨g, 0, none⟩) n cap) l) {m : Nat} (hm : m ≤ l.length) : OwnE L e w B (.slice (some ⟨g, 0, none⟩) m cap) (l.take m) := by
  obtain ⟨h1, ⟨h2, -⟩ | ⟨g', cap', cur, hv, hb, hg, hn, hmx, hsz, ht⟩⟩ := h
  · cases h2
  · cases hv
    have e1 : (l.take m).length = m := by rw [List.length_take]; omega
    refine ⟨flatE_len _, .inr ⟨g, cap, cur, by rw [e1], hb, hg, by rw [e1]; omega, hmx, hsz, ?_⟩⟩
    have e2 : flatE L l = flatE L (l.take m) ++ flatE L (l.drop m) := by rw [← flatE_append, List.take_append_drop]
    have e3 : m * L.k ≤ l.length * L.k := Nat.mul_le_mul_right _ hm
    have e4 : cur.toList.take (m * L.k) = (cur.toList.take (l.length * L.k)).take (m * L.k) := by rw [List.take_take, Nat.min_eq_left e3]
    rw [e1, e4, ht, e2, List.take_left' (by rw [flatE_len, e1])]
theorem permIn_list {α : Type} [Inhabited α] {d d' : Array α} (h : PermIn 0 d.size d d') : d'.toList.Perm d.toList ∧ d'.size = d.size := by
  obtain ⟨h1, -, h3⟩ := h
  refine ⟨?_, h1⟩
  have e1 : d.extract 0 d.size = d := by simp
  have e2 : d'.extract 0 d.size = d' := by rw [← h1]; simp
  rwa [e1, e2] at h3
theorem sortedIn_list {α : Type} [Inhabited α] {lt : α → α → Bool} {d : Array α} (h : SortedIn lt 0 d.size d) : d.toList.Pairwise fun a b => lt b a = false := by
  rw [List.pairwise_iff_getElem]
  intro i j hi hj hij
  have := h i j (Nat.zero_le _) hij (by simpa using hj)
  rw [getElem!_pos d j (by simpa using hj), getElem!_pos d i (by simpa using hi)] at this
  simpa using this
theorem compareInt_lt {x y : Int} : Lib.compareInt x y < 0 ↔ x < y := by unfold Lib.compareInt; (repeat' split) <;> omega
theorem cf_p1 (args : Array Value) (w : World) : (callFunc 143 args).run Try.prog w = .ok (.enter 143 args) w := by kernel_rfl
theorem cf_p2 (args : Array Value) (w : World) : (callFunc 146 args).run Try.prog w = .ok (.enter 146 args) w := by kernel_rfl
theorem cf_p3 (args : Array Value) (w : World) : (callFunc 147 args).run Try.prog w = .ok (.enter 147 args) w := by kernel_rfl
/-- an own slice lies not in a block before it -/
theorem OwnE.ne {α : Type} {L : Lay α} {e : TypeId} {w : World} {B : Nat} {v : Value} {l : List α} (h : OwnE L e w B v l) {g : Nat} (hg : g < B) : some g ≠ v.ownBlock := fun q => by
  have := (h.lt q.symm).1
  omega

set_option maxHeartbeats 1000000 in
/-- the boxes' numbers sorted by their low X -/
theorem sortOrd_calls (l : List Bx) (o : List Nat) (ho : ∀ k ∈ o, k < l.length) (gb c B : Nat) (s : Value) (w : World) (hx : o ≠ [] → ∃ b off, w.cell? ⟨gb, 0, none⟩ = some (.slice (some ⟨b, off, none⟩) l.length c) ∧ b < B ∧ CellsE layBox w b off l) (hgb : gb < B) (hs : OwnE layNat 3 w B s o) (hl : o.length ≤ 1000000) :
    Calls Try.prog 142 #[s, .func (.func 143) #[] #[.pointer (some ⟨gb, 0, none⟩)]] w fun e w' => e = .returned (.tuple #[]) ∧ (∃ o', o'.Perm o ∧ o'.Pairwise (fun a b => (bxAt l a).1.1 ≤ (bxAt l b).1.1) ∧ OwnE layNat 3 w' B s o') ∧ w.grownBy w' s.ownBlock := by
  obtain ⟨o', rfl⟩ := ix_of ho
  rcases hs.form with ⟨rfl, h0⟩ | ⟨g, cap, rfl, hB, hg, hn, hm, hf, hcl⟩
  · refine (AnyF.slices_SortFunc_none laySortInt0 none 0 _ w).mono ?_
    rintro e w' ⟨rfl, rfl⟩
    rw [h0] at hs ⊢
    exact ⟨rfl, ⟨[], List.Perm.refl _, List.Pairwise.nil, hs⟩, ⟨rfl, rfl, rfl, Nat.le_refl _, fun _ _ _ => rfl⟩⟩
  · have hne : o'.map (·.1) ≠ [] ∨ o' = [] := by cases o' <;> simp
    rcases hne with hne | rfl
    · obtain ⟨b, off, hbox, hb, hC⟩ := hx hne
      obtain ⟨i0, hi0⟩ : ∃ i : Ix l.length, i ∈ o' := by
        cases o' with
        | nil => exact absurd rfl hne
        | cons i o' => exact ⟨i, List.mem_cons_self ..⟩
      haveI : Inhabited (Ix l.length) := ⟨i0⟩
      have hs2 := OwnE.ix.2 hs
      have hH := hs2.holds
      have hcmp : CmpLays1 Try.prog 143 #[.pointer (some ⟨gb, 0, none⟩)] (encIx l.length) (fun x y => Lib.compareInt (bxAt l x.1).1.1 (bxAt l y.1).1.1) g 0 o'.toArray.size w := by
        intro m os dk hdk x y
        have other : ∀ a : Addr, a.block < B → (sortWorld (encIx l.length) w g 0 m dk os).cell? a = w.cell? a := fun a ha => by rw [sortWorld_one]; exact cell?_sortWorldK_other _ _ _ _ _ _ _ _ _ (by omega) (by omega)
        have hsz : w.heap.size ≤ (sortWorld (encIx l.length) w g 0 m dk os).heap.size := by
          rw [sortWorld_one]
          exact (grownBy_sortedK (L := layIx l.length) dk).size
        refine (pairs1_calls l x.1 y.1 gb b off l.length c x.2 y.2 _ (by rw [other _ hgb]; exact hbox) ⟨Nat.lt_of_lt_of_le hC.lt hsz, fun j hj i v hv => by rw [other _ hb]; exact hC.at_ j hj i v hv⟩).mono ?_
        rintro e w' ⟨rfl, rfl⟩
        exact ⟨rfl, 1, #[], by rw [grow_empty]; rfl⟩
      have hO : SWO (ltOf fun x y : Ix l.length => Lib.compareInt (bxAt l x.1).1.1 (bxAt l y.1).1.1) := by
        have e : ∀ x y : Ix l.length, ltOf (fun x y : Ix l.length => Lib.compareInt (bxAt l x.1).1.1 (bxAt l y.1).1.1) x y = decide ((bxAt l x.1).1.1 < (bxAt l y.1).1.1) := fun x y => by
          unfold ltOf
          rw [decide_eq_decide, compareInt_lt]
        refine ⟨fun x => ?_, fun x y z h1 h2 => ?_, fun x y z h1 h2 => ?_⟩
        · rw [e]; simp
        · rw [e] at *; simp at *; omega
        · rw [e] at *; simp at *; omega
      have hlen : (o'.map (·.1)).length = o'.toArray.size := by simp
      have hsz2 : o'.toArray.size ≤ 1000000 := by rw [← hlen]; exact hl
      have hcon := Any.slices_SortFunc laySortInt (encIx l.length) (encIx_one _) (fun x y => Lib.compareInt (bxAt l x.1).1.1 (bxAt l y.1).1.1) hO 143 #[.pointer (some ⟨gb, 0, none⟩)] g 0 cap o'.toArray w cf_p1 hcmp (holds_one hH) hg (by omega)
      rw [hlen]
      refine Calls.mono hcon ?_
      rintro e w' ⟨rfl, d', m, os, hp, hsd, rfl⟩
      obtain ⟨p1, p2⟩ := permIn_list hp
      rw [sortWorld_one]
      have hso : SortedIn (ltOf fun x y : Ix l.length => Lib.compareInt (bxAt l x.1).1.1 (bxAt l y.1).1.1) 0 d'.size d' := by rw [p2]; exact hsd
      have hpw := sortedIn_list hso
      rw [hlen] at hs2
      refine ⟨rfl, ⟨d'.toList.map (·.1), p1.map _, ?_, ?_⟩, grownBy_sortedK (L := layIx l.length) d'⟩
      · rw [List.pairwise_map]
        refine hpw.imp fun {x y} h => ?_
        unfold ltOf at h
        rw [decide_eq_false_iff_not, compareInt_lt] at h
        omega
      · exact OwnE.ix.1 (hs2.sorted d' (by rw [p2]; simp))
    · refine Calls.mono (AnyF.slices_SortFunc_none laySortInt0 (some ⟨g, 0, none⟩) cap _ w) ?_
      rintro e w' ⟨rfl, rfl⟩
      exact ⟨rfl, ⟨[], List.Perm.refl _, List.Pairwise.nil, hs⟩, ⟨rfl, rfl, rfl, Nat.le_refl _, fun _ _ _ => rfl⟩⟩

set_option maxHeartbeats 1000000 in
/-- pairs sorted by their first numbers, then by their second ones -/
theorem sortPairs_calls (o : List (Nat × Nat)) (B : Nat) (s : Value) (w : World) (hs : OwnE layPair 96 w B s o) (hl : o.length ≤ 1000000) :
    Calls Try.prog 67 #[s, .func (.func 147) #[] #[]] w fun e w' => e = .returned (.tuple #[]) ∧ (∃ o' : List (Nat × Nat), o'.Perm o ∧ o'.Pairwise (fun p q => ¬ cmpPair q p < 0) ∧ OwnE layPair 96 w' B s o') ∧ w.grownBy w' s.ownBlock := by
  rcases hs.form with ⟨rfl, h0⟩ | ⟨g, cap, rfl, hB, hg, hn, hm, hf, hcl⟩
  · refine (AnyF.slices_SortFunc_none laySortPair none 0 _ w).mono ?_
    rintro e w' ⟨rfl, rfl⟩
    rw [h0] at hs ⊢
    exact ⟨rfl, ⟨[], List.Perm.refl _, List.Pairwise.nil, hs⟩, ⟨rfl, rfl, rfl, Nat.le_refl _, fun _ _ _ => rfl⟩⟩
  · have hH := hs.holds
    have hcmp : CmpLays Try.prog 147 #[] layPair.enc 2 cmpPair g 0 o.toArray.size w := fun m os dk hdk x y => pairs3_calls x y _
    have hO : SWO (ltOf cmpPair) := by
      have e : ∀ x y, ltOf cmpPair x y = decide (ltP x y) := fun x y => by
        unfold ltOf
        rw [decide_eq_decide, cmpPair_lt]
      refine ⟨fun x => ?_, fun x y z h1 h2 => ?_, fun x y z h1 h2 => ?_⟩
      · rw [e]; exact decide_eq_false ltP_irrefl
      · rw [e] at *; exact decide_eq_true (ltP_trans (of_decide_eq_true h1) (of_decide_eq_true h2))
      · rw [e] at *
        have a := of_decide_eq_false h1
        have b := of_decide_eq_false h2
        refine decide_eq_false ?_
        unfold ltP at *
        omega
    have hlen : o.length = o.toArray.size := by simp
    have hsz2 : o.toArray.size ≤ 1000000 := by rw [← hlen]; exact hl
    have hcon := AnyQ.slices_SortFunc laySortPair 2 Try.isAgg96 Try.sizeOf96 layPair.enc layPair.hk layPair.one cmpPair hO 147 #[] g 0 cap o.toArray w cf_p3 hcmp hH hg (by omega)
    rw [hlen]
    refine Calls.mono hcon ?_
    rintro e w' ⟨rfl, d', m, os, hp, hsd, rfl⟩
    obtain ⟨p1, p2⟩ := permIn_list hp
    have hso : SortedIn (ltOf cmpPair) 0 d'.size d' := by rw [p2]; exact hsd
    have hpw := sortedIn_list hso
    rw [hlen] at hs
    refine ⟨rfl, ⟨d'.toList, p1, ?_, hs.sorted d' (by rw [p2]; simp)⟩, grownBy_sortedK (L := layPair) d'⟩
    refine hpw.imp fun {x y} h => ?_
    unfold ltOf at h
    rwa [decide_eq_false_iff_not] at h

set_option maxRecDepth 100000 in
set_option maxHeartbeats 2000000 in
theorem del_nil (s : Option Addr) (n c : Nat) (hn : n = 0) (fv : Value) (w : World) : Calls Try.prog 145 #[.slice s n c, fv] w fun e w' => e = .returned (.slice s n c) ∧ w' = w := by
  subst hn
  go_enter Try.func145, Try.ntmps145
  go_wp2
  go_loopw [8] (fun j wr => j = .int .i64 0 ∧ wr = w) (fun _ _ => 0)
  case atStart => exact ⟨rfl, rfl⟩
  case round =>
    obtain ⟨rfl, rfl⟩ := hrel
    go_wp2
    go_returns
    exact ⟨rfl, rfl⟩

set_option maxHeartbeats 1000000 in
/-- the boxes that end before box i begins are taken away -/
theorem delOpen_calls (l : List Bx) (op : List Nat) (i : Nat) (hop : ∀ k ∈ op, k < l.length) (hi : i < l.length) (gb gi b off c B : Nat) (s : Value) (w : World) (hbox : w.cell? ⟨gb, 0, none⟩ = some (.slice (some ⟨b, off, none⟩) l.length c)) (hgi : w.cell? ⟨gi, 0, none⟩ = some (.int .i64 i)) (hne : ∀ k, s.ownBlock = some k → k ≠ gi)
    (hc : CellsE layBox w b off l) (hgb : gb < B) (hb : b < B) (hs : OwnE layNat 3 w B s op) (hl : op.length ≤ 1000000) :
    Calls Try.prog 145 #[s, .func (.func 146) #[] #[.pointer (some ⟨gb, 0, none⟩), .pointer (some ⟨gi, 0, none⟩)]] w fun e w' => (∃ s', e = .returned s' ∧ s'.ownBlock = s.ownBlock ∧ OwnE layNat 3 w' B s' (opnK l op i)) ∧ w.grownBy w' s.ownBlock := by
  obtain ⟨o', rfl⟩ := ix_of hop
  rcases hs.form with ⟨rfl, h0⟩ | ⟨g, cap, rfl, hB, hg, hn, hm, hf, hcl⟩
  · refine (del_nil none 0 0 rfl _ w).mono ?_
    rintro e w' ⟨rfl, rfl⟩
    rw [h0] at hs ⊢
    exact ⟨⟨_, rfl, rfl, hs⟩, ⟨rfl, rfl, rfl, Nat.le_refl _, fun _ _ _ => rfl⟩⟩
  · haveI : Inhabited (Ix l.length) := ⟨⟨i, hi⟩⟩
    have hs2 := OwnE.ix.2 hs
    have hH := hs2.holds
    have hgg : g ≠ gi := hne g rfl
    have hgil := lt_of_cell hgi
    have read : ∀ (W : World), (∀ a : Addr, a.block < w.heap.size → a.block ≠ g → W.cell? a = w.cell? a) → w.heap.size ≤ W.heap.size → ∀ x : Ix l.length, FnGives Try.prog 146 #[.pointer (some ⟨gb, 0, none⟩), .pointer (some ⟨gi, 0, none⟩)] #[encIx l.length x] (.bool (decide ((bxAt l x.1).2.1 < (bxAt l i).1.1))) W := fun W hW hsz x => by
      refine Calls.mono (pairs2_calls l x.1 i gb gi b off c x.2 hi W (by rw [hW _ (by show gb < _; omega) (by show gb ≠ _; omega)]; exact hbox) (by rw [hW _ hgil (fun e => hgg e.symm)]; exact hgi) ⟨Nat.lt_of_lt_of_le hc.lt hsz, fun j hj i v hv => by rw [hW _ (by show b < _; omega) (by show b ≠ _; omega)]; exact hc.at_ j hj i v hv⟩) ?_
      rintro e w' ⟨rfl, rfl⟩
      exact ⟨rfl, 1, rfl⟩
    have hp : PredAt Try.prog 146 #[.pointer (some ⟨gb, 0, none⟩), .pointer (some ⟨gi, 0, none⟩)] (encIx l.length) (fun x => decide ((bxAt l x.1).2.1 < (bxAt l i).1.1)) w := fun W x hW => read W (fun a ha _ => hW.cell ha) hW.size x
    have hpo : PredOver Try.prog 146 #[.pointer (some ⟨gb, 0, none⟩), .pointer (some ⟨gi, 0, none⟩)] (encIx l.length) (fun x => decide ((bxAt l x.1).2.1 < (bxAt l i).1.1)) g 0 o'.toArray.size w := by
      intro m os dk x hdk
      refine read _ (fun a ha hne => by rw [sortWorld_one]; exact cell?_sortWorldK_other _ _ _ _ _ _ _ _ _ hne ha) ?_ x
      rw [sortWorld_one]
      exact (grownBy_sortedK (L := layIx l.length) dk).size
    have hlen : (o'.map (·.1)).length = o'.toArray.size := by simp
    have hsz2 : o'.toArray.size ≤ 1000000 := by rw [← hlen]; exact hl
    rw [hlen] at hn
    have hcon := AnyE.slices_DeleteFunc layDelInt (encIx l.length) (encIx_one _) (fun x => decide ((bxAt l x.1).2.1 < (bxAt l i).1.1)) 146 #[.pointer (some ⟨gb, 0, none⟩), .pointer (some ⟨gi, 0, none⟩)] cf_p2 (⟨0, by omega⟩ : Ix l.length) (fun w => Try.zeroValue3 w) g 0 cap o'.toArray w hp hpo (holds_one hH) (by omega) hn
    rw [hlen]
    refine Calls.mono hcon ?_
    rintro e w' ⟨rfl, q, rfl⟩
    obtain ⟨F, hF⟩ : ∃ F, F = o'.filter fun x => !decide ((bxAt l x.1).2.1 < (bxAt l i).1.1) := ⟨_, rfl⟩
    have eF : o'.toArray.toList.filter (fun x => !decide ((bxAt l x.1).2.1 < (bxAt l i).1.1)) = F := hF.symm
    rw [eF]
    have hFl : F.length ≤ o'.length := by rw [hF]; exact List.length_filter_le _ _
    obtain ⟨D, hD⟩ : ∃ D : Array (Ix l.length), D = (F ++ List.replicate (o'.toArray.size - F.length) (⟨0, by omega⟩ : Ix l.length)).toArray := ⟨_, rfl⟩
    rw [← hD]
    have hDs : D.size = o'.length := by rw [hD]; simp; omega
    have eW : putRow (encIx l.length) (Sort.ahead w q) g 0 D = sortWorldK (layIx l.length).enc (layIx l.length).k w g 0 q D #[] := by
      have := sortWorld_one (encIx l.length) w g 0 q D #[]
      unfold sortWorld at this
      rw [grow_empty] at this
      exact this
    rw [eW]
    rw [hlen] at hs2
    have h5 := (hs2.sorted (m := q) (os := #[]) D hDs).take (m := F.length) (by rw [hD]; simp)
    have eT : D.toList.take F.length = F := by rw [hD]; simp
    rw [eT] at h5
    have eO : opnK l (o'.map (·.1)) i = F.map (·.1) := by rw [hF]; unfold opnK; rw [List.filter_map]; rfl
    rw [eO]
    exact ⟨⟨_, rfl, rfl, OwnE.ix.1 h5⟩, grownBy_sortedK (L := layIx l.length) D⟩

end Go.Proofs.Ythhfjiikmaghdaa
