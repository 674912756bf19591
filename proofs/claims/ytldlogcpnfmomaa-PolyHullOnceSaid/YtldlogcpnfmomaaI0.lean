/- Contracts: the order of points, a sort by it, slices.Clone of vectors as an own slice. -/
import Derived.Test.YtldlogcpnfmomaaW2
import Derived.Test.YtldlogcpnfmomaaV0
import Derived.Test.YtldlogcpnfmomaaM29
namespace Go.Proofs.Ytldlogcpnfmomaa
set_option linter.unusedVariables false
set_option linter.unusedSimpArgs false
open Go.Shelf
def laySortVec_ren : Go.Shelf.Ren := ⟨fun | 6 => 120 | 15 => 176 | 14 => 175 | 28 => 209 | 29 => 210 | 20 => 201 | 21 => 202 | 22 => 203 | 23 => 204 | 24 => 205 | 25 => 206 | 26 => 207 | 27 => 208 | 46 => 219 | 47 => 220 | 48 => 221 | 49 => 222 | 50 => 223 | 57 => 225 | n => n, fun | 22 => 23 | 24 => 25 | 25 => 144 | 3 => 3 | 39 => 177 | 0 => 0 | 53 => 114 | 55 => 180 | 4 => 4 | 46 => 195 | 45 => 194 | 50 => 35 | 5 => 5 | 9 => 9 | 66 => 206 | 70 => 210 | 76 => 214 | 77 => 215 | n => n, fun | n => n⟩
theorem laySortVec : Go.Proofs.SlLaysF0.n6 Try.prog laySortVec_ren := {
  mixed := by kernel_rfl
  f6 := ⟨Try.f120.name, by decide, Try.func120.trans (congrArg some (by kernel_rfl))⟩
  f14 := ⟨Try.f175.name, by decide, Try.func175.trans (congrArg some (by kernel_rfl))⟩
  f15 := Try.func176.trans (congrArg some (by kernel_rfl))
  f20 := ⟨Try.f201.name, by decide, Try.func201.trans (congrArg some (by kernel_rfl))⟩
  f21 := ⟨Try.f202.name, by decide, Try.func202.trans (congrArg some (by kernel_rfl))⟩
  f22 := ⟨Try.f203.name, by decide, Try.func203.trans (congrArg some (by kernel_rfl))⟩
  f23 := ⟨Try.f204.name, by decide, Try.func204.trans (congrArg some (by kernel_rfl))⟩
  f24 := ⟨Try.f205.name, by decide, Try.func205.trans (congrArg some (by kernel_rfl))⟩
  f25 := ⟨Try.f206.name, by decide, Try.func206.trans (congrArg some (by kernel_rfl))⟩
  f26 := ⟨Try.f207.name, by decide, Try.func207.trans (congrArg some (by kernel_rfl))⟩
  f27 := ⟨Try.f208.name, by decide, Try.func208.trans (congrArg some (by kernel_rfl))⟩
  f28 := Try.func209.trans (congrArg some (by kernel_rfl))
  f29 := Try.func210.trans (congrArg some (by kernel_rfl))
  f46 := ⟨Try.f219.name, by decide, Try.func219.trans (congrArg some (by kernel_rfl))⟩
  f47 := Try.func220.trans (congrArg some (by kernel_rfl))
  f48 := Try.func221.trans (congrArg some (by kernel_rfl))
  f49 := ⟨Try.f222.name, by decide, Try.func222.trans (congrArg some (by kernel_rfl))⟩
  f50 := ⟨Try.f223.name, by decide, Try.func223.trans (congrArg some (by kernel_rfl))⟩
  f57 := ⟨Try.f225.name, by decide, Try.func225.trans (congrArg some (by kernel_rfl))⟩
  t0 := Try.underlying0
  a0 := Try.isAgg0
  z0 := Try.sizeOf0
  v0 := Try.zeroValue0
  t3 := Try.underlying3
  a3 := Try.isAgg3
  z3 := Try.sizeOf3
  v3 := Try.zeroValue3
  t4 := Try.underlying4
  a4 := Try.isAgg4
  z4 := Try.sizeOf4
  v4 := Try.zeroValue4
  t5 := Try.underlying5
  a5 := Try.isAgg5
  z5 := Try.sizeOf5
  v5 := Try.zeroValue5
  t9 := Try.underlying9
  a9 := Try.isAgg9
  z9 := Try.sizeOf9
  v9 := Try.zeroValue9
  t22 := Try.underlying23
  a22 := Try.isAgg23
  z22 := Try.sizeOf23
  v22 := Try.zeroValue23
  t25 := Try.underlying144
  a25 := Try.isAgg144
  z25 := Try.sizeOf144
  v25 := Try.zeroValue144
  t39 := Try.underlying177
  a39 := Try.isAgg177
  z39 := Try.sizeOf177
  v39 := Try.zeroValue177
  t45 := Try.underlying194
  a45 := Try.isAgg194
  z45 := Try.sizeOf194
  v45 := Try.zeroValue194
  t46 := Try.underlying195
  a46 := Try.isAgg195
  z46 := Try.sizeOf195
  v46 := Try.zeroValue195
  t50 := Try.underlying35
  a50 := Try.isAgg35
  z50 := Try.sizeOf35
  v50 := Try.zeroValue35
  t53 := Try.underlying114
  a53 := Try.isAgg114
  z53 := Try.sizeOf114
  v53 := Try.zeroValue114
  t55 := Try.underlying180
  a55 := Try.isAgg180
  z55 := Try.sizeOf180
  v55 := Try.zeroValue180
  t66 := Try.underlying206
  a66 := Try.isAgg206
  z66 := Try.sizeOf206
  v66 := Try.zeroValue206
  t70 := Try.underlying210
  a70 := Try.isAgg210
  z70 := Try.sizeOf210
  v70 := Try.zeroValue210
  t76 := Try.underlying214
  a76 := Try.isAgg214
  z76 := Try.sizeOf214
  v76 := Try.zeroValue214
  t77 := Try.underlying215
  a77 := Try.isAgg215
  z77 := Try.sizeOf215
  v77 := Try.zeroValue215 }
end Go.Proofs.Ytldlogcpnfmomaa

namespace Go.Proofs.Ytldlogcpnfmomaa
set_option linter.unusedVariables false
set_option linter.unusedSimpArgs false
open Go.RowKit Go.Sort Go.Lib

def layV : Lay V := ⟨fun p => [.int .i64 p.1, .int .i64 p.2], 2, fun _ => rfl, fun x v hv => by simp at hv; rcases hv with rfl | rfl <;> rfl, by omega⟩
theorem own_lay {w : World} {B : Nat} {v : Value} {l : List V} : Own w B v l ↔ OwnE layV 25 w B v l := Iff.rfl
/-- points within the bounds -/
abbrev Pv := {p : V // withinB 65536000 p.1 p.2 = true}
instance : Inhabited Pv := ⟨⟨(0, 0), rfl⟩⟩
def layP : Lay Pv := ⟨fun p => [.int .i64 p.1.1, .int .i64 p.1.2], 2, fun _ => rfl, fun x v hv => by simp at hv; rcases hv with rfl | rfl <;> rfl, by omega⟩
theorem flatE_pv (o : List Pv) : flatE layP o = flatE layV (o.map (·.1)) := by
  induction o with
  | nil => rfl
  | cons i o ih => unfold flatE at *; rw [List.map_cons, List.flatMap_cons, List.flatMap_cons, ih]; rfl
theorem OwnE.pv {e : TypeId} {w : World} {B : Nat} {v : Value} {o : List Pv} : OwnE layP e w B v o ↔ OwnE layV e w B v (o.map (·.1)) := by
  unfold OwnE
  rw [flatE_pv, List.length_map]
  rfl
theorem pv_of : ∀ {o : List V}, (∀ k ∈ o, withinB 65536000 k.1 k.2 = true) → ∃ o' : List Pv, o = o'.map (·.1)
  | [], _ => ⟨[], rfl⟩
  | k :: o, h => by
    obtain ⟨o', ho⟩ := pv_of (o := o) (fun j hj => h j (List.mem_cons_of_mem _ hj))
    exact ⟨⟨k, h k (List.mem_cons_self ..)⟩ :: o', by rw [List.map_cons, ← ho]⟩
def befZ (p q : V) : Int := if p.2 = q.2 then p.1 - q.1 else p.2 - q.2
theorem bef_lt (p q : V) : befZ p q < 0 ↔ lowV p q := by unfold befZ lowV; split <;> omega

set_option maxRecDepth 100000 in
set_option maxHeartbeats 1000000 in
theorem before_calls (p q : Pv) (w : World) : Calls Try.prog 121 #[.agg #[.int .i64 p.1.1, .int .i64 p.1.2], .agg #[.int .i64 q.1.1, .int .i64 q.1.2]] w fun e w' => e = .returned (.int .i64 (befZ p.1 q.1)) ∧ ∃ k os, w' = grow (w.drewN k) os := by
  obtain ⟨⟨a, b⟩, h1⟩ := p
  obtain ⟨⟨c, d⟩, h2⟩ := q
  rw [withinB_iff] at h1 h2
  dsimp only at h1 h2
  have HZ : Hid (befZ (a, b) (c, d) = if b = d then a - c else b - d) := rfl
  show Calls Try.prog 121 #[.agg #[.int .i64 a, .int .i64 b], .agg #[.int .i64 c, .int .i64 d]] w fun e w' => e = .returned (.int .i64 (befZ (a, b) (c, d))) ∧ ∃ k os, w' = grow (w.drewN k) os
  generalize befZ (a, b) (c, d) = Z at *
  have w1 : IntKind.i64.wrap (a - c) = a - c := IntWalk.i64_in _ (by omega)
  have w2 : IntKind.i64.wrap (b - d) = b - d := IntWalk.i64_in _ (by omega)
  by_cases e : b = d
  · have HE : Hid (Z = a - c) := by rw [HZ.out, if_pos e]; exact rfl
    subst e
    clear HZ
    go_enter Try.func121, Try.ntmps121
    go_wp2
    go_returns
    refine ⟨by rw [HE.out]; rfl, 0, _, by rw [alloc_eq_grow, alloc_eq_grow]; show grow (grow w _) _ = _; rw [grow_grow]; rfl⟩
  · have HE : Hid (Z = b - d) := by rw [HZ.out, if_neg e]; exact rfl
    have hbd : ((b != d) = true) := by simp [e]
    clear HZ
    go_enter Try.func121, Try.ntmps121
    go_wp2
    go_returns
    refine ⟨by rw [HE.out]; rfl, 0, _, by rw [alloc_eq_grow, alloc_eq_grow]; show grow (grow w _) _ = _; rw [grow_grow]; rfl⟩

theorem cf_before (args : Array Value) (w : World) : (callFunc 121 args).run Try.prog w = .ok (.enter 121 args) w := by kernel_rfl
set_option maxHeartbeats 1000000 in
/-- points sorted by their order -/
theorem sortV_calls (o : List V) (hw : ∀ k ∈ o, withinB 65536000 k.1 k.2 = true) (B : Nat) (s : Value) (w : World) (hs : Own w B s o) (hl : o.length ≤ 1000000) :
    Calls Try.prog 120 #[s, .func (.func 121) #[] #[]] w fun e w' => e = .returned (.tuple #[]) ∧ (∃ o' : List V, o'.Perm o ∧ o'.Pairwise (fun p q => ¬ lowV q p) ∧ Own w' B s o') ∧ w.grownBy w' s.ownBlock := by
  rw [own_lay] at hs
  rcases hs.form with ⟨rfl, h0⟩ | ⟨g, cap, rfl, hB, hg, hn, hm, hf, hcl⟩
  · refine (AnyF.slices_SortFunc_none laySortVec none 0 _ w).mono ?_
    rintro e w' ⟨rfl, rfl⟩
    rw [h0] at hs ⊢
    exact ⟨rfl, ⟨[], List.Perm.refl _, List.Pairwise.nil, own_lay.2 hs⟩, ⟨rfl, rfl, rfl, Nat.le_refl _, fun _ _ _ => rfl⟩⟩
  · obtain ⟨o', rfl⟩ := pv_of hw
    have hs2 := OwnE.pv.2 hs
    have hH := hs2.holds
    have hcmp : CmpLays Try.prog 121 #[] layP.enc 2 (fun x y : Pv => befZ x.1 y.1) g 0 o'.toArray.size w := fun m os dk hdk x y => before_calls x y _
    have hO : SWO (ltOf fun x y : Pv => befZ x.1 y.1) := by
      have e : ∀ x y : Pv, ltOf (fun x y : Pv => befZ x.1 y.1) x y = decide (lowV x.1 y.1) := fun x y => by
        unfold ltOf
        rw [decide_eq_decide, bef_lt]
      refine ⟨fun x => ?_, fun x y z h1 h2 => ?_, fun x y z h1 h2 => ?_⟩
      · rw [e]; exact decide_eq_false (lowV_irr _)
      · rw [e] at *; exact decide_eq_true (lowV_tr (of_decide_eq_true h1) (of_decide_eq_true h2))
      · rw [e] at *
        have a := of_decide_eq_false h1
        have b := of_decide_eq_false h2
        refine decide_eq_false ?_
        unfold lowV at *
        omega
    have hlen : (o'.map (·.1)).length = o'.toArray.size := by simp
    have hsz2 : o'.toArray.size ≤ 1000000 := by rw [← hlen]; exact hl
    have hcon := AnyQ.slices_SortFunc laySortVec 2 Try.isAgg25 Try.sizeOf25 layP.enc layP.hk layP.one (fun x y : Pv => befZ x.1 y.1) hO 121 #[] g 0 cap o'.toArray w cf_before hcmp hH hg (by omega)
    rw [hlen]
    refine Calls.mono hcon ?_
    rintro e w' ⟨rfl, d', m, os, hp, hsd, rfl⟩
    obtain ⟨p1, p2⟩ := permIn_list hp
    have hso : SortedIn (ltOf fun x y : Pv => befZ x.1 y.1) 0 d'.size d' := by rw [p2]; exact hsd
    have hpw := sortedIn_list hso
    rw [hlen] at hs2
    refine ⟨rfl, ⟨d'.toList.map (fun x : Pv => x.1), p1.map _, ?_, own_lay.2 (OwnE.pv.1 (hs2.sorted d' (by rw [p2]; simp)))⟩, grownBy_sortedK (L := layP) d'⟩
    rw [List.pairwise_map]
    refine hpw.imp fun {x y} h => ?_
    unfold ltOf at h
    rw [decide_eq_false_iff_not, bef_lt] at h
    exact h

theorem wpList_append_none' {w : World} {ops : Array Oper} {rest : List Oper} {o : Oper} {a : Act} {Q : Exit → Act → World → Prop} (hgd : o.guard = none) (s x : Operand)
    (ho : o.op = .call { callee := .builtin .append, args := #[s, x], argTypes := #[23, 23] })
    (B : Nat) (v : Value) (l : List V) (hs : a.eval s = v) (hown : Own w B v l) (ad : Addr) (c : Nat) (hx : a.eval x = .slice (some ad) 0 c)
    (hl : l.length ≤ 8796093022208) (hB : B ≤ w.heap.size)
    (h : ∀ v' w', Own w' B v' l → w.grownBy w' v.ownBlock → wpList Try.prog ops Q rest (a.put o.dst v') w') : wpList Try.prog ops Q (o :: rest) a w := by
  obtain ⟨i0, hi, hz0, hz1, hz2⟩ := info_parts info_vec
  refine wpList_append_own w hgd s x 23 ho B 25 i0 (.agg #[.int .i64 0, .int .i64 0]) 2 16 Try.underlying23 hi hz0 hz1 hz2 rfl (by decide) v l.length (flat l) hs hown ad 0 c [] hx (by simp) (fun j u hj => by simp at hj) (by simp) (by unfold maxLen; omega) (by omega) hB ?_
  intro v' w' h1 h2 _
  refine h v' w' ?_ h2
  unfold Own
  simpa using h1

/-- returns an own slice; nothing that was there has changed -/
def RetOwn (l : List V) (w : World) (e : Ending) (w' : World) : Prop := ∃ s, e = .returned s ∧ Own w' w.heap.size s l ∧ Below w.heap.size w w'
set_option maxRecDepth 100000 in
set_option maxHeartbeats 1000000 in
theorem cloneO_calls (A : Option Addr) (n c : Nat) (l : List V) (w : World) (hS : Sl w A n c l) (hl : l.length ≤ 8796093022208) : Calls Try.prog 101 #[.slice A n c] w (RetOwn l w) := by
  have hcmp : ∀ w' : World, (binOp .eql 23 (.slice A n c) (.slice none 0 0)).run Try.prog w' = .ok (.bool A.isNone) w' := fun w' => Lib.run_eql_slice_nil w' 23 _ A n c 0 0 Try.underlying23
  cases A with
  | none =>
    have hl0 : l = [] := by
      rcases l with _ | ⟨a, r⟩
      · rfl
      · obtain ⟨b, off, h, _⟩ := hS.at_ (by simp); cases h
    subst hl0
    have hn := hS.len
    simp at hn
    subst hn
    clear hS
    go_enter Try.func101, Try.ntmps101
    go_wp2
    go_returns
    exact ⟨_, rfl, Own.nil _ _, Below.refl _ _⟩
  | some ad =>
    have hn := hS.len
    have HS := hid hS
    clear hS
    have HO : Hid (Own (w.alloc (.cells #[] 25)) w.heap.size (.slice (some ⟨w.heap.size, 0, none⟩) 0 0) []) := Own.lit w w.heap.size [] (Nat.le_refl _) (by simp)
    by_cases hl0 : l = []
    · subst hl0
      simp at hn
      subst hn
      go_enter Try.func101, Try.ntmps101
      go_wp2_with (at_builtin; refine wpList_append_none' rfl _ _ rfl w.heap.size _ [] rfl HO.out ad _ rfl (by simp) (by simp) ?_; intro v' w1 ho1 hg1; have HO1 := hid ho1; have hb1 := Own.grown HO.out hg1 (by simp); clear ho1 hg1)
      obtain ⟨A', n', c', rfl, hs, hfr⟩ := HO1.out.sl
      go_returns
      exact ⟨_, rfl, HO1.out, (Below.trans (by go_grown) hb1)⟩
    · obtain ⟨b, off, hab, hC⟩ := HS.out.at_ hl0
      cases hab
      subst hn
      have HC := hid (hC.below ((Below.refl w.heap.size w).alloc (Nat.le_refl _) (.cells #[] 25)))
      clear hC
      go_enter Try.func101, Try.ntmps101
      go_wp2_with (at_builtin; refine wpList_append_vecs rfl _ _ rfl w.heap.size _ [] rfl HO.out b off _ _ l rfl rfl HC.out (by simp; omega) (by simp) ?_; intro v' w1 ho1 hg1; have HO1 := hid ho1; have hb1 := Own.grown HO.out hg1 (by simp); clear ho1 hg1)
      obtain ⟨A', n', c', rfl, hs, hfr⟩ := HO1.out.sl
      go_returns
      exact ⟨_, rfl, by simpa using HO1.out, (Below.trans (by go_grown) hb1)⟩

/-- an own slice, one vector of it written -/
theorem flat_set : ∀ (l : List V) (i : Nat) (x : V), i < l.length → flat (l.set i x) = ((flat l).set (i * 2) (.int .i64 x.1)).set (i * 2 + 1) (.int .i64 x.2)
  | [], i, x, h => by simp at h
  | a :: l, 0, x, _ => by simp [flat]
  | a :: l, i + 1, x, h => by
    have ih := flat_set l i x (by simpa using h)
    have e : (i + 1) * 2 = i * 2 + 1 + 1 := by omega
    rw [List.set_cons_succ, show flat (a :: l.set i x) = [.int .i64 a.1, .int .i64 a.2] ++ flat (l.set i x) from rfl, ih, show flat (a :: l) = [.int .i64 a.1, .int .i64 a.2] ++ flat l from rfl, e]
    simp [List.set_cons_succ, Nat.add_assoc]
theorem Own.put2 {w : World} {B g cap n : Nat} {l : List V} (h : Own w B (.slice (some ⟨g, 0, none⟩) n cap) l) {i : Nat} (x y : Int) (hi : i < l.length) : Own ((w.setCell ⟨g, i * 2, none⟩ (.int .i64 x)).setCell ⟨g, i * 2 + 1, none⟩ (.int .i64 y)) B (.slice (some ⟨g, 0, none⟩) n cap) (l.set i (x, y)) := by
  have hn : n = l.length := by
    obtain ⟨-, h2 | ⟨g', cap', cur, hv, _⟩⟩ := h
    · cases h2.1
    · cases hv; rfl
  subst hn
  unfold Own at h ⊢
  rw [flat_set l i (x, y) hi, List.length_set]
  exact ((h.stored _ _).1.stored _ _).1
theorem Own.frm {w : World} {B : Nat} {v : Value} {l : List V} (h : Own w B v l) : (v = .slice none 0 0 ∧ l = []) ∨ ∃ g cap, v = .slice (some ⟨g, 0, none⟩) l.length cap ∧ B ≤ g ∧ g < w.heap.size ∧ l.length ≤ cap ∧ cap ≤ 9223372036854775807 ∧ (∀ j, w.frozen? ⟨g, j, none⟩ = false) ∧ ∀ i, i < l.length → w.cell? ⟨g, i * 2, none⟩ = some (.int .i64 (px l i)) ∧ w.cell? ⟨g, i * 2 + 1, none⟩ = some (.int .i64 (py l i)) := by
  rcases (own_lay.1 h).form with q | ⟨g, cap, h1, h2, h3, h4, h5, h6, h7⟩
  · exact .inl q
  · refine .inr ⟨g, cap, h1, h2, h3, h4, by unfold maxLen at h5; omega, h6, fun i hi => ?_⟩
    have e1 : px l i = l[i].1 := by unfold px; simp [hi]
    have e2 : py l i = l[i].2 := by unfold py; simp [hi]
    have k0 := h7.at_ i hi 0 _ rfl
    have k1 := h7.at_ i hi 1 _ rfl
    rw [Nat.zero_add] at k0 k1
    rw [e1, e2]
    exact ⟨k0, k1⟩
theorem Own.tk {w : World} {B g n cap : Nat} {l : List V} (h : Own w B (.slice (some ⟨g, 0, none⟩) n cap) l) {m : Nat} (hm : m ≤ l.length) : Own w B (.slice (some ⟨g, 0, none⟩) m cap) (l.take m) := own_lay.2 (OwnE.take (own_lay.1 h) hm)
theorem Own.monoB {w : World} {B B' : Nat} {v : Value} {l : List V} (h : Own w B v l) (hB : B' ≤ B) : Own w B' v l := own_lay.2 (OwnE.mono (own_lay.1 h) hB)
theorem Own.kept' {w w' : World} {B : Nat} {v : Value} {l : List V} {row : Option Nat} (h : Own w B v l) (hg : w.grownBy w' row) (hr : v.ownBlock = none ∨ v.ownBlock ≠ row) : Own w' B v l := World.ownsRow.kept h hg hr

end Go.Proofs.Ytldlogcpnfmomaa
