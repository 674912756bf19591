/- Parts of a proof: contracts and laws. -/
import Derived.Test.YtiaoandbdgdecaaPT30
import Derived.Test.YtiaoandbdgdecaaPT32
import Derived.Shelf.Sort.Plain
import Derived.Shelf.Slices.In.SortNone
import Derived.Sort.OwnSortedInts
namespace Go.Proofs.Ytiaoandbdgdecaa
section
set_option linter.unusedVariables false
set_option linter.unusedSimpArgs false
open Go.Shelf
open Go.RowKit Go.Sort
def laySortOrd_ren : Go.Shelf.Ren := ⟨fun | 189 => 56 | 125 => 50 | 257 => 75 | 128 => 65 | 129 => 66 | 294 => 84 | 295 => 85 | 296 => 86 | 297 => 87 | 298 => 88 | 299 => 89 | 216 => 90 | 300 => 91 | 301 => 92 | 328 => 95 | 329 => 77 | 330 => 78 | 331 => 96 | 332 => 97 | 215 => 51 | 343 => 98 | n => n, fun | 28 => 22 | 3 => 3 | 46 => 83 | 0 => 0 | 51 => 97 | 53 => 64 | 4 => 4 | 183 => 90 | 182 => 89 | 131 => 94 | 5 => 5 | 9 => 9 | 218 => 105 | 222 => 109 | 228 => 118 | 229 => 119 | n => n, fun | n => n⟩
theorem laySortOrd : Go.Proofs.Lays.n189 Try.prog laySortOrd_ren := {
  mixed := by kernel_rfl
  f125 := Try.func50.trans (congrArg some (by kernel_rfl))
  f128 := Try.func65.trans (congrArg some (by kernel_rfl))
  f129 := Try.func66.trans (congrArg some (by kernel_rfl))
  f189 := Try.func56.trans (congrArg some (by kernel_rfl))
  f215 := Try.func51.trans (congrArg some (by kernel_rfl))
  f216 := Try.func90.trans (congrArg some (by kernel_rfl))
  f257 := Try.func75.trans (congrArg some (by kernel_rfl))
  f294 := Try.func84.trans (congrArg some (by kernel_rfl))
  f295 := Try.func85.trans (congrArg some (by kernel_rfl))
  f296 := Try.func86.trans (congrArg some (by kernel_rfl))
  f297 := Try.func87.trans (congrArg some (by kernel_rfl))
  f298 := Try.func88.trans (congrArg some (by kernel_rfl))
  f299 := Try.func89.trans (congrArg some (by kernel_rfl))
  f300 := Try.func91.trans (congrArg some (by kernel_rfl))
  f301 := Try.func92.trans (congrArg some (by kernel_rfl))
  f328 := Try.func95.trans (congrArg some (by kernel_rfl))
  f329 := Try.func77.trans (congrArg some (by kernel_rfl))
  f330 := Try.func78.trans (congrArg some (by kernel_rfl))
  f331 := Try.func96.trans (congrArg some (by kernel_rfl))
  f332 := Try.func97.trans (congrArg some (by kernel_rfl))
  f343 := Try.func98.trans (congrArg some (by kernel_rfl))
  t0 := Try.underlying0
  a0 := Try.isAgg0
  z0 := Try.sizeOf0
  v0 := Try.zeroValue0
  t3 := Try.underlying3
  a3 := Try.isAgg3
  z3 := Try.sizeOf3
  v3 := Try.zeroValue3
  t4 := Try.underlying4
  a4 := Try.isAgg4
  z4 := Try.sizeOf4
  v4 := Try.zeroValue4
  t5 := Try.underlying5
  a5 := Try.isAgg5
  z5 := Try.sizeOf5
  v5 := Try.zeroValue5
  t9 := Try.underlying9
  a9 := Try.isAgg9
  z9 := Try.sizeOf9
  v9 := Try.zeroValue9
  t28 := Try.underlying22
  a28 := Try.isAgg22
  z28 := Try.sizeOf22
  v28 := Try.zeroValue22
  t46 := Try.underlying83
  a46 := Try.isAgg83
  z46 := Try.sizeOf83
  v46 := Try.zeroValue83
  t51 := Try.underlying97
  a51 := Try.isAgg97
  z51 := Try.sizeOf97
  v51 := Try.zeroValue97
  t53 := Try.underlying64
  a53 := Try.isAgg64
  z53 := Try.sizeOf64
  v53 := Try.zeroValue64
  t131 := Try.underlying94
  a131 := Try.isAgg94
  z131 := Try.sizeOf94
  v131 := Try.zeroValue94
  t182 := Try.underlying89
  a182 := Try.isAgg89
  z182 := Try.sizeOf89
  v182 := Try.zeroValue89
  t183 := Try.underlying90
  a183 := Try.isAgg90
  z183 := Try.sizeOf90
  v183 := Try.zeroValue90
  t218 := Try.underlying105
  a218 := Try.isAgg105
  z218 := Try.sizeOf105
  v218 := Try.zeroValue105
  t222 := Try.underlying109
  a222 := Try.isAgg109
  z222 := Try.sizeOf109
  v222 := Try.zeroValue109
  t228 := Try.underlying118
  a228 := Try.isAgg118
  z228 := Try.sizeOf118
  v228 := Try.zeroValue118
  t229 := Try.underlying119
  a229 := Try.isAgg119
  z229 := Try.sizeOf119
  v229 := Try.zeroValue119 }
theorem flat_nat (o : List Nat) : flatE layNat o = (o.map (fun i : Nat => (i : Int))).map (Value.int .i64) := by
  induction o with
  | nil => rfl
  | cons a o ih => unfold flatE at *; rw [List.flatMap_cons, ih]; rfl
theorem sortNat_calls (B : Nat) (s : Value) (o : List Nat) (w : World) (hs : OwnE layNat 3 w B s o) (hl : o.length ≤ 1000000) :
    Calls Try.prog 56 #[s] w fun e w' => e = .returned (.tuple #[]) ∧ (∃ o', o'.Perm o ∧ o'.Pairwise (· ≤ ·) ∧ OwnE layNat 3 w' B s o') ∧ w.grownBy w' s.ownBlock := by
  obtain ⟨h1, ⟨rfl, h0⟩ | ⟨g, cap, cur, rfl, hB, hg, hn, hm, hsz, ht⟩⟩ := hs
  · refine (Any.slices_Sort_int_none laySortOrd none 0 w).mono ?_
    rintro e w' ⟨rfl, rfl⟩
    have ho : o = [] := by simpa using h0
    subst ho
    exact ⟨rfl, ⟨[], List.Perm.refl _, List.Pairwise.nil, OwnE.nil _ _ _ _⟩, ⟨rfl, rfl, rfl, Nat.le_refl _, fun _ _ _ => rfl⟩⟩
  · have hz : (o.map (fun i : Nat => (i : Int))).length = o.length := by simp
    have ht' : cur.toList.take (o.map (fun i : Nat => (i : Int))).length = (o.map (fun i : Nat => (i : Int))).map (Value.int .i64) := by
      rw [← flat_nat, hz]
      simpa [layNat] using ht
    have hgl : g < w.heap.size := (Array.getElem?_eq_some_iff.1 hg).1
    have hc := Any.slices_Sort_int laySortOrd g 0 cap (o.map (fun i : Nat => (i : Int))) w (holds_of_blockI hg ht') hgl (by rw [hz]; omega)
    rw [hz] at hc
    refine hc.mono ?_
    rintro e w' ⟨rfl, n, os, rfl⟩
    have hp : ((o.map (fun i : Nat => (i : Int))).mergeSort fun x y => decide (x ≤ y)).Perm (o.map (fun i : Nat => (i : Int))) := List.mergeSort_perm _ _
    have hpw : ((o.map (fun i : Nat => (i : Int))).mergeSort fun x y => decide (x ≤ y)).Pairwise (fun x y => decide (x ≤ y) = true) := List.pairwise_mergeSort (fun a b c h1 h2 => by simp at *; omega) (fun a b => by simp; omega) _
    obtain ⟨ts, hts⟩ : ∃ ts, ts = ((o.map (fun i : Nat => (i : Int))).mergeSort fun x y => decide (x ≤ y)) := ⟨_, rfl⟩
    rw [← hts] at hp hpw ⊢
    have hnn : ∀ x ∈ ts, 0 ≤ x := fun x hx => by
      obtain ⟨y, -, rfl⟩ := List.mem_map.1 (hp.mem_iff.1 hx)
      omega
    have hback : (ts.map Int.toNat).map (fun i : Nat => (i : Int)) = ts := by
      rw [List.map_map]
      refine (List.map_congr_left fun x hx => ?_).trans (List.map_id _)
      have := hnn x hx
      show ((x.toNat : Nat) : Int) = id x
      simp; omega
    have hlen : ts.length = (o.map (fun i : Nat => (i : Int))).length := hp.length_eq
    have hown := ownsRow_sortedI (e := 3) (os := os) (n := n) (base := B) hlen hB hg (by rw [hz]; exact hn) hm (by simpa [layNat] using hsz)
    refine ⟨rfl, ⟨ts.map Int.toNat, ?_, ?_, ?_⟩, grownBy_sortedI _⟩
    · refine (hp.map Int.toNat).trans ?_
      rw [List.map_map]
      refine List.Perm.of_eq ((List.map_congr_left fun x _ => ?_).trans (List.map_id _))
      simp
    · refine List.pairwise_map.2 (hpw.imp_of_mem fun {a b} ha hb h => ?_)
      have h : a ≤ b := by simpa using h
      have := hnn a ha
      have := hnn b hb
      omega
    · show World.ownsRow _ _ _ _ _ _ _
      rw [flat_nat, hback]
      have hl2 : (ts.map Int.toNat).length = o.length := by rw [List.length_map, hlen, hz]
      rw [hl2]
      rw [hz] at hown
      exact hown
structure CellsN (w : World) (b off i : Nat) : Prop where
  ce : CellsE layNat w b off [i]
theorem CellsN.here (w : World) (i : Nat) (t : TypeId) : CellsN (w.alloc (.cells #[.int .i64 (i : Nat)] t)) w.heap.size 0 i :=
  ⟨⟨by simp, fun j hj m v hv => by
    obtain rfl : j = 0 := by simpa using hj
    match m, hv with
    | 0, hv => have e : some (Value.int .i64 (i : Nat)) = some v := hv; cases e; show World.cell? _ ⟨_, 0 + 0 * 1 + 0, none⟩ = _; go_simp
    | m + 1, hv => simp [layNat] at hv⟩⟩
theorem CellsN.drew {w : World} {b off i : Nat} (h : CellsN w b off i) : CellsN w.drew b off i := ⟨h.ce.below (Below.refl _ _).drew⟩
structure VarA (w : World) (g : Nat) (v : Value) : Prop where
  c : w.cell? ⟨g, 0, none⟩ = some v
  f : ∀ j, w.frozen? ⟨g, j, none⟩ = false
theorem keepVarA {w w' : World} {g : Nat} {v : Value} (hb : Below w.heap.size w w') (h : VarA w g v) : VarA w' g v := ⟨keepCell hb h.c, fun j => (World.frozen?_of_block (hb.block _ (lt_of_cell h.c))).trans (h.f j)⟩
set_option maxRecDepth 100000 in
set_option maxHeartbeats 4000000 in
theorem idsleaf_calls {w0 : World} {g : Nat} {s : TS} (h : Mem w0 g s) (gl i : Nat) (b : Bx) (up : Option Addr) (w' : World) (out : List Nat) (hr : s.nd gl = some ⟨b, ((i : Nat) : Int), 0, up, none, none⟩) (hS : WkS w0 w' out) (hl : out.length < 256) :
    Calls Try.prog 55 #[.pointer (pA gl), .pointer (some ⟨w0.heap.size, 0, none⟩)] w' (fun e w'' => e = .returned (.tuple #[]) ∧ WkS w0 w'' (out ++ [i])) := by
  obtain ⟨⟨v, hc, ho⟩, hf, hB⟩ := hS
  have k4 := hid ((h.below hB).nd _ _ hr).c4
  have HO := hid ho
  have HB := hid hB
  have VA0 : Hid (VarA w'.drew w0.heap.size v) := ⟨hc, hf⟩
  clear ho hB hf h hr hc
  go_enter Try.func55, Try.ntmps55
  go_upto_region 0 with fail
  refine wp_region_noPanic ?_
  refine wp_region_U (S := (S3 (fun w' => VarA w' w0.heap.size v ∧ w'.cell? ⟨gl, 4, none⟩ = some (.int .i64 (i : Nat)) ∧ OwnE layNat 3 w' (w0.heap.size + 1) v out ∧ Below w0.heap.size w0 w') (fun w' => VarA w' w0.heap.size v))) (T := (fun j => [0, 0, 0, 0, 0, 0, 1, 2].getD j 0)) (by kernel_rfl) (S3i0 ⟨VA0.out, k4.out, HO.out, HB.out.drew⟩) (fun hH => ?_)
  have hWr1 : Weaker (S3 (fun w' => VarA w' w0.heap.size v ∧ w'.cell? ⟨gl, 4, none⟩ = some (.int .i64 (i : Nat)) ∧ OwnE layNat 3 w' (w0.heap.size + 1) v out ∧ Below w0.heap.size w0 w') (fun w' => VarA w' w0.heap.size v)) := weaker3 (fun _ ⟨q0, q1, q2, q3⟩ => q0)
  refine Ut 0 3 7 0 0 (v := ?vr1_1) rfl hWr1 hH ?yr1_1 ?_
  case yr1_1 => (intro w' hSw; replace hSw := S3o0 hSw; (try dsimp only at hSw); have q0 := hSw.1; have q1 := hSw.2.1; have q2 := hSw.2.2.1; have q3 := hSw.2.2.2; obtain ⟨qa0_0, qa0_1⟩ := id q0; go_simp; try (with_reducible rfl))
  simp only [sB, sC]
  refine Ut 1 4 6 0 0 (v := ?vr1_2) rfl hWr1 hH ?yr1_2 ?_
  case yr1_2 => (intro w' hSw; clear hSw; go_simp; try (with_reducible rfl))
  simp only [sB, sC]
  refine Ut 2 5 5 0 0 (v := ?vr1_3) rfl hWr1 hH ?yr1_3 ?_
  case yr1_3 => (intro w' hSw; clear hSw; go_simp; try (with_reducible rfl))
  simp only [sB, sC]
  refine Ut 3 6 4 0 0 (v := ?vr1_4) rfl hWr1 hH ?yr1_4 ?_
  case yr1_4 => (intro w' hSw; clear hSw; go_simp; try (with_reducible rfl))
  simp only [sB, sC]
  refine Ut 4 7 3 0 0 (v := ?vr1_5) rfl hWr1 hH ?yr1_5 ?_
  case yr1_5 => (intro w' hSw; replace hSw := S3o0 hSw; (try dsimp only at hSw); have q0 := hSw.1; have q1 := hSw.2.1; have q2 := hSw.2.2.1; have q3 := hSw.2.2.2; obtain ⟨qa0_0, qa0_1⟩ := id q0; go_simp; try (with_reducible rfl))
  simp only [sB, sC]
  refine U1 5 0 rfl (fun K hK => ?_)
  try clear hb
  have hG := hH
  replace hG := S3o0 hG; (try dsimp only at hG); have q0 := hG.1; have q1 := hG.2.1; have q2 := hG.2.2.1; have q3 := hG.2.2.2
  go_simp
  refine hK.out _ _ (S3i0 (by have hG := hH; replace hG := S3o0 hG; (try dsimp only at hG); have q0 := hG.1; have q1 := hG.2.1; have q2 := hG.2.2.1; have q3 := hG.2.2.2; exact ⟨keepVarA ((Below.refl _ _).alloc (Nat.le_refl _) _) q0, keepCell ((Below.refl _ _).alloc (Nat.le_refl _) _) q1, q2.alloc _, q3.alloc q3.size _⟩)) (fun hH2 => ?_)
  clear hK K hH
  rename _ => hH
  try simp only [Act.put, sA, sB, sC]
  have hN : CellsN ((w'.alloc (.cells #[.int .i64 (i : Nat)] 3)).drew) w'.heap.size 0 i := CellsN.drew (CellsN.here _ _ _)
  obtain ⟨gN, hgN⟩ : ∃ g, g = w'.heap.size := ⟨_, rfl⟩
  have hlN : w0.heap.size < gN := by rw [hgN]; have := lt_of_cell q0.c; exact this
  rw [← hgN] at hN
  try rw [← hgN]
  clear hgN q0 q1 q2 q3
  generalize (w'.alloc (.cells #[.int .i64 (i : Nat)] 3)).drew = wx5 at *
  refine U1 6 1 rfl (fun K hK => ?_)
  have hG := hH
  replace hG := S3o0 hG; (try dsimp only at hG); have q0 := hG.1; have q1 := hG.2.1; have q2 := hG.2.2.1; have q3 := hG.2.2.2
  (refine step_append_E tyNat (by rfl) _ _ (by rfl) (w0.heap.size + 1) v out (by rfl) q2 gN 0 1 1 [i] (by rfl) (by rfl) hN.ce (by simp; omega) (by simp; omega) (by have := lt_of_cell q0.c; omega) ?_; intro s' wn hos hgs hat; obtain ⟨A9, n9, c9, rfl, -, -⟩ := hos.sl)
  refine hK.out _ _ (S3i1 ⟨hgs.cell q0.c (q2.ne (Nat.lt_succ_self _)), fun j => (World.frozen?_of_block (hgs.block _ (lt_of_cell q0.c) (q2.ne (Nat.lt_succ_self _)))).trans (q0.f j)⟩) (fun hH2 => ?_)
  clear hK K hH
  rename _ => hH
  try simp only [Act.put, List.getElem_toArray, List.getElem_cons_succ, List.getElem_cons_zero, sA, sB, sC]
  have HOS := hid hos
  have HBE := hid (q3.grown hgs q3.size (fun k hk => by have := (q2.lt hk).1; omega))
  clear hos hgs hat hN hlN q0 q1 q2 q3 hG
  refine U1 7 2 rfl (fun K hK => ?_)
  have hG := hH
  replace hG := S3o1 hG; (try dsimp only at hG); have q0 := hG; obtain ⟨qa0_0, qa0_1⟩ := id q0
  go_simp
  refine hK.out _ _ (S3i2) (fun hH2 => ?_)
  clear hK K hH
  rename _ => hH
  try simp only [Act.put, sA, sB, sC]
  have HV := hid q0
  clear q0 qa0_0 qa0_1 hG
  refine wpAnyU_done (by kernel_rfl) ?_ _ _
  refine NoPanic.normal ?_
  have hne : ∀ k, (Value.slice A9 n9 c9).ownBlock = some k → k ≠ w0.heap.size := fun k hk => by have := (HOS.out.lt hk).1; omega
  have hW : WkS w0 (wn.setCell ⟨w0.heap.size, 0, none⟩ (.slice A9 n9 c9)) (out ++ [i]) := ⟨⟨_, cell_eqB HV.out.c, HOS.out.off hne 0 _⟩, frz_set HV.out.f _ _, HBE.out.setCell (p := ⟨w0.heap.size, 0, none⟩) (Nat.le_refl _) _⟩
  go_returns
  exact ⟨rfl, hW⟩

def RetHit (F : Nat → Option Bx) (is : Bx → Bool) (w : World) (e : Ending) (w' : World) : Prop := ∃ A n c, e = .returned (.slice A n c) ∧ SlE layNat w' A n c (hitF F is) ∧ (∀ b off, A = some ⟨b, off, none⟩ → w.heap.size ≤ b) ∧ Below w.heap.size w w'
theorem cf_ids1 (args : Array Value) (w : World) : (callFunc 55 args).run Try.prog w = .ok (.enter 55 args) w := by kernel_rfl
theorem cf_meet1 (args : Array Value) (w : World) : (callFunc 43 args).run Try.prog w = .ok (.enter 43 args) w := by kernel_rfl

theorem walkO_calls {w0 : World} {g : Nat} {s : TS} {T : Option TB} (h : Mem w0 g s) (hW : WF s T) (F G : Nat) (p1 : Value) (is : Bx → Bool)
    (hcf : ∀ (args : Array Value) (w : World), (callFunc F args).run Try.prog w = .ok (.enter F args) w) (hcg : ∀ (args : Array Value) (w : World), (callFunc G args).run Try.prog w = .ok (.enter G args) w)
    (HIS : Hid (∀ b1 b2 b3 b4 w', Below w0.heap.size w0 w' → Calls Try.prog F #[bxV ((b1, b2), (b3, b4)), p1] w' (Ret (.bool (is ((b1, b2), (b3, b4)))) w')))
    (HLF : Hid (∀ gl i b up w' out, s.nd gl = some ⟨b, ((i : Nat) : Int), 0, up, none, none⟩ → WkS w0 w' out → out.length < 256 → Calls Try.prog G #[.pointer (pA gl), .pointer (some ⟨w0.heap.size, 0, none⟩)] w' (fun e w'' => e = .returned (.tuple #[]) ∧ WkS w0 w'' (out ++ [i]))))
    (hm : ∀ x y, is x = true ∨ is y = true → is (joinB x y) = true) (w : World) (hS : WkS w0 w []) :
    Calls Try.prog 54 #[.pointer s.root, .func (.func F) #[] #[p1], .func (.func G) #[] #[.pointer (some ⟨w0.heap.size, 0, none⟩)]] w (fun e w' => e = .returned (.tuple #[]) ∧ WkS w0 w' (((lvsO T).filter (fun y => is y.2.2)).map (fun y => y.2.1))) := by
  cases T with
  | none =>
    have hr : s.root = none := hW.root
    rw [hr]
    have HS := hid hS
    clear h hW hr hS HIS HLF hm
    go_enter Try.func54, Try.ntmps54
    go_wp2
    go_returns
    exact ⟨rfl, HS.out⟩
  | some t =>
    obtain ⟨h1, h2, h3, h4⟩ := hW.root
    rw [h1]
    refine (walk_calls h F G p1 is hcf hcg HIS HLF t none w [] h2 hS (by have := hW.len; simpa using this)).mono ?_
    rintro e w' ⟨rfl, hw⟩
    refine ⟨rfl, ?_⟩
    rw [List.nil_append, wk_eq hm] at hw
    exact hw
set_option maxRecDepth 100000 in
set_option maxHeartbeats 4000000 in
theorem ids_calls {w : World} {g : Nat} {s : TS} {T : Option TB} (h : Mem w g s) (hW : WF s T) (F : Nat) (p1 : Value) (is : Bx → Bool)
    (hcf : ∀ (args : Array Value) (w : World), (callFunc F args).run Try.prog w = .ok (.enter F args) w)
    (HIS : Hid (∀ b1 b2 b3 b4 w', Below w.heap.size w w' → Calls Try.prog F #[bxV ((b1, b2), (b3, b4)), p1] w' (Ret (.bool (is ((b1, b2), (b3, b4)))) w')))
    (hm : ∀ x y, is x = true ∨ is y = true → is (joinB x y) = true) :
    Calls Try.prog 42 #[.pointer (pA g), .func (.func F) #[] #[p1]] w (RetHit (bxO T) is w) := by
  obtain ⟨W, hWw⟩ : ∃ W, W = w.alloc (.cells #[.slice none 0 0] 22) := ⟨_, rfl⟩
  have hb : Below w.heap.size w W := by rw [hWw]; go_grown
  have hc : W.cell? ⟨w.heap.size, 0, none⟩ = some (.slice none 0 0) := by rw [hWw]; go_simp
  have HS0 : WkS w W [] := ⟨⟨_, hc, OwnE.nil _ _ _ _⟩, fun j => by rw [hWw]; unfold World.frozen?; rw [heap_alloc_new]; simp, hb⟩
  have HWK := hid (walkO_calls h hW F 55 p1 is hcf cf_ids1 HIS (hid (fun gl i b up w' out hr hS hl => idsleaf_calls h gl i b up w' out hr hS hl)) hm W HS0)
  have hr := (h.below hb).root
  have hlg := lt_of_cell hr
  have HLAW : Hid (∀ m : List Nat, m.Perm (((lvsO T).filter (fun y => is y.2.2)).map (fun y => y.2.1)) → m.Pairwise (· ≤ ·) → m = hitF (bxO T) is) := fun m h1 h2 => hit_law hW is h1 h2
  have HLEN : Hid ((((lvsO T).filter (fun y => is y.2.2)).map (fun y => y.2.1)).length ≤ 1000000) := by
    show _ ≤ _
    have h1 := List.length_filter_le (fun y : Nat × (Nat × Bx) => is y.2.2) (lvsO T)
    have h2 : (lvsO T).length ≤ 256 := by
      cases T with
      | none => simp [lvsO]
      | some t => exact hW.len
    rw [List.length_map]
    omega
  show Calls _ _ _ _ (fun e w' => ∃ A n c, e = .returned (.slice A n c) ∧ SlE layNat w' A n c (hitF (bxO T) is) ∧ (∀ b off, A = some ⟨b, off, none⟩ → w.heap.size ≤ b) ∧ Below w.heap.size w w')
  generalize ((lvsO T).filter (fun y => is y.2.2)).map (fun y => y.2.1) = L at *
  generalize hitF (bxO T) is = R at *
  clear h hW hm HIS hb hc HS0 hcf
  go_enter Try.func42, Try.ntmps42
  go_upto_region 2 with fail
  rw [← hWw]
  clear hWw
  go_wp2_with fail
  refine HWK.out.mono ?_
  rintro e w2 ⟨rfl, ⟨v, hc, ho⟩, hf, hbl⟩
  have hne := ho.ne (Nat.lt_succ_self w.heap.size)
  have HSO := hid (sortNat_calls (w.heap.size + 1) v L w2 ho HLEN.out)
  have HB2 := hid hbl
  have HOW := hid ho
  have lc := lt_of_cell hc
  clear HWK hr hlg hf hbl ho
  go_wp2_with fail
  refine HSO.out.mono ?_
  rintro e w3 ⟨rfl, ⟨o', hp, hpw, ho'⟩, hg⟩
  have hc3 := hg.cell hc hne
  have lc3 := lt_of_cell hc3
  obtain ⟨A9, n9, c9, rfl, hsl, hfr⟩ := ho'.sl
  have hR : o' = R := HLAW.out o' hp hpw
  subst hR
  have HFIN : Hid (SlE layNat w3 A9 n9 c9 o' ∧ (∀ b off, A9 = some ⟨b, off, none⟩ → w.heap.size ≤ b) ∧ Below w.heap.size w w3) := ⟨hsl, fun b off e => Nat.le_of_succ_le (hfr b off e), HB2.out.grown hg HB2.out.size (fun k hk => by have := (HOW.out.lt hk).1; omega)⟩
  clear HSO HLAW HLEN hc hne hp hpw ho' hsl hfr hg HB2 HOW lc
  go_wp2
  go_returns
  exact ⟨A9, n9, c9, rfl, HFIN.out.1, HFIN.out.2.1, HFIN.out.2.2⟩
set_option maxRecDepth 100000 in
set_option maxHeartbeats 4000000 in
theorem bmeet1_calls (gb : Nat) (x1 x2 x3 x4 b1 b2 b3 b4 : Int) (w : World) (c0 : w.cell? ⟨gb, 0, none⟩ = some (.int .i64 b1)) (c1 : w.cell? ⟨gb, 1, none⟩ = some (.int .i64 b2)) (c2 : w.cell? ⟨gb, 2, none⟩ = some (.int .i64 b3)) (c3 : w.cell? ⟨gb, 3, none⟩ = some (.int .i64 b4)) :
    Calls Try.prog 43 #[bxV ((x1, x2), (x3, x4)), .pointer (some ⟨gb, 0, none⟩)] w (Ret (.bool (tchB ((x1, x2), (x3, x4)) ((b1, b2), (b3, b4)))) w) := by
  have lb := lt_of_cell c0
  have HM := hid (fun w => smeet_calls x1 x2 x3 x4 b1 b2 b3 b4 w)
  generalize tchB ((x1, x2), (x3, x4)) ((b1, b2), (b3, b4)) = z at *
  go_enter Try.func43, Try.ntmps43
  go_wp2_with fail
  refine (HM.out _).mono ?_
  rintro e w1 ⟨rfl, hb⟩
  have hB : Below w.heap.size w w1 := keepBelow hb (by go_grown)
  clear hb c0 c1 c2 c3 lb HM
  go_wp2
  go_returns
  exact ret_bool (by simp) hB
set_option maxRecDepth 100000 in
set_option maxHeartbeats 4000000 in
theorem bmeet_calls {w : World} {g : Nat} {s : TS} {T : Option TB} (h : Mem w g s) (hW : WF s T) (b1 b2 b3 b4 : Int) :
    Calls Try.prog 23 #[.pointer (pA g), bxV ((b1, b2), (b3, b4))] w (RetHit (bxO T) (fun x => tchB x ((b1, b2), (b3, b4))) w) := by
  obtain ⟨W, hWw⟩ : ∃ W, W = w.alloc (.cells #[.int .i64 b1, .int .i64 b2, .int .i64 b3, .int .i64 b4] 32) := ⟨_, rfl⟩
  have hb : Below w.heap.size w W := by rw [hWw]; go_grown
  have c0 : W.cell? ⟨w.heap.size, 0, none⟩ = some (.int .i64 b1) := by rw [hWw]; go_simp
  have c1 : W.cell? ⟨w.heap.size, 1, none⟩ = some (.int .i64 b2) := by rw [hWw]; go_simp
  have c2 : W.cell? ⟨w.heap.size, 2, none⟩ = some (.int .i64 b3) := by rw [hWw]; go_simp
  have c3 : W.cell? ⟨w.heap.size, 3, none⟩ = some (.int .i64 b4) := by rw [hWw]; go_simp
  have HI := hid (ids_calls (h.below hb) hW 43 (.pointer (some ⟨w.heap.size, 0, none⟩)) (fun x => tchB x ((b1, b2), (b3, b4))) cf_meet1 (hid (fun x1 x2 x3 x4 w' hb' => bmeet1_calls w.heap.size x1 x2 x3 x4 b1 b2 b3 b4 w' (keepCell hb' c0) (keepCell hb' c1) (keepCell hb' c2) (keepCell hb' c3))) (fun x y q => joinB_tch q))
  have HB := hid hb
  clear h hW c0 c1 c2 c3 hb
  generalize hR : hitF (bxO T) (fun x => tchB x ((b1, b2), (b3, b4))) = R
  have HI : Hid (Calls Try.prog 42 #[.pointer (pA g), .func (.func 43) #[] #[.pointer (some ⟨w.heap.size, 0, none⟩)]] W (fun e w' => ∃ A n c, e = .returned (.slice A n c) ∧ SlE layNat w' A n c R ∧ (∀ b off, A = some ⟨b, off, none⟩ → W.heap.size ≤ b) ∧ Below W.heap.size W w')) := by rw [← hR]; exact HI.out
  show Calls _ _ _ _ (fun e w' => ∃ A n c, e = .returned (.slice A n c) ∧ SlE layNat w' A n c (hitF (bxO T) (fun x => tchB x ((b1, b2), (b3, b4)))) ∧ (∀ b off, A = some ⟨b, off, none⟩ → w.heap.size ≤ b) ∧ Below w.heap.size w w')
  rw [hR]
  clear hR
  go_enter Try.func23, Try.ntmps23
  go_upto_region 1 with fail
  rw [← hWw]
  clear hWw
  go_wp2_with fail
  refine HI.out.mono ?_
  rintro e w2 ⟨A9, n9, c9, rfl, hsl, hfr, hb2⟩
  have HFIN : Hid (SlE layNat w2 A9 n9 c9 R ∧ (∀ b off, A9 = some ⟨b, off, none⟩ → w.heap.size ≤ b) ∧ Below w.heap.size w w2) := ⟨hsl, fun b off e => Nat.le_trans HB.out.size (hfr b off e), keepBelow hb2 HB.out⟩
  clear HI hsl hfr hb2 HB
  go_wp2
  go_returns
  exact ⟨A9, n9, c9, rfl, HFIN.out.1, HFIN.out.2.1, HFIN.out.2.2⟩
set_option maxRecDepth 100000 in
set_option maxHeartbeats 4000000 in
theorem bhas_calls {w : World} {g : Nat} {s : TS} {T : Option TB} (h : Mem w g s) (hW : WF s T) (p q : Int) :
    Calls Try.prog 36 #[.pointer (pA g), vecV p q] w (RetHit (bxO T) (fun x => tchB x ((p, q), (p, q))) w) := by
  obtain ⟨W, hWw⟩ : ∃ W, W = w.alloc (.cells #[.int .i64 p, .int .i64 q] 30) := ⟨_, rfl⟩
  have hb : Below w.heap.size w W := by rw [hWw]; go_grown
  have c0 : W.cell? ⟨w.heap.size, 0, none⟩ = some (.int .i64 p) := by rw [hWw]; go_simp
  have c1 : W.cell? ⟨w.heap.size, 1, none⟩ = some (.int .i64 q) := by rw [hWw]; go_simp
  have lc := lt_of_cell c0
  have HI := hid (bmeet_calls (h.below hb) hW p q p q)
  have HB := hid hb
  clear h hW hb
  generalize hR : hitF (bxO T) (fun x => tchB x ((p, q), (p, q))) = R
  have HI : Hid (Calls Try.prog 23 #[.pointer (pA g), bxV ((p, q), (p, q))] W (fun e w' => ∃ A n c, e = .returned (.slice A n c) ∧ SlE layNat w' A n c R ∧ (∀ b off, A = some ⟨b, off, none⟩ → W.heap.size ≤ b) ∧ Below W.heap.size W w')) := by rw [← hR]; exact HI.out
  show Calls _ _ _ _ (fun e w' => ∃ A n c, e = .returned (.slice A n c) ∧ SlE layNat w' A n c (hitF (bxO T) (fun x => tchB x ((p, q), (p, q)))) ∧ (∀ b off, A = some ⟨b, off, none⟩ → w.heap.size ≤ b) ∧ Below w.heap.size w w')
  rw [hR]
  clear hR
  go_enter Try.func36, Try.ntmps36
  go_upto_region 1 with fail
  rw [← hWw]
  clear hWw
  go_wp2_with fail
  refine HI.out.mono ?_
  rintro e w2 ⟨A9, n9, c9, rfl, hsl, hfr, hb2⟩
  have HFIN : Hid (SlE layNat w2 A9 n9 c9 R ∧ (∀ b off, A9 = some ⟨b, off, none⟩ → w.heap.size ≤ b) ∧ Below w.heap.size w w2) := ⟨hsl, fun b off e => Nat.le_trans HB.out.size (hfr b off e), keepBelow hb2 HB.out⟩
  clear HI hsl hfr hb2 HB c0 c1 lc
  go_wp2
  go_returns
  exact ⟨A9, n9, c9, rfl, HFIN.out.1, HFIN.out.2.1, HFIN.out.2.2⟩
end
end Go.Proofs.Ytiaoandbdgdecaa
