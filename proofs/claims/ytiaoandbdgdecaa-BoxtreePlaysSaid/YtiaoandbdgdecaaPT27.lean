/- Parts of a proof: contracts and laws. -/
import Derived.Test.YtiaoandbdgdecaaPT26
namespace Go.Proofs.Ytiaoandbdgdecaa
section
set_option linter.unusedVariables false
set_option linter.unusedSimpArgs false
open Go.RowKit
abbrev nr0 : NR := ⟨((0, 0), (0, 0)), 0, 0, none, none, none⟩

structure PtS (g : Nat) (s s4 : TS) (n i gl : Nat) (b : Bx) (w : World) : Prop where
  leaf : s4.nd gl = some ⟨b, (i : Nat), 0, none, none, none⟩
  oth : ∀ k, k ≠ gl → s4.nd k = s.nd k
  lv : ∀ k, s4.lv k = if k = i then pA gl else s.lv k
  cnt : s4.cnt = ((n : Nat) : Int) + 1
  fresh : w.heap.size ≤ gl
  old : ∀ k, s.nd k ≠ none → k < w.heap.size
  gin : g < w.heap.size
theorem put_tail {w wn : World} {g gl gn i : Nat} {s s4 : TS} {t x : TB} {C : List Fr} {b : Bx} (hW : WF s (some t)) (hi : i < 256) (hno : ∀ y ∈ lvsO (some t), y.2.1 ≠ i)
    (hP : PtS g s s4 t.lvs.length i gl b w) (hz : zipT C x = t) (hx0 : x.tr.ht = 0) (hT : x.Rp s4 (upC C)) (hC : CxR s4 C (upC C) x.root) (hgn : gl < gn)
    (mn : Mem wn g (s4.set gn nr0)) (on : Out (s.In g) w wn) :
    Calls Try.prog 27 #[.pointer (pA g), .pointer (pA x.root), .pointer (pA gn)] wn (fun e w5 => e = .returned (.tuple #[]) ∧
      Calls Try.prog 28 #[.pointer (pA gn), .pointer (pA x.root), .pointer (pA gl)] w5 (fun e w6 => e = .returned (.tuple #[]) ∧ w6.cell? ⟨gn, 6, none⟩ = some (.pointer (upC C)) ∧
        Calls Try.prog 29 #[.pointer (pA g), .pointer (upC C)] w6 (fun e w7 => e = .returned (.tuple #[]) ∧ RetPut g s (some t) i b w (.returned (.int .i64 0)) w7))) := by
  obtain ⟨hr1, hr2, hr3, hr4⟩ := hW.root
  have hht := hW.ht
  have hzb := zip_blocks C x
  have hzl := zip_lvs C x
  rw [hz] at hzb hzl
  have hza := zip_avl C x (by rw [hz]; exact hr4)
  rw [hz] at hza
  obtain ⟨xa, xh, xs⟩ := hza
  have hnd : (x.blocks ++ cxB C).Nodup := (List.Perm.nodup_iff hzb).1 hr3
  have hold : ∀ k, k ∈ x.blocks ++ cxB C → k < w.heap.size := fun k hk => by
    obtain ⟨r, hr⟩ := hr2.mem k (hzb.mem_iff.2 hk)
    exact hP.old k (by rw [hr]; simp)
  have hf := hP.fresh
  have h5 : ∀ k, k ≠ gn → (s4.set gn nr0).nd k = s4.nd k := fun k hk => TS.set_ne _ _ hk
  have hin5 : ∀ k, (s4.set gn nr0).In g k → s.In g k ∨ w.heap.size ≤ k := fun k hk => by
    rcases hk with hk | hk
    · exact .inl (.inl hk)
    · by_cases e1 : k = gn
      · exact .inr (by omega)
      · by_cases e2 : k = gl
        · exact .inr (by omega)
        · rw [h5 k e1, hP.oth k e2] at hk
          exact .inl (.inr hk)
  have hlt5 : ∀ k, k < w.heap.size → (s4.set gn nr0).In g k → s.In g k := fun k hk hin => (hin5 k hin).elim id (fun q => by omega)
  obtain ⟨dx, dc, dxc⟩ := List.nodup_append.1 hnd
  have bx_lt : ∀ k ∈ x.blocks, k < w.heap.size := fun k hk => hold k (by simp [hk])
  have bc_lt : ∀ k ∈ cxB C, k < w.heap.size := fun k hk => hold k (by simp [hk])
  have hxr := bx_lt _ x.root_mem
  have hT5 : x.Rp (s4.set gn nr0) (upC C) := hT.same (fun k hk => h5 k (by have := bx_lt k hk; omega))
  have hC5 : CxR (s4.set gn nr0) C (upC C) x.root := hC.same (fun k hk => h5 k (by have := bc_lt k hk; omega)) rfl
  obtain ⟨rx, hrx, hru, hrb, hrh⟩ := hT5.top
  refine (place_cx mn hC5 dc hrx hru (TS.set_eq _ _ _) (by omega) (fun k => dxc _ x.root_mem _ k rfl) (fun k => by have := bc_lt gn k; omega)).mono ?_
  rintro e w5 ⟨s6, rfl, m6, o6, c6, n6, pk6, in6⟩
  refine ⟨rfl, ?_⟩
  have k6 : ∀ k, k ≠ gn → k ∉ cxB C → s6.nd k = s4.nd k := fun k h1 h2 => (pk6.out k h1 h2).trans (h5 k h1)
  have hl6 : s6.nd gl = some ⟨b, (i : Nat), 0, none, none, none⟩ := (k6 gl (by omega) (fun k => by have := bc_lt gl k; omega)).trans hP.leaf
  have xk6 : ∀ k ∈ x.blocks, s6.nd k = (s4.set gn nr0).nd k := fun k hk => pk6.out k (by have := bx_lt k hk; omega) (fun q => dxc k hk k q rfl)
  have hx6 : s6.nd x.root = some rx := (xk6 _ x.root_mem).trans hrx
  have hT6 : x.Rp s6 (upC C) := hT5.same xk6
  have nxn : x.root ≠ gn := by omega
  have nln : gl ≠ gn := by omega
  have nlx : gl ≠ x.root := by omega
  refine (adopt_calls m6 n6 hx6 hl6 nxn nln nlx (ht_bd (by omega) hrh) (by show (0 : Int) ≤ 0 ∧ (0 : Int) ≤ 1000000; omega)).mono ?_
  rintro e w6 ⟨rfl, m7, o7⟩
  obtain ⟨s7, hs7⟩ : ∃ s7, s7 = s6.adopt gn x.root gl { nr0 with up := upC C } rx ⟨b, (i : Nat), 0, none, none, none⟩ := ⟨_, rfl⟩
  have a_n : s7.nd gn = some ⟨joinB rx.bx b, 0, 1 + max rx.ht 0, upC C, pA x.root, pA gl⟩ := by rw [hs7]; exact TS.adopt_n _ _ _ _ _ _ _
  have a_x : s7.nd x.root = some { rx with up := pA gn } := by rw [hs7]; exact TS.adopt_a _ _ _ _ nxn nlx
  have a_l : s7.nd gl = some ⟨b, (i : Nat), 0, pA gn, none, none⟩ := by rw [hs7]; exact TS.adopt_b _ _ _ _ nln
  have a_k : ∀ k, k ≠ gn → k ≠ x.root → k ≠ gl → s7.nd k = s6.nd k := fun k h1 h2 h3 => by rw [hs7]; exact TS.adopt_ne _ _ _ _ h1 h2 h3
  have a_lv : s7.lv = s4.lv := by rw [hs7]; exact pk6.lv
  have a_cnt : s7.cnt = s4.cnt := by rw [hs7]; exact pk6.cnt
  have a_rt : s7.root = s6.root := by rw [hs7]; rfl
  have in7 : ∀ k, s7.In g k → s6.In g k := fun k hk => by rw [hs7] at hk; exact TS.adopt_in n6 hx6 hl6 hk
  rw [← hs7] at m7
  refine ⟨rfl, (m7.nd _ _ a_n).c6, ?_⟩
  have hR7 : (TB.nd gn x (TB.lf gl i b)).Rp s7 (upC C) := by
    refine ⟨?_, TB.Rp.lift hT6 dx hx6 a_x (fun k hk hne => a_k k (by have := bx_lt k hk; omega) hne (by have := bx_lt k hk; omega)), a_l⟩
    rw [a_n, bx_nd, ht_nd, hrb, hrh]
    rfl
  have hC7 : CxR s7 C (upC C) (TB.nd gn x (TB.lf gl i b)).root := c6.same (fun k hk => a_k k (by have := bc_lt k hk; omega) (fun q => dxc _ x.root_mem _ (q ▸ hk) rfl) (by have := bc_lt k hk; omega)) a_rt
  have hN7 : ((TB.nd gn x (TB.lf gl i b)).blocks ++ cxB C).Nodup := by
    have p : ((TB.nd gn x (TB.lf gl i b)).blocks ++ cxB C).Perm (gn :: gl :: (x.blocks ++ cxB C)) := by
      refine List.perm_iff_count.2 fun a => ?_
      simp only [TB.blocks, List.count_cons, List.count_append, List.count_nil]; omega
    refine (List.Perm.nodup_iff p).2 (List.nodup_cons.2 ⟨fun hk => ?_, List.nodup_cons.2 ⟨fun hk => ?_, hnd⟩⟩)
    · rcases List.mem_cons.1 hk with q | q
      · omega
      · have := hold gn q; omega
    · have := hold gl hk; omega
  have h7 : (TB.nd gn x (TB.lf gl i b)).tr.ht = 1 := by
    show 1 + max x.tr.ht 0 = 1
    omega
  have hM7 : MdS s7 g C (TB.nd gn x (TB.lf gl i b)) 300 := ⟨hR7, hC7, hN7, by omega, fun f hf => by have := xs f hf; omega⟩
  refine (mend_calls m7 hM7 (by omega)).mono ?_
  rintro e w7 ⟨s', rfl, m8, o8, r8, rt8, nd8, lv8, cnt8, -, in8⟩
  have pm : (mendT C (TB.nd gn x (TB.lf gl i b))).lvs.Perm ((gl, (i, b)) :: t.lvs) := by
    have q1 := List.perm_iff_count.1 (mend_lvs C (TB.nd gn x (TB.lf gl i b)))
    have q2 := List.perm_iff_count.1 hzl
    refine List.perm_iff_count.2 fun a => ?_
    have p1 := q1 a
    have p2 := q2 a
    simp only [TB.lvs, List.count_append, List.count_cons, List.count_nil] at p1 p2 ⊢
    omega
  have hav : (mendT C (TB.nd gn x (TB.lf gl i b))).tr.Avl := (mend_grown C x (TB.nd gn x (TB.lf gl i b)) (by rw [hz]; exact hr4) ⟨xa, trivial, by show x.tr.ht ≤ 0 + 1; omega, by show 0 ≤ x.tr.ht + 1; omega⟩ (by omega) (by omega)).1
  have hlv : s'.lv = s4.lv := lv8.trans a_lv
  refine ⟨rfl, s', _, gl, rfl, m8, ((on.trans o6 hlt5).trans o7 (fun k hk q => hlt5 k hk (in6 k q))).trans o8 (fun k hk q => hlt5 k hk (in6 k (in7 k q))), ⟨⟨rt8, r8, nd8, hav⟩, ?_, fun y hy => ?_, fun y hy => ?_, fun k hk hn => ?_, ?_⟩, pm, fun k hk => hin5 k (in6 k (in7 k (in8 k hk)))⟩
  · have q := pm.map (fun y => y.2.1)
    refine (List.Perm.nodup_iff q).2 ?_
    show (i :: t.lvs.map (fun y => y.2.1)).Nodup
    refine List.nodup_cons.2 ⟨fun hk => ?_, hW.ids⟩
    obtain ⟨y, hy, e⟩ := List.mem_map.1 hk
    exact hno y hy e
  · rcases List.mem_cons.1 (pm.mem_iff.1 hy) with q | q
    · rw [q]; exact hi
    · exact hW.lt y q
  · rw [hlv, hP.lv]
    rcases List.mem_cons.1 (pm.mem_iff.1 hy) with q | q
    · rw [q, if_pos rfl]
    · rw [if_neg (hno y q)]; exact hW.lv y q
  · rw [hlv, hP.lv]
    have h1 : i ≠ k := hn (gl, (i, b)) (pm.mem_iff.2 (List.mem_cons_self ..))
    rw [if_neg (fun q => h1 q.symm)]
    exact hW.no k hk (fun y hy => hn y (pm.mem_iff.2 (List.mem_cons_of_mem _ hy)))
  · rw [cnt8, a_cnt, hP.cnt, show (lvsO (some (mendT C (TB.nd gn x (TB.lf gl i b))))).length = t.lvs.length + 1 from pm.length_eq]
    omega
end
end Go.Proofs.Ytiaoandbdgdecaa
