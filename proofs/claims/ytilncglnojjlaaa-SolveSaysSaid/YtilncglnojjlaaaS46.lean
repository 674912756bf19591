/- Parts of a proof: contracts and laws. -/
import Derived.Test.YtilncglnojjlaaaS54
namespace Go.Proofs.Ytilncglnojjlaaa
section
set_option linter.unusedVariables false
set_option linter.unusedSimpArgs false
open Go.RowKit
set_option maxRecDepth 100000 in
set_option maxHeartbeats 32000000 in
theorem rsolve_calls (A B : Option Addr) (n c n' c' : Nat) (L : List BE) (C : List Ct) (st : Int) (rn : Nat) (w : World) (hS : SlB w A n c L) (hC : SlE layC w B n' c' C) (h64 : L.length ≤ 64) (hval : ∀ x ∈ L, bodyE x.b x.l = 0) (hcs : ∀ x ∈ C, CtOk L.length x) (hc : C.length ≤ 4096) (hrn : rn ≤ 32) :
    Calls Try.prog 11 #[.slice A n c, .slice B n' c', .int .i64 st, .int .i64 rn] w fun e w' => ∃ A' n1 c1 L' B' m d C', e = .returned (.tuple #[.slice A' n1 c1, .slice B' m d]) ∧ SlB w' A' n1 c1 L' ∧ SlE layC w' B' m d C' ∧ (L'.map valB, C') = solveQ (L.map valB) C st rn ∧ Below w.heap.size w w' := by
  have hn := hS.sl.len
  have hn' := hC.len
  have hcap' := hC.cap
  have hbig' := hC.big
  have hcapS := hS.sl.cap
  have hbigS := hS.sl.big
  subst hn hn'
  have HS := hid hS
  have HC := hid hC
  have HV := hid hval
  have HCS := hid hcs
  clear hS hC hval hcs
  go_enter Try.func11, Try.ntmps11
  go_wp2_with fail
  refine (cloneBd_calls A L.length c L _ HS.out.sl (by omega)).mono ?_
  rintro e w1 ⟨s0, rfl, ho, hb1⟩
  have HO := hid ho
  have HB1 := hid hb1
  clear ho hb1
  go_wp2_with fail
  refine (cloneCt_calls B C.length c' C w1 (HC.out.below HB1.out) (by omega)).mono ?_
  rintro e w2 ⟨s1, rfl, hoc, hb2⟩
  have HOC := hid hoc
  have HB2 := hid hb2
  clear hoc hb2
  by_cases hC0 : C = []
  · subst hC0
    obtain ⟨A1, n1, c1, rfl, hsl1, -⟩ := HO.out.sl
    obtain ⟨A2, n2, c2, rfl, hsl2, -⟩ := HOC.out.sl
    have hn2 := hsl2.len
    subst hn2
    have HR : Hid (∃ A' n1' c1' L' B' m d C', (Ending.returned (.tuple #[.slice A1 n1 c1, .slice A2 ([] : List Ct).length c2])) = .returned (.tuple #[.slice A' n1' c1', .slice B' m d]) ∧ SlB w2 A' n1' c1' L' ∧ SlE layC w2 B' m d C' ∧ (L'.map valB, C') = solveQ (L.map valB) [] st rn ∧ Below w.heap.size w w2) :=
      ⟨A1, n1, c1, L, A2, _, c2, [], rfl, ⟨hsl1.below HB2.out, fun x hx => ((HS.out.co x hx).below HB1.out).below HB2.out⟩, hsl2, by rw [solveQ_nil], keepBelow HB2.out HB1.out⟩
    clear HO HOC HB1 HB2 hsl1 hsl2 HS HC HV HCS
    go_wp2
    go_loopw [12, 36] (fun o i wr => i = .int .i64 0 ∧ wr = w2 ∧ o = .slice none 0 0) (fun _ _ _ => 0)
    case atStart => exact ⟨rfl, rfl, rfl⟩
    case round =>
      obtain ⟨rfl, rfl, rfl⟩ := hrel
      go_wp2
      go_loopw [142] (fun i wr2 => i = .int .i64 0 ∧ wr2 = wr) (fun _ _ => 0)
      case atStart => exact ⟨rfl, rfl⟩
      case round =>
        obtain ⟨rfl, rfl⟩ := hrel
        go_wp2
        go_loopw [177] (fun i wr3 => i = .int .i64 0 ∧ wr3 = wr) (fun _ _ => 0)
        case atStart => exact ⟨rfl, rfl⟩
        case round =>
          obtain ⟨rfl, rfl⟩ := hrel
          go_wp2
          exact bodyPost_ret (v := .tuple #[.slice A1 n1 c1, .slice A2 0 c2]) (by simp [results, Try.results11, go_sem]) rfl HR.out
  have hCl : 0 < C.length := Nat.pos_of_ne_zero (fun h => hC0 (List.eq_nil_of_length_eq_zero h))
  have hLl : 0 < L.length := by
    have := HCS.out C[0] (List.getElem_mem hCl)
    have := this.1
    omega
  rcases HO.out.form with ⟨h1, h2⟩ | ⟨g, cap, rfl, hg1, hg2, hg3, hg4, hg5, hg6⟩
  · rw [h2] at hLl; simp at hLl
  rcases HOC.out.form with ⟨h1, h2⟩ | ⟨gc, cc, rfl, hq1, hq2, hq3, hq4, hq5, hq6⟩
  · exact absurd h2 hC0
  obtain ⟨Bz, hBz⟩ : ∃ Bz, Bz = w2.heap.size := ⟨_, rfl⟩
  have hlow : ∀ y ∈ L, ∀ bx off, y.A = some ⟨bx, off, none⟩ → bx < w.heap.size := fun y hy bx off e => sl_lt (HS.out.co y hy) (fun e => by have := HV.out y hy; rw [e] at this; exact absurd (bodyE_zero this).1 (by decide)) bx off e
  have hsz1 := HB1.out.size
  have hsz2 := HB2.out.size
  have hg2' : g < w1.heap.size := hg6.lt
  have hq2' : gc < w2.heap.size := hq6.lt
  have HS6 : Hid (S6 w Bz g gc L C w2) := by
    show S6 _ _ _ _ _ _ _
    exact ⟨keepBL HB2.out ⟨hg6, hg5, fun x hx => (HS.out.co x hx).below HB1.out, fun x hx bx off e => fun e2 => by have := hlow x hx bx off e; omega⟩, hq6, hq5, keepBelow HB2.out HB1.out, ⟨by omega, by omega, by omega, by omega, by omega, by omega⟩, fun y hy bx off e => by have := hlow y hy bx off e; omega⟩
  have HBZ0 : Hid (0 < Bz) := by show _ < _; omega
  have HNE : Hid (∀ y ∈ L, ∀ bx off, y.A = some ⟨bx, off, none⟩ → bx ≠ gc) := fun y hy bx off e => by have := hlow y hy bx off e; omega
  have HCAP : Hid (L.length ≤ cap ∧ cap ≤ maxLen ∧ C.length ≤ cc ∧ cc ≤ maxLen) := ⟨hg3, hg4, hq3, hq4⟩
  clear hg1 hg2 hg5 hg6 hq1 hq2 hq5 hq6 hBz hlow hsz1 hsz2 hg2' hq2' HO HOC HB1 HB2
  go_wp2
  go_loopw [12, 36] (fun o i wr => ∃ (k : Nat) (R' : List Rb), k ≤ C.length ∧ i = .int .i64 k ∧ S6 w Bz g gc L C wr ∧ OwnE layRb 89 wr Bz o R' ∧ R' = (rowsB (L.map valB) C st).take k) (fun _ i _ => C.length - (intOf i).toNat)
  case atStart => exact ⟨0, [], Nat.zero_le _, rfl, HS6.out, OwnE.nil _ _ _ _, rfl⟩
  case round =>
    clear HS6
    obtain ⟨k, R', hk, rfl, hs6, hor, hmp⟩ := hrel
    obtain ⟨wi, rfl⟩ : ∃ wi : World, wi = wr := ⟨_, rfl⟩
    obtain ⟨sr, rfl⟩ : ∃ sr : Value, sr = u12 := ⟨_, rfl⟩
    have HS6 := hid hs6
    have HOR := hid hor
    have HMP := hid hmp
    clear hs6 hor hmp
    by_cases hlt : k < C.length
    · obtain ⟨x, hx⟩ : ∃ x, x = C[k] := ⟨_, rfl⟩
      have hxm : x ∈ C := by rw [hx]; exact List.getElem_mem hlt
      have hok := HCS.out x hxm
      obtain ⟨bj, oj, hA, hCj⟩ := (HC.out.below HS6.out.bel).at_ hC0
      subst hA
      obtain ⟨d0, d1, d2, d3, d4, d5, d6, d7, d8, d9⟩ := cells_ct hCj hlt hx
      have hbo := hCj.lt
      have hlt' : (k : Int) < (C.length : Int) := by omega
      have hkw : IntKind.i64.wrap ((k : Int) + 1) = (k : Int) + 1 := IntWalk.i64_in _ (by omega)
      obtain ⟨ka, hxa⟩ : ∃ ka : Nat, x.a = ka := ⟨x.a.toNat, by have := hok.1; omega⟩
      obtain ⟨kb, hxb⟩ : ∃ kb : Nat, x.b = kb := ⟨x.b.toNat, by have := hok.1; omega⟩
      have hka : ka < L.length := by have := hok.1; omega
      have hkb : kb < L.length := by have := hok.1; omega
      have hab : ka < kb := by have := hok.1; omega
      have HTK : Hid (R' ++ [((x.nx, x.ny), rowQ (L.map valB) st x)] = (rowsB (L.map valB) C st).take (k + 1)) := by
        show _ = _
        unfold rowsB at HMP ⊢
        rw [HMP.out, List.take_add_one, List.getElem?_map, List.getElem?_eq_getElem hlt, ← hx]
        rfl
      have HRL : Hid (R'.length ≤ 4096) := by
        have h9 := congrArg List.length HMP.out
        unfold rowsB at h9
        simp at h9
        show _ ≤ _
        omega
      obtain ⟨xa, HXA0⟩ : ∃ y, y = L[ka] := ⟨_, rfl⟩
      obtain ⟨xb, HXB0⟩ : ∃ y, y = L[kb] := ⟨_, rfl⟩
      have eA : (L.map valB)[ka]? = some (valB xa) := by rw [List.getElem?_map, List.getElem?_eq_getElem hka, HXA0]; rfl
      have eB : (L.map valB)[kb]? = some (valB xb) := by rw [List.getElem?_map, List.getElem?_eq_getElem hkb, HXB0]; rfl
      have HXA := hid HXA0
      have HXB := hid HXB0
      have hac : (ka : Int) < (L.length : Int) := by omega
      have hbc : (kb : Int) < (L.length : Int) := by omega
      obtain ⟨tx, htx⟩ : ∃ z, z = -x.ny := ⟨_, rfl⟩
      have hwn : IntKind.i64.wrap (-x.ny) = tx := by rw [htx]; have := hok.2.2.1; exact IntWalk.i64_in _ (by omega)
      obtain ⟨bd, hbd⟩ : ∃ z, z = min xa.b.rub xb.b.rub := ⟨_, rfl⟩
      have HBD := hid hbd
      obtain ⟨e1, he1⟩ : ∃ z, z = easeR xa.b x.px x.py x.nx x.ny := ⟨_, rfl⟩
      have HEA1 := hid (rease_calls xa.b xa.A xa.n xa.c x.px x.py x.nx x.ny)
      rw [← he1] at HEA1
      obtain ⟨e2, he2⟩ : ∃ z, z = easeR xb.b x.px x.py x.nx x.ny := ⟨_, rfl⟩
      have HEB1 := hid (rease_calls xb.b xb.A xb.n xb.c x.px x.py x.nx x.ny)
      rw [← he2] at HEB1
      obtain ⟨e3, he3⟩ : ∃ z, z = easeR xa.b x.px x.py tx x.nx := ⟨_, rfl⟩
      have HEA2 := hid (rease_calls xa.b xa.A xa.n xa.c x.px x.py tx x.nx)
      rw [← he3] at HEA2
      obtain ⟨e4, he4⟩ : ∃ z, z = easeR xb.b x.px x.py tx x.nx := ⟨_, rfl⟩
      have HEB2 := hid (rease_calls xb.b xb.A xb.n xb.c x.px x.py tx x.nx)
      rw [← he4] at HEB2
      obtain ⟨ez, hez⟩ : ∃ z, z = addF e1 e2 := ⟨_, rfl⟩
      have HEZ1 := hid (fadd_calls e1 e2)
      rw [← hez] at HEZ1
      obtain ⟨sz, hsz⟩ : ∃ z, z = addF e3 e4 := ⟨_, rfl⟩
      have HEZ2 := hid (fadd_calls e3 e4)
      rw [← hsz] at HEZ2
      have hwd : IntKind.i64.wrap (x.dep - 512) = x.dep - 512 := by have := hok.2.2.2.1; exact IntWalk.i64_in _ (by omega)
      obtain ⟨dm, hdm⟩ : ∃ z, z = max 0 (x.dep - 512) := ⟨_, rfl⟩
      have HDM := hid hdm
      obtain ⟨m0, hm0⟩ : ∃ z, z = mulF dm 8192 := ⟨_, rfl⟩
      have HM0 : Hid (mulF dm 8192 = m0) := hm0.symm
      obtain ⟨l0, hl0⟩ : ∃ z, z = divF m0 st := ⟨_, rfl⟩
      have HOV0 := hid (rquot_calls m0 st)
      rw [← hl0] at HOV0
      obtain ⟨vz, hvz⟩ : ∃ z, z = pulV xa.b xb.b x.px x.py x.px x.py x.nx x.ny := ⟨_, rfl⟩
      have HVZ : Hid (pulV xa.b xb.b x.px x.py x.px x.py x.nx x.ny = vz) := hvz.symm
      have hvb : -1099511627776 ≤ vz ∧ vz ≤ 1099511627776 := by rw [hvz]; exact dotF_bd _ _ _ _
      have hwv : IntKind.i64.wrap (-vz) = -vz := IntWalk.i64_in _ (by omega)
      obtain ⟨bm, hbm⟩ : ∃ z, z = max xa.b.bounce xb.b.bounce := ⟨_, rfl⟩
      have hrmx2 : ∀ (ts : Array TypeId) (t : TypeId) (w : World), (Builtin.max_ ts t #[.int .i64 xa.b.bounce, .int .i64 xb.b.bounce]).run Try.prog w = .ok (.int .i64 bm) w := fun ts t w => by
        rw [run_max_int2, show (if xb.b.bounce > xa.b.bounce then xb.b.bounce else xa.b.bounce) = bm by rw [hbm]; split <;> omega]
      obtain ⟨mv, hmv⟩ : ∃ z, z = mulF bm (-vz) := ⟨_, rfl⟩
      have HMUL := hid (fmul_calls bm (-vz))
      rw [← hmv] at HMUL
      obtain ⟨l1, hl1⟩ : ∃ z, z = addF l0 mv := ⟨_, rfl⟩
      have HADD := hid (fadd_calls l0 mv)
      rw [← hl1] at HADD
      have HLIFT : Hid ((vz < -32768 → (⟨tx, x.nx, ez, sz, l1, bd⟩ : Rw) = rowQ (L.map valB) st x) ∧ (¬ vz < -32768 → (⟨tx, x.nx, ez, sz, l0, bd⟩ : Rw) = rowQ (L.map valB) st x)) := by
        have hrel : relV (L.map valB) x x.nx x.ny = vz := by unfold relV; rw [qB_at hxa eA, qB_at hxb eB, hvz]; rfl
        have hE1 : relE (L.map valB) x x.nx x.ny = ez := by unfold relE pulE; rw [qB_at hxa eA, qB_at hxb eB, hez, he1, he2]; rfl
        have hE2 : relE (L.map valB) x (-x.ny) x.nx = sz := by unfold relE pulE; rw [qB_at hxa eA, qB_at hxb eB, hsz, he3, he4, htx]; rfl
        have hL0 : lift0 x st = l0 := by unfold lift0; rw [hl0, hm0, hdm]
        have hBD : min (qB (L.map valB) x.a).rub (qB (L.map valB) x.b).rub = bd := by rw [qB_at hxa eA, qB_at hxb eB, hbd]; rfl
        have hBM : max (qB (L.map valB) x.a).bounce (qB (L.map valB) x.b).bounce = bm := by rw [qB_at hxa eA, qB_at hxb eB, hbm]; rfl
        have hR : rowQ (L.map valB) st x = ⟨tx, x.nx, ez, sz, liftQ (L.map valB) x st, bd⟩ := by unfold rowQ; rw [hE1, hE2, hBD, htx]
        constructor
        · intro hv9
          have : liftQ (L.map valB) x st = l1 := by unfold liftQ; rw [hrel, if_pos hv9, hL0, hBM, hl1, hmv]
          rw [hR, this]
        · intro hv9
          have : liftQ (L.map valB) x st = l0 := by unfold liftQ; rw [hrel, if_neg hv9, hL0]
          rw [hR, this]
      obtain ⟨wj, hwj⟩ : ∃ wj, wj = wi.alloc (.cells #[.int .i64 x.a, .int .i64 x.b, .int .i64 x.id, .int .i64 x.px, .int .i64 x.py, .int .i64 x.nx, .int .i64 x.ny, .int .i64 x.dep, .int .i64 x.push, .int .i64 x.sli] 36) := ⟨_, rfl⟩
      obtain ⟨gx, hgx⟩ : ∃ gx, gx = wi.heap.size := ⟨_, rfl⟩
      have hbj : Below wi.heap.size wi wj := by rw [hwj]; go_grown
      have HS6j := hid (keepS6 hbj HS6.out)
      replace HOR := hid (HOR.out.below hbj)
      have HCG := hid (show Cg wj gx x by rw [hwj, hgx]; exact ⟨by go_simp, by go_simp, by go_simp, by go_simp, by go_simp, by go_simp, by go_simp, by go_simp, by go_simp, by go_simp⟩)
      have HBL := hid HS6j.out.bl
      have HBJ := hid (Below.refl wj.heap.size wj)
      have HBZ : Hid (Bz ≤ wj.heap.size) := HS6j.out.lt.2.2.2.2.2
      have HLO : Hid (∀ y ∈ L, ∀ bx off, y.A = some ⟨bx, off, none⟩ → bx < wj.heap.size) := fun y hy bx off e => Nat.lt_of_lt_of_le (HS6j.out.lo y hy bx off e) HBZ.out
      clear HS6
      have HS6 := HS6j
      have HXI := hid (And.intro hxa hxb)
      clear HS6j hbj hx hxm hok HXA0 HXB0 eA eB htx hbd he1 he2 he3 he4 hez hsz hdm hm0 hl0 hvz hvb hbm hmv hl1 hxa hxb HMP
      go_upto_region 6 with fail
      rw [← hwj, ← hgx]
      obtain ⟨hxa, hxb⟩ := HXI.out
      clear hwj hgx d0 d1 d2 d3 d4 d5 d6 d7 d8 d9 hbo hCj HXI
      refine (fun (hNr6 : Hid (?Tr6 : Prop)) => ?mainr6) (hid ?prfr6)
      case mainr6 =>
        refine wp_region_noPanic ?_
        refine wp_region_U (S := (S3 (fun w' => Bw wj w') (fun w' => Bw wj w'))) (T := (fun j => [0, 0, 0, 0, 0, 0, 0, 0, 0, 0, 0, 0, 1, 2].getD j 0)) (by kernel_rfl) (S3i0 ⟨HBJ.out.drew⟩) (fun hH => ?_)
        have hWr6 : Weaker (S3 (fun w' => Bw wj w') (fun w' => Bw wj w')) := weaker3 (fun _ q0 => q0)
        refine U_take 0 40 13 0 0 (v := ?vr6_1) rfl (by kernel_rfl) (by kernel_rfl) hWr6 (by kernel_rfl) (by kernel_rfl) (by kernel_rfl) (by kernel_rfl) (by kernel_rfl) (by kernel_rfl) (fun _ _ _ _ h => h) (by kernel_rfl) ?hyr6_1 (by omega) hH ?_
        case hyr6_1 => (intro w' hSw; clear hSw; go_simp; try (with_reducible rfl))
        simp only [List.set_cons_zero, List.set_cons_succ]
        refine U_take 1 41 12 0 0 (v := ?vr6_2) rfl (by kernel_rfl) (by kernel_rfl) hWr6 (by kernel_rfl) (by kernel_rfl) (by kernel_rfl) (by kernel_rfl) (by kernel_rfl) (by kernel_rfl) (fun _ _ _ _ h => h) (by kernel_rfl) ?hyr6_2 (by omega) hH ?_
        case hyr6_2 => (intro w' hSw; clear hSw; go_simp; try (with_reducible rfl))
        simp only [List.set_cons_zero, List.set_cons_succ]
        refine U_take 2 42 11 0 0 (v := ?vr6_3) rfl (by kernel_rfl) (by kernel_rfl) hWr6 (by kernel_rfl) (by kernel_rfl) (by kernel_rfl) (by kernel_rfl) (by kernel_rfl) (by kernel_rfl) (fun _ _ _ _ h => h) (by kernel_rfl) ?hyr6_3 (by omega) hH ?_
        case hyr6_3 => (intro w' hSw; replace hSw := S3o0 hSw; (try dsimp only at hSw); have q0 := hSw; obtain ⟨qa0_0, qa0_1, qa0_2, qa0_3, qa0_4, qa0_5, qa0_6, qa0_7, qa0_8, qa0_9⟩ := keepCg (q0).out HCG.out; obtain ⟨b0_0, b0_1, b0_2, b0_3, b0_4, b0_5, b0_6, b0_7, b0_8, b0_9, b0_10, b0_11, b0_12⟩ := cells_b0 (keepBL (q0).out HBL.out).cl hka HXA.out; obtain ⟨c0_0, c0_1, c0_2, c0_3, c0_4, c0_5, c0_6, c0_7, c0_8, c0_9, c0_10, c0_11, c0_12⟩ := cells_b0 (keepBL (q0).out HBL.out).cl hkb HXB.out; go_simp; try (with_reducible rfl))
        simp only [List.set_cons_zero, List.set_cons_succ]
        refine U_take 3 43 10 0 0 (v := ?vr6_4) rfl (by kernel_rfl) (by kernel_rfl) hWr6 (by kernel_rfl) (by kernel_rfl) (by kernel_rfl) (by kernel_rfl) (by kernel_rfl) (by kernel_rfl) (fun _ _ _ _ h => h) (by kernel_rfl) ?hyr6_4 (by omega) hH ?_
        case hyr6_4 => (intro w' hSw; clear hSw; go_simp; try (with_reducible rfl))
        simp only [List.set_cons_zero, List.set_cons_succ]
        refine U_take 4 44 9 0 0 (v := ?vr6_5) rfl (by kernel_rfl) (by kernel_rfl) hWr6 (by kernel_rfl) (by kernel_rfl) (by kernel_rfl) (by kernel_rfl) (by kernel_rfl) (by kernel_rfl) (fun _ _ _ _ h => h) (by kernel_rfl) ?hyr6_5 (by omega) hH ?_
        case hyr6_5 => (intro w' hSw; replace hSw := S3o0 hSw; (try dsimp only at hSw); have q0 := hSw; obtain ⟨qa0_0, qa0_1, qa0_2, qa0_3, qa0_4, qa0_5, qa0_6, qa0_7, qa0_8, qa0_9⟩ := keepCg (q0).out HCG.out; obtain ⟨b0_0, b0_1, b0_2, b0_3, b0_4, b0_5, b0_6, b0_7, b0_8, b0_9, b0_10, b0_11, b0_12⟩ := cells_b0 (keepBL (q0).out HBL.out).cl hka HXA.out; obtain ⟨c0_0, c0_1, c0_2, c0_3, c0_4, c0_5, c0_6, c0_7, c0_8, c0_9, c0_10, c0_11, c0_12⟩ := cells_b0 (keepBL (q0).out HBL.out).cl hkb HXB.out; go_simp; try (with_reducible rfl))
        simp only [List.set_cons_zero, List.set_cons_succ]
        refine U_take 5 45 8 1 0 (v := ?vr6_6) rfl (by kernel_rfl) (by kernel_rfl) hWr6 (by kernel_rfl) (by kernel_rfl) (by kernel_rfl) (by kernel_rfl) (by kernel_rfl) (by kernel_rfl) (fun _ _ _ _ h => h) (by kernel_rfl) ?hyr6_6 (by omega) hH ?_
        case hyr6_6 => (intro w' hSw; clear hSw; go_simp; try (with_reducible rfl))
        simp only [List.set_cons_zero, List.set_cons_succ]
        refine U_take 6 46 7 1 0 (v := ?vr6_7) rfl (by kernel_rfl) (by kernel_rfl) hWr6 (by kernel_rfl) (by kernel_rfl) (by kernel_rfl) (by kernel_rfl) (by kernel_rfl) (by kernel_rfl) (fun _ _ _ _ h => h) (by kernel_rfl) ?hyr6_7 (by omega) hH ?_
        case hyr6_7 => (intro w' hSw; clear hSw; go_simp; try (with_reducible rfl))
        simp only [List.set_cons_zero, List.set_cons_succ]
        refine U_take 7 47 6 1 0 (v := ?vr6_8) rfl (by kernel_rfl) (by kernel_rfl) hWr6 (by kernel_rfl) (by kernel_rfl) (by kernel_rfl) (by kernel_rfl) (by kernel_rfl) (by kernel_rfl) (fun _ _ _ _ h => h) (by kernel_rfl) ?hyr6_8 (by omega) hH ?_
        case hyr6_8 => (intro w' hSw; replace hSw := S3o1 hSw; (try dsimp only at hSw); have q0 := hSw; obtain ⟨qa0_0, qa0_1, qa0_2, qa0_3, qa0_4, qa0_5, qa0_6, qa0_7, qa0_8, qa0_9⟩ := keepCg (q0).out HCG.out; obtain ⟨b0_0, b0_1, b0_2, b0_3, b0_4, b0_5, b0_6, b0_7, b0_8, b0_9, b0_10, b0_11, b0_12⟩ := cells_b0 (keepBL (q0).out HBL.out).cl hka HXA.out; obtain ⟨c0_0, c0_1, c0_2, c0_3, c0_4, c0_5, c0_6, c0_7, c0_8, c0_9, c0_10, c0_11, c0_12⟩ := cells_b0 (keepBL (q0).out HBL.out).cl hkb HXB.out; go_simp; try (with_reducible rfl))
        simp only [List.set_cons_zero, List.set_cons_succ]
        refine U_take 8 48 5 1 0 (v := ?vr6_9) rfl (by kernel_rfl) (by kernel_rfl) hWr6 (by kernel_rfl) (by kernel_rfl) (by kernel_rfl) (by kernel_rfl) (by kernel_rfl) (by kernel_rfl) (fun _ _ _ _ h => h) (by kernel_rfl) ?hyr6_9 (by omega) hH ?_
        case hyr6_9 => (intro w' hSw; clear hSw; go_simp; try (with_reducible rfl))
        simp only [List.set_cons_zero, List.set_cons_succ]
        refine U_take 9 49 4 1 0 (v := ?vr6_10) rfl (by kernel_rfl) (by kernel_rfl) hWr6 (by kernel_rfl) (by kernel_rfl) (by kernel_rfl) (by kernel_rfl) (by kernel_rfl) (by kernel_rfl) (fun _ _ _ _ h => h) (by kernel_rfl) ?hyr6_10 (by omega) hH ?_
        case hyr6_10 => (intro w' hSw; replace hSw := S3o1 hSw; (try dsimp only at hSw); have q0 := hSw; obtain ⟨qa0_0, qa0_1, qa0_2, qa0_3, qa0_4, qa0_5, qa0_6, qa0_7, qa0_8, qa0_9⟩ := keepCg (q0).out HCG.out; obtain ⟨b0_0, b0_1, b0_2, b0_3, b0_4, b0_5, b0_6, b0_7, b0_8, b0_9, b0_10, b0_11, b0_12⟩ := cells_b0 (keepBL (q0).out HBL.out).cl hka HXA.out; obtain ⟨c0_0, c0_1, c0_2, c0_3, c0_4, c0_5, c0_6, c0_7, c0_8, c0_9, c0_10, c0_11, c0_12⟩ := cells_b0 (keepBL (q0).out HBL.out).cl hkb HXB.out; go_simp; try (with_reducible rfl))
        simp only [List.set_cons_zero, List.set_cons_succ]
        refine wpAnyU_ready (rs := [10, 11]) (by kernel_rfl) (by simp) ?_
        refine AllReadyU.cons 0 (by kernel_rfl) (o := _) rfl (fun K hK => ?_) ?_
        · try clear hb
          have hG := hH
          replace hG := S3o0 hG; (try dsimp only at hG); have q0 := hG
          go_simp
          refine hK.out _ _ ?hsr6_11 (fun hH2 => ?hrr6_11)
          case hsr6_11 => exact S3i0 (by have hG := hH; replace hG := S3o0 hG; (try dsimp only at hG); have q0 := hG; exact ⟨q0.out.alloc q0.out.size _⟩)
          clear hK K hH
          have hH := hH2
          clear hH2
          try simp only [Act.put, List.setIfInBounds_toArray, List.set_cons_zero, List.set_cons_succ]
          have hT : BdZ ((wj.alloc (.cells #[.int .i64 0, .int .i64 0, .int .i64 0, .int .i64 0, .int .i64 0, .int .i64 0, .int .i64 0, .int .i64 0, .int .i64 0, .int .i64 0, .slice none 0 0, .bool false, .int .i64 0] 68)).drew) wj.heap.size := BdZ.drew (by have := BdAt.here wj bd0 none 0 0 68; simp only [bd0] at this; exact BdZ.of this)
          obtain ⟨gT, hgT⟩ : ∃ g, g = wj.heap.size := ⟨_, rfl⟩
          have hlT : wj.heap.size ≤ gT := by rw [hgT]; have h9 := q0.out.size; exact h9
          rw [← hgT] at hT
          try rw [← hgT]
          clear hgT q0
          generalize (wj.alloc (.cells #[.int .i64 0, .int .i64 0, .int .i64 0, .int .i64 0, .int .i64 0, .int .i64 0, .int .i64 0, .int .i64 0, .int .i64 0, .int .i64 0, .slice none 0 0, .bool false, .int .i64 0] 68)).drew = wx10 at *
          refine wpAnyU_ready (rs := [11]) (by kernel_rfl) (by simp) ?_
          refine AllReadyU.cons 0 (by kernel_rfl) (o := _) rfl (fun K hK => ?_) AllReadyU.nil
          try clear hb
          have hG := hH
          replace hG := S3o0 hG; (try dsimp only at hG); have q0 := hG
          have hZT := BdZ.lt hT
          go_simp
          refine hK.out _ _ ?hsr6_12 (fun hH2 => ?hrr6_12)
          case hsr6_12 => exact S3i0 (by have hG := hH; replace hG := S3o0 hG; (try dsimp only at hG); have q0 := hG; exact ⟨q0.out.alloc q0.out.size _⟩)
          clear hK K hH
          have hH := hH2
          clear hH2
          try simp only [Act.put, List.setIfInBounds_toArray, List.set_cons_zero, List.set_cons_succ]
          have hU : BdZ (wx10.alloc (.cells #[.int .i64 0, .int .i64 0, .int .i64 0, .int .i64 0, .int .i64 0, .int .i64 0, .int .i64 0, .int .i64 0, .int .i64 0, .int .i64 0, .slice none 0 0, .bool false, .int .i64 0] 68)) wx10.heap.size := by have := BdAt.here wx10 bd0 none 0 0 68; simp only [bd0] at this; exact BdZ.of this
          replace hT := keepBdZ ((Below.refl _ _).alloc (Nat.le_refl _) (.cells #[.int .i64 0, .int .i64 0, .int .i64 0, .int .i64 0, .int .i64 0, .int .i64 0, .int .i64 0, .int .i64 0, .int .i64 0, .int .i64 0, .slice none 0 0, .bool false, .int .i64 0] 68)) hT
          obtain ⟨gU, hgU⟩ : ∃ g, g = wx10.heap.size := ⟨_, rfl⟩
          have hlU : wj.heap.size ≤ gU ∧ gT < gU := by rw [hgU]; have h9 := q0.out.size; exact ⟨h9, hZT⟩
          rw [← hgU] at hU
          try rw [← hgU]
          clear hgU q0
          generalize wx10.alloc (.cells #[.int .i64 0, .int .i64 0, .int .i64 0, .int .i64 0, .int .i64 0, .int .i64 0, .int .i64 0, .int .i64 0, .int .i64 0, .int .i64 0, .slice none 0 0, .bool false, .int .i64 0] 68) = wx11 at *
          refine wpAnyU_lst (l' := #[true, true, true, true, true, true, true, true, true, true, true, true, false, false]) (by kernel_rfl) ?_
          have hl2 : wj.heap.size ≤ gT ∧ wj.heap.size ≤ gU ∧ gT ≠ gU := by omega
          clear hlT hlU
          try clear hZT
          try clear hZU
          try clear hb
          revert hH
          revert hU; revert hT
          revert hl2
          revert gU; revert gT
          revert wx11
          exact hNr6.out
        refine AllReadyU.cons 0 (by kernel_rfl) (o := _) rfl (fun K hK => ?_) ?_
        · try clear hb
          have hG := hH
          replace hG := S3o0 hG; (try dsimp only at hG); have q0 := hG
          go_simp
          refine hK.out _ _ ?hsr6_15 (fun hH2 => ?hrr6_15)
          case hsr6_15 => exact S3i0 (by have hG := hH; replace hG := S3o0 hG; (try dsimp only at hG); have q0 := hG; exact ⟨q0.out.alloc q0.out.size _⟩)
          clear hK K hH
          have hH := hH2
          clear hH2
          try simp only [Act.put, List.setIfInBounds_toArray, List.set_cons_zero, List.set_cons_succ]
          have hU : BdZ ((wj.alloc (.cells #[.int .i64 0, .int .i64 0, .int .i64 0, .int .i64 0, .int .i64 0, .int .i64 0, .int .i64 0, .int .i64 0, .int .i64 0, .int .i64 0, .slice none 0 0, .bool false, .int .i64 0] 68)).drew) wj.heap.size := BdZ.drew (by have := BdAt.here wj bd0 none 0 0 68; simp only [bd0] at this; exact BdZ.of this)
          obtain ⟨gU, hgU⟩ : ∃ g, g = wj.heap.size := ⟨_, rfl⟩
          have hlU : wj.heap.size ≤ gU := by rw [hgU]; have h9 := q0.out.size; exact h9
          rw [← hgU] at hU
          try rw [← hgU]
          clear hgU q0
          generalize (wj.alloc (.cells #[.int .i64 0, .int .i64 0, .int .i64 0, .int .i64 0, .int .i64 0, .int .i64 0, .int .i64 0, .int .i64 0, .int .i64 0, .int .i64 0, .slice none 0 0, .bool false, .int .i64 0] 68)).drew = wx11 at *
          refine wpAnyU_ready (rs := [10]) (by kernel_rfl) (by simp) ?_
          refine AllReadyU.cons 0 (by kernel_rfl) (o := _) rfl (fun K hK => ?_) AllReadyU.nil
          try clear hb
          have hG := hH
          replace hG := S3o0 hG; (try dsimp only at hG); have q0 := hG
          have hZU := BdZ.lt hU
          go_simp
          refine hK.out _ _ ?hsr6_16 (fun hH2 => ?hrr6_16)
          case hsr6_16 => exact S3i0 (by have hG := hH; replace hG := S3o0 hG; (try dsimp only at hG); have q0 := hG; exact ⟨q0.out.alloc q0.out.size _⟩)
          clear hK K hH
          have hH := hH2
          clear hH2
          try simp only [Act.put, List.setIfInBounds_toArray, List.set_cons_zero, List.set_cons_succ]
          have hT : BdZ (wx11.alloc (.cells #[.int .i64 0, .int .i64 0, .int .i64 0, .int .i64 0, .int .i64 0, .int .i64 0, .int .i64 0, .int .i64 0, .int .i64 0, .int .i64 0, .slice none 0 0, .bool false, .int .i64 0] 68)) wx11.heap.size := by have := BdAt.here wx11 bd0 none 0 0 68; simp only [bd0] at this; exact BdZ.of this
          replace hU := keepBdZ ((Below.refl _ _).alloc (Nat.le_refl _) (.cells #[.int .i64 0, .int .i64 0, .int .i64 0, .int .i64 0, .int .i64 0, .int .i64 0, .int .i64 0, .int .i64 0, .int .i64 0, .int .i64 0, .slice none 0 0, .bool false, .int .i64 0] 68)) hU
          obtain ⟨gT, hgT⟩ : ∃ g, g = wx11.heap.size := ⟨_, rfl⟩
          have hlT : wj.heap.size ≤ gT ∧ gU < gT := by rw [hgT]; have h9 := q0.out.size; exact ⟨h9, hZU⟩
          rw [← hgT] at hT
          try rw [← hgT]
          clear hgT q0
          generalize wx11.alloc (.cells #[.int .i64 0, .int .i64 0, .int .i64 0, .int .i64 0, .int .i64 0, .int .i64 0, .int .i64 0, .int .i64 0, .int .i64 0, .int .i64 0, .slice none 0 0, .bool false, .int .i64 0] 68) = wx10 at *
          refine wpAnyU_lst (l' := #[true, true, true, true, true, true, true, true, true, true, true, true, false, false]) (by kernel_rfl) ?_
          have hl2 : wj.heap.size ≤ gT ∧ wj.heap.size ≤ gU ∧ gT ≠ gU := by omega
          clear hlT hlU
          try clear hZT
          try clear hZU
          try clear hb
          revert hH
          revert hU; revert hT
          revert hl2
          revert gU; revert gT
          revert wx10
          exact hNr6.out
        exact AllReadyU.nil
      case prfr6 =>
        intro wX gT gU hl2 hT hU hH
        have hWr6 : Weaker (S3 (fun w' => Bw wj w') (fun w' => Bw wj w')) := weaker3 (fun _ q0 => q0)
        refine wpAnyU_ready (rs := [12]) (by kernel_rfl) (by simp) ?_
        refine AllReadyU.cons 1 (by kernel_rfl) (o := _) rfl (fun K hK => ?_) AllReadyU.nil
        try clear hb
        have hG := hH
        replace hG := S3o0 hG; (try dsimp only at hG); have fq0 := hG
        have HBW := hid fq0.out
        have HT := hid hT
        have HU := hid hU
        obtain ⟨z0, z1, z2, z3, z4, z5, z6, z7, z8, z9, z10, z11, z12, y0, y1, y2, y3, y4, y5, y6, y7, y8, y9, y10, y11, y12⟩ := hT.all
        have yf := hT.free
        obtain ⟨t0, t1, t2, t3, t4, t5, t6, t7, t8, t9, t10, t11, t12, u0, u1, u2, u3, u4, u5, u6, u7, u8, u9, u10, u11, u12⟩ := hU.all
        have uf := hU.free
        have hneTU : ¬ gT = gU := hl2.2.2
        have hneUT : ¬ gU = gT := fun h => hl2.2.2 h.symm
        clear hG fq0
        go_simp
        refine hK.out _ _ ?hsr6_13 (fun hH2 => ?hrr6_13)
        case hsr6_13 => exact S3i1 (by have hh := below_setBd HBW.out hl2.1 xa.b xa.A xa.n xa.c; unfold Go.Proofs.Ytilncglnojjlaaa.setBd at hh; exact ⟨hh⟩)
        clear hK K hH
        have hH := hH2
        clear hH2
        try simp only [Act.put, List.setIfInBounds_toArray, List.set_cons_zero, List.set_cons_succ]
        refine wpAnyU_ready (rs := [13]) (by kernel_rfl) (by simp) ?_
        refine AllReadyU.cons 2 (by kernel_rfl) (o := _) rfl (fun K hK => ?_) AllReadyU.nil
        go_simp
        refine hK.out _ _ ?hsr6_14 (fun hH2 => ?hrr6_14)
        case hsr6_14 => exact S3i2
        clear hK K hH
        have hH := hH2
        clear hH2
        try simp only [Act.put, List.setIfInBounds_toArray, List.set_cons_zero, List.set_cons_succ]
        refine wpAnyU_done (by kernel_rfl) ?_ _ _
        refine NoPanic.normal ?_
        obtain ⟨w5, hw5⟩ : ∃ w5, w5 = setBd (setBd wX gT xa.b xa.A xa.n xa.c) gU xb.b xb.A xb.n xb.c := ⟨_, rfl⟩
        have HBW5 := hid (below_setBd (below_setBd HBW.out hl2.1 xa.b xa.A xa.n xa.c) hl2.2.1 xb.b xb.A xb.n xb.c)
        have HTA := hid (BdAt.setBd_offJ (setBd_at HT.out xa.b xa.A xa.n xa.c) (fun e => hneTU e.symm) xb.b xb.A xb.n xb.c)
        have HUB := hid (setBd_at (BdZ.setBd HU.out (g := gT) xa.b xa.A xa.n xa.c) xb.b xb.A xb.n xb.c)
        rw [← hw5] at HBW5 HTA HUB
        unfold setBd at hw5
        clear HBW HT HU z0 z1 z2 z3 z4 z5 z6 z7 z8 z9 z10 z11 z12 y0 y1 y2 y3 y4 y5 y6 y7 y8 y9 y10 y11 y12 t0 t1 t2 t3 t4 t5 t6 t7 t8 t9 t10 t11 t12 u0 u1 u2 u3 u4 u5 u6 u7 u8 u9 u10 u11 u12 yf uf
        have HBW := HBW5
        clear HBW5
        try clear hH
        go_upto_region 7 with fail
        rw [← hw5]
        clear hw5
        obtain ⟨e0, e1, e2, e3, e4, e5, e6, e7, e8, e9⟩ := keepCg HBW.out HCG.out
        obtain ⟨k0, k1, k2, k3, k4, k5, k6, k7, k8, k9, k10, k11, k12, kf⟩ := HTA.out
        obtain ⟨m0, m1, m2, m3, m4, m5, m6, m7, m8, m9, m10, m11, m12, mf⟩ := HUB.out
        obtain ⟨gr, hgr⟩ : ∃ gr, gr = w5.heap.size := ⟨_, rfl⟩
        obtain ⟨w7, hw7⟩ : ∃ w7, w7 = w5.alloc (.cells #[.int .i64 x.nx, .int .i64 x.ny, .int .i64 tx, .int .i64 x.nx, .int .i64 0, .int .i64 0, .int .i64 0, .int .i64 xa.b.rub] 89) := ⟨_, rfl⟩
        have hb7 : Below w5.heap.size w5 w7 := by rw [hw7]; go_grown
        have HR8 := hid (show R8 w7 gr x.nx x.ny tx x.nx 0 0 0 xa.b.rub by rw [hw7, hgr]; exact ⟨by go_simp, by go_simp, by go_simp, by go_simp, by go_simp, by go_simp, by go_simp, by go_simp, fun j => by go_simp⟩)
        have hlr : wj.heap.size ≤ gr ∧ gr ≠ gT ∧ gr ≠ gU := by have h1 := HBW.out.size; have h2 := BdAt.lt HTA.out; have h3 := BdAt.lt HUB.out; omega
        replace HBW := hid (keepBelow hb7 HBW.out)
        replace HTA := hid (keepBd hb7 HTA.out)
        replace HUB := hid (keepBd hb7 HUB.out)
        go_upto_region 8 with fail
        rw [← hw7, ← hgr]
        clear hw7 hgr hb7
        clear e0 e1 e2 e3 e4 e5 e6 e7 e8 e9 k0 k1 k2 k3 k4 k5 k6 k7 k8 k9 k10 k11 k12 kf m0 m1 m2 m3 m4 m5 m6 m7 m8 m9 m10 m11 m12 mf
        obtain ⟨k0, k1, k2, k3, k4, k5, k6, k7, k8, k9, k10, k11, k12, kf⟩ := HTA.out
        obtain ⟨m0', m1, m2, m3, m4, m5, m6, m7, m8, m9, m10, m11, m12, mf⟩ := HUB.out
        obtain ⟨rr0, rr1, rr2, rr3, rr4, rr5, rr6, rr7, rrf⟩ := HR8.out
        go_upto_if 67 with fail
        go_cut [18] from 37 to 139 (fun t wx_ => Below wj.heap.size wj wx_ ∧ BdAt wx_ gT xa.b xa.A xa.n xa.c ∧ BdAt wx_ gU xb.b xb.A xb.n xb.c ∧ R8 wx_ gr x.nx x.ny tx x.nx 0 0 0 bd)
        case first =>
          by_cases hrb : xb.b.rub < xa.b.rub
          · have hbd1 : bd = xb.b.rub := by rw [HBD.out]; omega
            obtain ⟨ws, hws⟩ : ∃ ws, ws = w7.setCell ⟨gr, 7, none⟩ (.int .i64 xb.b.rub) := ⟨_, rfl⟩
            replace HBW := hid (HBW.out.setCell (p := ⟨gr, 7, none⟩) (by show wj.heap.size ≤ gr; exact hlr.1) (.int .i64 xb.b.rub))
            replace HTA := hid (HTA.out.offJ (o := 7) (v := .int .i64 xb.b.rub) hlr.2.1)
            replace HUB := hid (HUB.out.offJ (o := 7) (v := .int .i64 xb.b.rub) hlr.2.2)
            replace HR8 := hid (HR8.out.s7 xb.b.rub)
            rw [← hws] at HBW HTA HUB HR8
            try clear hH
            rw [← hbd1] at HR8
            clear hbd1
            go_wp2_with fail
            rw [← hws]
            go_meet
            exact ⟨HBW.out, HTA.out, HUB.out, HR8.out⟩
          · have hbd1 : bd = xa.b.rub := by rw [HBD.out]; omega
            rw [← hbd1] at HR8
            clear hbd1
            go_wp2_with fail
            go_meet
            exact ⟨HBW.out, HTA.out, HUB.out, HR8.out⟩
        case rest =>
          obtain ⟨hc1, hc2, hc3, hc4⟩ := hcut
          obtain ⟨wz1, rfl⟩ : ∃ wz1 : World, wz1 = wc := ⟨_, rfl⟩
          clear HBW HTA HUB HR8
          have HBW := hid hc1
          have HTA := hid hc2
          have HUB := hid hc3
          have HR8 := hid hc4
          clear hc1 hc2 hc3 hc4
          clear k0 k1 k2 k3 k4 k5 k6 k7 k8 k9 k10 k11 k12 kf m0' m1 m2 m3 m4 m5 m6 m7 m8 m9 m10 m11 m12 mf
          clear rr0 rr1 rr2 rr3 rr4 rr5 rr6 rr7 rrf
          go_upto_region 10 with fail
          refine wp_region_noPanic ?_
          refine wp_region_U (S := (S2 (fun w' => Below wj.heap.size wj w' ∧ BdAt w' gT xa.b xa.A xa.n xa.c ∧ BdAt w' gU xb.b xb.A xb.n xb.c ∧ R8 w' gr x.nx x.ny tx x.nx 0 0 0 bd))) (T := (fun j => [0, 0, 0, 0, 0, 0, 0, 0, 0, 0, 0, 0, 0, 0, 0, 0, 0, 0, 0, 0, 0, 0, 0, 0, 0, 0, 0, 1, 0, 1].getD j 0)) (by kernel_rfl) (S2i0 ⟨HBW.out.drew, HTA.out.drew, HUB.out.drew, HR8.out.drew⟩) (fun hH => ?_)
          have hWr5 : Weaker (S2 (fun w' => Below wj.heap.size wj w' ∧ BdAt w' gT xa.b xa.A xa.n xa.c ∧ BdAt w' gU xb.b xb.A xb.n xb.c ∧ R8 w' gr x.nx x.ny tx x.nx 0 0 0 bd)) := weaker2 _
          refine U_take 0 71 29 0 0 (v := ?vr5_1) rfl (by kernel_rfl) (by kernel_rfl) hWr5 (by kernel_rfl) (by kernel_rfl) (by kernel_rfl) (by kernel_rfl) (by kernel_rfl) (by kernel_rfl) (fun _ _ _ _ h => h) (by kernel_rfl) ?hyr5_1 (by omega) hH ?_
          case hyr5_1 => (intro w' hSw; replace hSw := S2o0 hSw; (try dsimp only at hSw); have q0 := hSw.1; have q1 := hSw.2.1; have q2 := hSw.2.2.1; have q3 := hSw.2.2.2; obtain ⟨qa0_0, qa0_1, qa0_2, qa0_3, qa0_4, qa0_5, qa0_6, qa0_7, qa0_8, qa0_9⟩ := keepCg (q0) HCG.out; obtain ⟨b0_0, b0_1, b0_2, b0_3, b0_4, b0_5, b0_6, b0_7, b0_8, b0_9, b0_10, b0_11, b0_12⟩ := cells_b0 (keepBL (q0) HBL.out).cl hka HXA.out; obtain ⟨c0_0, c0_1, c0_2, c0_3, c0_4, c0_5, c0_6, c0_7, c0_8, c0_9, c0_10, c0_11, c0_12⟩ := cells_b0 (keepBL (q0) HBL.out).cl hkb HXB.out; obtain ⟨qa1_0, qa1_1, qa1_2, qa1_3, qa1_4, qa1_5, qa1_6, qa1_7, qa1_8, qa1_9, qa1_10, qa1_11, qa1_12, qa1_f⟩ := id q1; obtain ⟨qa2_0, qa2_1, qa2_2, qa2_3, qa2_4, qa2_5, qa2_6, qa2_7, qa2_8, qa2_9, qa2_10, qa2_11, qa2_12, qa2_f⟩ := id q2; obtain ⟨r3_0, r3_1, r3_2, r3_3, r3_4, r3_5, r3_6, r3_7, r3_f⟩ := id q3; go_simp; try (with_reducible rfl))
          simp only [List.set_cons_zero, List.set_cons_succ]
          refine U_take 1 72 28 0 0 (v := ?vr5_2) rfl (by kernel_rfl) (by kernel_rfl) hWr5 (by kernel_rfl) (by kernel_rfl) (by kernel_rfl) (by kernel_rfl) (by kernel_rfl) (by kernel_rfl) (fun _ _ _ _ h => h) (by kernel_rfl) ?hyr5_2 (by omega) hH ?_
          case hyr5_2 => (intro w' hSw; clear hSw; go_simp; try (with_reducible rfl))
          simp only [List.set_cons_zero, List.set_cons_succ]
          refine U_take 2 73 27 0 0 (v := ?vr5_3) rfl (by kernel_rfl) (by kernel_rfl) hWr5 (by kernel_rfl) (by kernel_rfl) (by kernel_rfl) (by kernel_rfl) (by kernel_rfl) (by kernel_rfl) (fun _ _ _ _ h => h) (by kernel_rfl) ?hyr5_3 (by omega) hH ?_
          case hyr5_3 => (intro w' hSw; replace hSw := S2o0 hSw; (try dsimp only at hSw); have q0 := hSw.1; have q1 := hSw.2.1; have q2 := hSw.2.2.1; have q3 := hSw.2.2.2; obtain ⟨qa0_0, qa0_1, qa0_2, qa0_3, qa0_4, qa0_5, qa0_6, qa0_7, qa0_8, qa0_9⟩ := keepCg (q0) HCG.out; obtain ⟨b0_0, b0_1, b0_2, b0_3, b0_4, b0_5, b0_6, b0_7, b0_8, b0_9, b0_10, b0_11, b0_12⟩ := cells_b0 (keepBL (q0) HBL.out).cl hka HXA.out; obtain ⟨c0_0, c0_1, c0_2, c0_3, c0_4, c0_5, c0_6, c0_7, c0_8, c0_9, c0_10, c0_11, c0_12⟩ := cells_b0 (keepBL (q0) HBL.out).cl hkb HXB.out; obtain ⟨qa1_0, qa1_1, qa1_2, qa1_3, qa1_4, qa1_5, qa1_6, qa1_7, qa1_8, qa1_9, qa1_10, qa1_11, qa1_12, qa1_f⟩ := id q1; obtain ⟨qa2_0, qa2_1, qa2_2, qa2_3, qa2_4, qa2_5, qa2_6, qa2_7, qa2_8, qa2_9, qa2_10, qa2_11, qa2_12, qa2_f⟩ := id q2; obtain ⟨r3_0, r3_1, r3_2, r3_3, r3_4, r3_5, r3_6, r3_7, r3_f⟩ := id q3; go_simp; try (with_reducible rfl))
          simp only [List.set_cons_zero, List.set_cons_succ]
          refine U_take 3 74 26 0 0 (v := ?vr5_4) rfl (by kernel_rfl) (by kernel_rfl) hWr5 (by kernel_rfl) (by kernel_rfl) (by kernel_rfl) (by kernel_rfl) (by kernel_rfl) (by kernel_rfl) (fun _ _ _ _ h => h) (by kernel_rfl) ?hyr5_4 (by omega) hH ?_
          case hyr5_4 => (intro w' hSw; clear hSw; go_simp; try (with_reducible rfl))
          simp only [List.set_cons_zero, List.set_cons_succ]
          refine U_take 4 75 25 0 0 (v := ?vr5_5) rfl (by kernel_rfl) (by kernel_rfl) hWr5 (by kernel_rfl) (by kernel_rfl) (by kernel_rfl) (by kernel_rfl) (by kernel_rfl) (by kernel_rfl) (fun _ _ _ _ h => h) (by kernel_rfl) ?hyr5_5 (by omega) hH ?_
          case hyr5_5 => (intro w' hSw; replace hSw := S2o0 hSw; (try dsimp only at hSw); have q0 := hSw.1; have q1 := hSw.2.1; have q2 := hSw.2.2.1; have q3 := hSw.2.2.2; obtain ⟨qa0_0, qa0_1, qa0_2, qa0_3, qa0_4, qa0_5, qa0_6, qa0_7, qa0_8, qa0_9⟩ := keepCg (q0) HCG.out; obtain ⟨b0_0, b0_1, b0_2, b0_3, b0_4, b0_5, b0_6, b0_7, b0_8, b0_9, b0_10, b0_11, b0_12⟩ := cells_b0 (keepBL (q0) HBL.out).cl hka HXA.out; obtain ⟨c0_0, c0_1, c0_2, c0_3, c0_4, c0_5, c0_6, c0_7, c0_8, c0_9, c0_10, c0_11, c0_12⟩ := cells_b0 (keepBL (q0) HBL.out).cl hkb HXB.out; obtain ⟨qa1_0, qa1_1, qa1_2, qa1_3, qa1_4, qa1_5, qa1_6, qa1_7, qa1_8, qa1_9, qa1_10, qa1_11, qa1_12, qa1_f⟩ := id q1; obtain ⟨qa2_0, qa2_1, qa2_2, qa2_3, qa2_4, qa2_5, qa2_6, qa2_7, qa2_8, qa2_9, qa2_10, qa2_11, qa2_12, qa2_f⟩ := id q2; obtain ⟨r3_0, r3_1, r3_2, r3_3, r3_4, r3_5, r3_6, r3_7, r3_f⟩ := id q3; go_simp; try (with_reducible rfl))
          simp only [List.set_cons_zero, List.set_cons_succ]
          refine U_take 6 77 24 0 0 (v := ?vr5_6) rfl (by kernel_rfl) (by kernel_rfl) hWr5 (by kernel_rfl) (by kernel_rfl) (by kernel_rfl) (by kernel_rfl) (by kernel_rfl) (by kernel_rfl) (fun _ _ _ _ h => h) (by kernel_rfl) ?hyr5_6 (by omega) hH ?_
          case hyr5_6 => (intro w' hSw; replace hSw := S2o0 hSw; (try dsimp only at hSw); have q0 := hSw.1; have q1 := hSw.2.1; have q2 := hSw.2.2.1; have q3 := hSw.2.2.2; obtain ⟨qa0_0, qa0_1, qa0_2, qa0_3, qa0_4, qa0_5, qa0_6, qa0_7, qa0_8, qa0_9⟩ := keepCg (q0) HCG.out; obtain ⟨b0_0, b0_1, b0_2, b0_3, b0_4, b0_5, b0_6, b0_7, b0_8, b0_9, b0_10, b0_11, b0_12⟩ := cells_b0 (keepBL (q0) HBL.out).cl hka HXA.out; obtain ⟨c0_0, c0_1, c0_2, c0_3, c0_4, c0_5, c0_6, c0_7, c0_8, c0_9, c0_10, c0_11, c0_12⟩ := cells_b0 (keepBL (q0) HBL.out).cl hkb HXB.out; obtain ⟨qa1_0, qa1_1, qa1_2, qa1_3, qa1_4, qa1_5, qa1_6, qa1_7, qa1_8, qa1_9, qa1_10, qa1_11, qa1_12, qa1_f⟩ := id q1; obtain ⟨qa2_0, qa2_1, qa2_2, qa2_3, qa2_4, qa2_5, qa2_6, qa2_7, qa2_8, qa2_9, qa2_10, qa2_11, qa2_12, qa2_f⟩ := id q2; obtain ⟨r3_0, r3_1, r3_2, r3_3, r3_4, r3_5, r3_6, r3_7, r3_f⟩ := id q3; go_simp; try (with_reducible rfl))
          simp only [List.set_cons_zero, List.set_cons_succ]
          refine U_take 7 78 23 0 0 (v := ?vr5_7) rfl (by kernel_rfl) (by kernel_rfl) hWr5 (by kernel_rfl) (by kernel_rfl) (by kernel_rfl) (by kernel_rfl) (by kernel_rfl) (by kernel_rfl) (fun _ _ _ _ h => h) (by kernel_rfl) ?hyr5_7 (by omega) hH ?_
          case hyr5_7 => (intro w' hSw; clear hSw; go_simp; try (with_reducible rfl))
          simp only [List.set_cons_zero, List.set_cons_succ]
          refine U_take 8 79 22 0 0 (v := ?vr5_8) rfl (by kernel_rfl) (by kernel_rfl) hWr5 (by kernel_rfl) (by kernel_rfl) (by kernel_rfl) (by kernel_rfl) (by kernel_rfl) (by kernel_rfl) (fun _ _ _ _ h => h) (by kernel_rfl) ?hyr5_8 (by omega) hH ?_
          case hyr5_8 => (intro w' hSw; replace hSw := S2o0 hSw; (try dsimp only at hSw); have q0 := hSw.1; have q1 := hSw.2.1; have q2 := hSw.2.2.1; have q3 := hSw.2.2.2; obtain ⟨qa0_0, qa0_1, qa0_2, qa0_3, qa0_4, qa0_5, qa0_6, qa0_7, qa0_8, qa0_9⟩ := keepCg (q0) HCG.out; obtain ⟨b0_0, b0_1, b0_2, b0_3, b0_4, b0_5, b0_6, b0_7, b0_8, b0_9, b0_10, b0_11, b0_12⟩ := cells_b0 (keepBL (q0) HBL.out).cl hka HXA.out; obtain ⟨c0_0, c0_1, c0_2, c0_3, c0_4, c0_5, c0_6, c0_7, c0_8, c0_9, c0_10, c0_11, c0_12⟩ := cells_b0 (keepBL (q0) HBL.out).cl hkb HXB.out; obtain ⟨qa1_0, qa1_1, qa1_2, qa1_3, qa1_4, qa1_5, qa1_6, qa1_7, qa1_8, qa1_9, qa1_10, qa1_11, qa1_12, qa1_f⟩ := id q1; obtain ⟨qa2_0, qa2_1, qa2_2, qa2_3, qa2_4, qa2_5, qa2_6, qa2_7, qa2_8, qa2_9, qa2_10, qa2_11, qa2_12, qa2_f⟩ := id q2; obtain ⟨r3_0, r3_1, r3_2, r3_3, r3_4, r3_5, r3_6, r3_7, r3_f⟩ := id q3; go_simp; try (with_reducible rfl))
          simp only [List.set_cons_zero, List.set_cons_succ]
          refine U_take 9 80 21 0 0 (v := ?vr5_9) rfl (by kernel_rfl) (by kernel_rfl) hWr5 (by kernel_rfl) (by kernel_rfl) (by kernel_rfl) (by kernel_rfl) (by kernel_rfl) (by kernel_rfl) (fun _ _ _ _ h => h) (by kernel_rfl) ?hyr5_9 (by omega) hH ?_
          case hyr5_9 => (intro w' hSw; clear hSw; go_simp; try (with_reducible rfl))
          simp only [List.set_cons_zero, List.set_cons_succ]
          refine U_take 10 81 20 0 0 (v := ?vr5_10) rfl (by kernel_rfl) (by kernel_rfl) hWr5 (by kernel_rfl) (by kernel_rfl) (by kernel_rfl) (by kernel_rfl) (by kernel_rfl) (by kernel_rfl) (fun _ _ _ _ h => h) (by kernel_rfl) ?hyr5_10 (by omega) hH ?_
          case hyr5_10 => (intro w' hSw; replace hSw := S2o0 hSw; (try dsimp only at hSw); have q0 := hSw.1; have q1 := hSw.2.1; have q2 := hSw.2.2.1; have q3 := hSw.2.2.2; obtain ⟨qa0_0, qa0_1, qa0_2, qa0_3, qa0_4, qa0_5, qa0_6, qa0_7, qa0_8, qa0_9⟩ := keepCg (q0) HCG.out; obtain ⟨b0_0, b0_1, b0_2, b0_3, b0_4, b0_5, b0_6, b0_7, b0_8, b0_9, b0_10, b0_11, b0_12⟩ := cells_b0 (keepBL (q0) HBL.out).cl hka HXA.out; obtain ⟨c0_0, c0_1, c0_2, c0_3, c0_4, c0_5, c0_6, c0_7, c0_8, c0_9, c0_10, c0_11, c0_12⟩ := cells_b0 (keepBL (q0) HBL.out).cl hkb HXB.out; obtain ⟨qa1_0, qa1_1, qa1_2, qa1_3, qa1_4, qa1_5, qa1_6, qa1_7, qa1_8, qa1_9, qa1_10, qa1_11, qa1_12, qa1_f⟩ := id q1; obtain ⟨qa2_0, qa2_1, qa2_2, qa2_3, qa2_4, qa2_5, qa2_6, qa2_7, qa2_8, qa2_9, qa2_10, qa2_11, qa2_12, qa2_f⟩ := id q2; obtain ⟨r3_0, r3_1, r3_2, r3_3, r3_4, r3_5, r3_6, r3_7, r3_f⟩ := id q3; go_simp; try (with_reducible rfl))
          simp only [List.set_cons_zero, List.set_cons_succ]
          refine U_take 13 84 19 0 0 (v := ?vr5_11) rfl (by kernel_rfl) (by kernel_rfl) hWr5 (by kernel_rfl) (by kernel_rfl) (by kernel_rfl) (by kernel_rfl) (by kernel_rfl) (by kernel_rfl) (fun _ _ _ _ h => h) (by kernel_rfl) ?hyr5_11 (by omega) hH ?_
          case hyr5_11 => (intro w' hSw; replace hSw := S2o0 hSw; (try dsimp only at hSw); have q0 := hSw.1; have q1 := hSw.2.1; have q2 := hSw.2.2.1; have q3 := hSw.2.2.2; obtain ⟨qa0_0, qa0_1, qa0_2, qa0_3, qa0_4, qa0_5, qa0_6, qa0_7, qa0_8, qa0_9⟩ := keepCg (q0) HCG.out; obtain ⟨b0_0, b0_1, b0_2, b0_3, b0_4, b0_5, b0_6, b0_7, b0_8, b0_9, b0_10, b0_11, b0_12⟩ := cells_b0 (keepBL (q0) HBL.out).cl hka HXA.out; obtain ⟨c0_0, c0_1, c0_2, c0_3, c0_4, c0_5, c0_6, c0_7, c0_8, c0_9, c0_10, c0_11, c0_12⟩ := cells_b0 (keepBL (q0) HBL.out).cl hkb HXB.out; obtain ⟨qa1_0, qa1_1, qa1_2, qa1_3, qa1_4, qa1_5, qa1_6, qa1_7, qa1_8, qa1_9, qa1_10, qa1_11, qa1_12, qa1_f⟩ := id q1; obtain ⟨qa2_0, qa2_1, qa2_2, qa2_3, qa2_4, qa2_5, qa2_6, qa2_7, qa2_8, qa2_9, qa2_10, qa2_11, qa2_12, qa2_f⟩ := id q2; obtain ⟨r3_0, r3_1, r3_2, r3_3, r3_4, r3_5, r3_6, r3_7, r3_f⟩ := id q3; go_simp; try (with_reducible rfl))
          simp only [List.set_cons_zero, List.set_cons_succ]
          refine U_take 14 85 18 0 0 (v := ?vr5_12) rfl (by kernel_rfl) (by kernel_rfl) hWr5 (by kernel_rfl) (by kernel_rfl) (by kernel_rfl) (by kernel_rfl) (by kernel_rfl) (by kernel_rfl) (fun _ _ _ _ h => h) (by kernel_rfl) ?hyr5_12 (by omega) hH ?_
          case hyr5_12 => (intro w' hSw; clear hSw; go_simp; try (with_reducible rfl))
          simp only [List.set_cons_zero, List.set_cons_succ]
          refine U_take 15 86 17 0 0 (v := ?vr5_13) rfl (by kernel_rfl) (by kernel_rfl) hWr5 (by kernel_rfl) (by kernel_rfl) (by kernel_rfl) (by kernel_rfl) (by kernel_rfl) (by kernel_rfl) (fun _ _ _ _ h => h) (by kernel_rfl) ?hyr5_13 (by omega) hH ?_
          case hyr5_13 => (intro w' hSw; replace hSw := S2o0 hSw; (try dsimp only at hSw); have q0 := hSw.1; have q1 := hSw.2.1; have q2 := hSw.2.2.1; have q3 := hSw.2.2.2; obtain ⟨qa0_0, qa0_1, qa0_2, qa0_3, qa0_4, qa0_5, qa0_6, qa0_7, qa0_8, qa0_9⟩ := keepCg (q0) HCG.out; obtain ⟨b0_0, b0_1, b0_2, b0_3, b0_4, b0_5, b0_6, b0_7, b0_8, b0_9, b0_10, b0_11, b0_12⟩ := cells_b0 (keepBL (q0) HBL.out).cl hka HXA.out; obtain ⟨c0_0, c0_1, c0_2, c0_3, c0_4, c0_5, c0_6, c0_7, c0_8, c0_9, c0_10, c0_11, c0_12⟩ := cells_b0 (keepBL (q0) HBL.out).cl hkb HXB.out; obtain ⟨qa1_0, qa1_1, qa1_2, qa1_3, qa1_4, qa1_5, qa1_6, qa1_7, qa1_8, qa1_9, qa1_10, qa1_11, qa1_12, qa1_f⟩ := id q1; obtain ⟨qa2_0, qa2_1, qa2_2, qa2_3, qa2_4, qa2_5, qa2_6, qa2_7, qa2_8, qa2_9, qa2_10, qa2_11, qa2_12, qa2_f⟩ := id q2; obtain ⟨r3_0, r3_1, r3_2, r3_3, r3_4, r3_5, r3_6, r3_7, r3_f⟩ := id q3; go_simp; try (with_reducible rfl))
          simp only [List.set_cons_zero, List.set_cons_succ]
          refine U_take 16 87 16 0 0 (v := ?vr5_14) rfl (by kernel_rfl) (by kernel_rfl) hWr5 (by kernel_rfl) (by kernel_rfl) (by kernel_rfl) (by kernel_rfl) (by kernel_rfl) (by kernel_rfl) (fun _ _ _ _ h => h) (by kernel_rfl) ?hyr5_14 (by omega) hH ?_
          case hyr5_14 => (intro w' hSw; clear hSw; go_simp; try (with_reducible rfl))
          simp only [List.set_cons_zero, List.set_cons_succ]
          refine U_take 17 88 15 0 0 (v := ?vr5_15) rfl (by kernel_rfl) (by kernel_rfl) hWr5 (by kernel_rfl) (by kernel_rfl) (by kernel_rfl) (by kernel_rfl) (by kernel_rfl) (by kernel_rfl) (fun _ _ _ _ h => h) (by kernel_rfl) ?hyr5_15 (by omega) hH ?_
          case hyr5_15 => (intro w' hSw; replace hSw := S2o0 hSw; (try dsimp only at hSw); have q0 := hSw.1; have q1 := hSw.2.1; have q2 := hSw.2.2.1; have q3 := hSw.2.2.2; obtain ⟨qa0_0, qa0_1, qa0_2, qa0_3, qa0_4, qa0_5, qa0_6, qa0_7, qa0_8, qa0_9⟩ := keepCg (q0) HCG.out; obtain ⟨b0_0, b0_1, b0_2, b0_3, b0_4, b0_5, b0_6, b0_7, b0_8, b0_9, b0_10, b0_11, b0_12⟩ := cells_b0 (keepBL (q0) HBL.out).cl hka HXA.out; obtain ⟨c0_0, c0_1, c0_2, c0_3, c0_4, c0_5, c0_6, c0_7, c0_8, c0_9, c0_10, c0_11, c0_12⟩ := cells_b0 (keepBL (q0) HBL.out).cl hkb HXB.out; obtain ⟨qa1_0, qa1_1, qa1_2, qa1_3, qa1_4, qa1_5, qa1_6, qa1_7, qa1_8, qa1_9, qa1_10, qa1_11, qa1_12, qa1_f⟩ := id q1; obtain ⟨qa2_0, qa2_1, qa2_2, qa2_3, qa2_4, qa2_5, qa2_6, qa2_7, qa2_8, qa2_9, qa2_10, qa2_11, qa2_12, qa2_f⟩ := id q2; obtain ⟨r3_0, r3_1, r3_2, r3_3, r3_4, r3_5, r3_6, r3_7, r3_f⟩ := id q3; go_simp; try (with_reducible rfl))
          simp only [List.set_cons_zero, List.set_cons_succ]
          refine U_take 19 90 14 0 0 (v := ?vr5_16) rfl (by kernel_rfl) (by kernel_rfl) hWr5 (by kernel_rfl) (by kernel_rfl) (by kernel_rfl) (by kernel_rfl) (by kernel_rfl) (by kernel_rfl) (fun _ _ _ _ h => h) (by kernel_rfl) ?hyr5_16 (by omega) hH ?_
          case hyr5_16 => (intro w' hSw; replace hSw := S2o0 hSw; (try dsimp only at hSw); have q0 := hSw.1; have q1 := hSw.2.1; have q2 := hSw.2.2.1; have q3 := hSw.2.2.2; obtain ⟨qa0_0, qa0_1, qa0_2, qa0_3, qa0_4, qa0_5, qa0_6, qa0_7, qa0_8, qa0_9⟩ := keepCg (q0) HCG.out; obtain ⟨b0_0, b0_1, b0_2, b0_3, b0_4, b0_5, b0_6, b0_7, b0_8, b0_9, b0_10, b0_11, b0_12⟩ := cells_b0 (keepBL (q0) HBL.out).cl hka HXA.out; obtain ⟨c0_0, c0_1, c0_2, c0_3, c0_4, c0_5, c0_6, c0_7, c0_8, c0_9, c0_10, c0_11, c0_12⟩ := cells_b0 (keepBL (q0) HBL.out).cl hkb HXB.out; obtain ⟨qa1_0, qa1_1, qa1_2, qa1_3, qa1_4, qa1_5, qa1_6, qa1_7, qa1_8, qa1_9, qa1_10, qa1_11, qa1_12, qa1_f⟩ := id q1; obtain ⟨qa2_0, qa2_1, qa2_2, qa2_3, qa2_4, qa2_5, qa2_6, qa2_7, qa2_8, qa2_9, qa2_10, qa2_11, qa2_12, qa2_f⟩ := id q2; obtain ⟨r3_0, r3_1, r3_2, r3_3, r3_4, r3_5, r3_6, r3_7, r3_f⟩ := id q3; go_simp; try (with_reducible rfl))
          simp only [List.set_cons_zero, List.set_cons_succ]
          refine U_take 20 91 13 0 0 (v := ?vr5_17) rfl (by kernel_rfl) (by kernel_rfl) hWr5 (by kernel_rfl) (by kernel_rfl) (by kernel_rfl) (by kernel_rfl) (by kernel_rfl) (by kernel_rfl) (fun _ _ _ _ h => h) (by kernel_rfl) ?hyr5_17 (by omega) hH ?_
          case hyr5_17 => (intro w' hSw; clear hSw; go_simp; try (with_reducible rfl))
          simp only [List.set_cons_zero, List.set_cons_succ]
          refine U_take 21 92 12 0 0 (v := ?vr5_18) rfl (by kernel_rfl) (by kernel_rfl) hWr5 (by kernel_rfl) (by kernel_rfl) (by kernel_rfl) (by kernel_rfl) (by kernel_rfl) (by kernel_rfl) (fun _ _ _ _ h => h) (by kernel_rfl) ?hyr5_18 (by omega) hH ?_
          case hyr5_18 => (intro w' hSw; replace hSw := S2o0 hSw; (try dsimp only at hSw); have q0 := hSw.1; have q1 := hSw.2.1; have q2 := hSw.2.2.1; have q3 := hSw.2.2.2; obtain ⟨qa0_0, qa0_1, qa0_2, qa0_3, qa0_4, qa0_5, qa0_6, qa0_7, qa0_8, qa0_9⟩ := keepCg (q0) HCG.out; obtain ⟨b0_0, b0_1, b0_2, b0_3, b0_4, b0_5, b0_6, b0_7, b0_8, b0_9, b0_10, b0_11, b0_12⟩ := cells_b0 (keepBL (q0) HBL.out).cl hka HXA.out; obtain ⟨c0_0, c0_1, c0_2, c0_3, c0_4, c0_5, c0_6, c0_7, c0_8, c0_9, c0_10, c0_11, c0_12⟩ := cells_b0 (keepBL (q0) HBL.out).cl hkb HXB.out; obtain ⟨qa1_0, qa1_1, qa1_2, qa1_3, qa1_4, qa1_5, qa1_6, qa1_7, qa1_8, qa1_9, qa1_10, qa1_11, qa1_12, qa1_f⟩ := id q1; obtain ⟨qa2_0, qa2_1, qa2_2, qa2_3, qa2_4, qa2_5, qa2_6, qa2_7, qa2_8, qa2_9, qa2_10, qa2_11, qa2_12, qa2_f⟩ := id q2; obtain ⟨r3_0, r3_1, r3_2, r3_3, r3_4, r3_5, r3_6, r3_7, r3_f⟩ := id q3; go_simp; try (with_reducible rfl))
          simp only [List.set_cons_zero, List.set_cons_succ]
          refine U_take 22 93 11 0 0 (v := ?vr5_19) rfl (by kernel_rfl) (by kernel_rfl) hWr5 (by kernel_rfl) (by kernel_rfl) (by kernel_rfl) (by kernel_rfl) (by kernel_rfl) (by kernel_rfl) (fun _ _ _ _ h => h) (by kernel_rfl) ?hyr5_19 (by omega) hH ?_
          case hyr5_19 => (intro w' hSw; clear hSw; go_simp; try (with_reducible rfl))
          simp only [List.set_cons_zero, List.set_cons_succ]
          refine U_take 23 94 10 0 0 (v := ?vr5_20) rfl (by kernel_rfl) (by kernel_rfl) hWr5 (by kernel_rfl) (by kernel_rfl) (by kernel_rfl) (by kernel_rfl) (by kernel_rfl) (by kernel_rfl) (fun _ _ _ _ h => h) (by kernel_rfl) ?hyr5_20 (by omega) hH ?_
          case hyr5_20 => (intro w' hSw; replace hSw := S2o0 hSw; (try dsimp only at hSw); have q0 := hSw.1; have q1 := hSw.2.1; have q2 := hSw.2.2.1; have q3 := hSw.2.2.2; obtain ⟨qa0_0, qa0_1, qa0_2, qa0_3, qa0_4, qa0_5, qa0_6, qa0_7, qa0_8, qa0_9⟩ := keepCg (q0) HCG.out; obtain ⟨b0_0, b0_1, b0_2, b0_3, b0_4, b0_5, b0_6, b0_7, b0_8, b0_9, b0_10, b0_11, b0_12⟩ := cells_b0 (keepBL (q0) HBL.out).cl hka HXA.out; obtain ⟨c0_0, c0_1, c0_2, c0_3, c0_4, c0_5, c0_6, c0_7, c0_8, c0_9, c0_10, c0_11, c0_12⟩ := cells_b0 (keepBL (q0) HBL.out).cl hkb HXB.out; obtain ⟨qa1_0, qa1_1, qa1_2, qa1_3, qa1_4, qa1_5, qa1_6, qa1_7, qa1_8, qa1_9, qa1_10, qa1_11, qa1_12, qa1_f⟩ := id q1; obtain ⟨qa2_0, qa2_1, qa2_2, qa2_3, qa2_4, qa2_5, qa2_6, qa2_7, qa2_8, qa2_9, qa2_10, qa2_11, qa2_12, qa2_f⟩ := id q2; obtain ⟨r3_0, r3_1, r3_2, r3_3, r3_4, r3_5, r3_6, r3_7, r3_f⟩ := id q3; go_simp; try (with_reducible rfl))
          simp only [List.set_cons_zero, List.set_cons_succ]
          refine wpAnyU_ready (rs := [5]) (by kernel_rfl) (by simp) ?_
          refine AllReadyU.cons 0 (by kernel_rfl) (o := _) rfl (fun K hK => ?_) AllReadyU.nil
          try clear hb
          refine step_callZ (HEA1.out _) _ _ rfl rfl (by kernel_rfl) (by kernel_rfl) (fun wn hb => ?_)
          refine hK.out _ _ ?hsr5_21 (fun hH2 => ?hrr5_21)
          case hsr5_21 => exact S2i0 (by have hG := hH; replace hG := S2o0 hG; (try dsimp only at hG); have q0 := hG.1; have q1 := hG.2.1; have q2 := hG.2.2.1; have q3 := hG.2.2.2; exact ⟨(fun hb h => keepBelow hb h) hb q0, keepBd hb q1, keepBd hb q2, keepR8 hb q3⟩)
          clear hK K hH
          have hH := hH2
          clear hH2
          try simp only [Act.put, List.getElem_toArray, List.getElem_cons_succ, List.getElem_cons_zero, List.setIfInBounds_toArray, List.set_cons_zero, List.set_cons_succ]
          refine wpAnyU_ready (rs := [11]) (by kernel_rfl) (by simp) ?_
          refine AllReadyU.cons 0 (by kernel_rfl) (o := _) rfl (fun K hK => ?_) AllReadyU.nil
          try clear hb
          refine step_callZ (HEB1.out _) _ _ rfl rfl (by kernel_rfl) (by kernel_rfl) (fun wn hb => ?_)
          refine hK.out _ _ ?hsr5_22 (fun hH2 => ?hrr5_22)
          case hsr5_22 => exact S2i0 (by have hG := hH; replace hG := S2o0 hG; (try dsimp only at hG); have q0 := hG.1; have q1 := hG.2.1; have q2 := hG.2.2.1; have q3 := hG.2.2.2; exact ⟨(fun hb h => keepBelow hb h) hb q0, keepBd hb q1, keepBd hb q2, keepR8 hb q3⟩)
          clear hK K hH
          have hH := hH2
          clear hH2
          try simp only [Act.put, List.getElem_toArray, List.getElem_cons_succ, List.getElem_cons_zero, List.setIfInBounds_toArray, List.set_cons_zero, List.set_cons_succ]
          refine wpAnyU_ready (rs := [12]) (by kernel_rfl) (by simp) ?_
          refine AllReadyU.cons 0 (by kernel_rfl) (o := _) rfl (fun K hK => ?_) AllReadyU.nil
          try clear hb
          refine step_callZ (HEZ1.out _) _ _ rfl rfl (by kernel_rfl) (by kernel_rfl) (fun wn hb => ?_)
          refine hK.out _ _ ?hsr5_23 (fun hH2 => ?hrr5_23)
          case hsr5_23 => exact S2i0 (by have hG := hH; replace hG := S2o0 hG; (try dsimp only at hG); have q0 := hG.1; have q1 := hG.2.1; have q2 := hG.2.2.1; have q3 := hG.2.2.2; exact ⟨(fun hb h => keepBelow hb h) hb q0, keepBd hb q1, keepBd hb q2, keepR8 hb q3⟩)
          clear hK K hH
          have hH := hH2
          clear hH2
          try simp only [Act.put, List.getElem_toArray, List.getElem_cons_succ, List.getElem_cons_zero, List.setIfInBounds_toArray, List.set_cons_zero, List.set_cons_succ]
          refine U_take 26 97 6 0 0 (v := ?vr5_24) rfl (by kernel_rfl) (by kernel_rfl) hWr5 (by kernel_rfl) (by kernel_rfl) (by kernel_rfl) (by kernel_rfl) (by kernel_rfl) (by kernel_rfl) (fun _ _ _ _ h => h) (by kernel_rfl) ?hyr5_24 (by omega) hH ?_
          case hyr5_24 => (intro w' hSw; clear hSw; go_simp; try (with_reducible rfl))
          simp only [List.set_cons_zero, List.set_cons_succ]
          refine wpAnyU_ready (rs := [18]) (by kernel_rfl) (by simp) ?_
          refine AllReadyU.cons 0 (by kernel_rfl) (o := _) rfl (fun K hK => ?_) AllReadyU.nil
          try clear hb
          refine step_callZ (HEA2.out _) _ _ rfl rfl (by kernel_rfl) (by kernel_rfl) (fun wn hb => ?_)
          refine hK.out _ _ ?hsr5_25 (fun hH2 => ?hrr5_25)
          case hsr5_25 => exact S2i0 (by have hG := hH; replace hG := S2o0 hG; (try dsimp only at hG); have q0 := hG.1; have q1 := hG.2.1; have q2 := hG.2.2.1; have q3 := hG.2.2.2; exact ⟨(fun hb h => keepBelow hb h) hb q0, keepBd hb q1, keepBd hb q2, keepR8 hb q3⟩)
          clear hK K hH
          have hH := hH2
          clear hH2
          try simp only [Act.put, List.getElem_toArray, List.getElem_cons_succ, List.getElem_cons_zero, List.setIfInBounds_toArray, List.set_cons_zero, List.set_cons_succ]
          refine wpAnyU_ready (rs := [24]) (by kernel_rfl) (by simp) ?_
          refine AllReadyU.cons 0 (by kernel_rfl) (o := _) rfl (fun K hK => ?_) AllReadyU.nil
          try clear hb
          refine step_callZ (HEB2.out _) _ _ rfl rfl (by kernel_rfl) (by kernel_rfl) (fun wn hb => ?_)
          refine hK.out _ _ ?hsr5_26 (fun hH2 => ?hrr5_26)
          case hsr5_26 => exact S2i0 (by have hG := hH; replace hG := S2o0 hG; (try dsimp only at hG); have q0 := hG.1; have q1 := hG.2.1; have q2 := hG.2.2.1; have q3 := hG.2.2.2; exact ⟨(fun hb h => keepBelow hb h) hb q0, keepBd hb q1, keepBd hb q2, keepR8 hb q3⟩)
          clear hK K hH
          have hH := hH2
          clear hH2
          try simp only [Act.put, List.getElem_toArray, List.getElem_cons_succ, List.getElem_cons_zero, List.setIfInBounds_toArray, List.set_cons_zero, List.set_cons_succ]
          refine wpAnyU_ready (rs := [25]) (by kernel_rfl) (by simp) ?_
          refine AllReadyU.cons 0 (by kernel_rfl) (o := _) rfl (fun K hK => ?_) AllReadyU.nil
          try clear hb
          refine step_callZ (HEZ2.out _) _ _ rfl rfl (by kernel_rfl) (by kernel_rfl) (fun wn hb => ?_)
          refine hK.out _ _ ?hsr5_27 (fun hH2 => ?hrr5_27)
          case hsr5_27 => exact S2i0 (by have hG := hH; replace hG := S2o0 hG; (try dsimp only at hG); have q0 := hG.1; have q1 := hG.2.1; have q2 := hG.2.2.1; have q3 := hG.2.2.2; exact ⟨(fun hb h => keepBelow hb h) hb q0, keepBd hb q1, keepBd hb q2, keepR8 hb q3⟩)
          clear hK K hH
          have hH := hH2
          clear hH2
          try simp only [Act.put, List.getElem_toArray, List.getElem_cons_succ, List.getElem_cons_zero, List.setIfInBounds_toArray, List.set_cons_zero, List.set_cons_succ]
          refine wpAnyU_ready (rs := [27]) (by kernel_rfl) (by simp) ?_
          refine AllReadyU.cons 1 (by kernel_rfl) (o := _) rfl (fun K hK => ?_) AllReadyU.nil
          try clear hb
          have hG := hH
          replace hG := S2o0 hG; (try dsimp only at hG); have fq0 := hG.1; have fq1 := hG.2.1; have fq2 := hG.2.2.1; have fq3 := hG.2.2.2
          replace HBW := hid fq0
          replace HTA := hid fq1
          replace HUB := hid fq2
          replace HR8 := hid fq3
          obtain ⟨rr0, rr1, rr2, rr3, rr4, rr5, rr6, rr7, rrf⟩ := fq3
          clear hG fq0 fq1 fq2
          go_simp
          refine hK.out _ _ ?hsr5_28 (fun hH2 => ?hrr5_28)
          case hsr5_28 => exact S2i1
          clear hK K hH
          have hH := hH2
          clear hH2
          try simp only [Act.put, List.setIfInBounds_toArray, List.set_cons_zero, List.set_cons_succ]
          refine U_take 28 98 1 1 1 (v := ?vr5_29) rfl (by kernel_rfl) (by kernel_rfl) hWr5 (by kernel_rfl) (by kernel_rfl) (by kernel_rfl) (by kernel_rfl) (by kernel_rfl) (by kernel_rfl) (fun _ _ _ _ h => h) (by kernel_rfl) ?hyr5_29 (by omega) hH ?_
          case hyr5_29 => (intro w' hSw; clear hSw; go_simp; try (with_reducible rfl))
          simp only [List.set_cons_zero, List.set_cons_succ]
          refine wpAnyU_ready (rs := [29]) (by kernel_rfl) (by simp) ?_
          refine AllReadyU.cons 1 (by kernel_rfl) (o := _) rfl (fun K hK => ?_) AllReadyU.nil
          go_simp
          refine hK.out _ _ ?hsr5_30 (fun hH2 => ?hrr5_30)
          case hsr5_30 => exact S2i1
          clear hK K hH
          have hH := hH2
          clear hH2
          try simp only [Act.put, List.setIfInBounds_toArray, List.set_cons_zero, List.set_cons_succ]
          refine wpAnyU_done (by kernel_rfl) ?_ _ _
          refine NoPanic.normal ?_
          obtain ⟨ws, hws⟩ : ∃ ws, ws = wn.setCell ⟨gr, 4, none⟩ (.int .i64 ez) := ⟨_, rfl⟩
          replace HBW := hid (HBW.out.setCell (p := ⟨gr, 4, none⟩) (by show wj.heap.size ≤ gr; exact hlr.1) (.int .i64 ez))
          replace HTA := hid (HTA.out.offJ (o := 4) (v := .int .i64 ez) hlr.2.1)
          replace HUB := hid (HUB.out.offJ (o := 4) (v := .int .i64 ez) hlr.2.2)
          replace HR8 := hid (HR8.out.s4 ez)
          rw [← hws] at HBW HTA HUB HR8
          try clear hH
          have hws4 := hws
          clear hws
          obtain ⟨wq, hwq⟩ : ∃ wq, wq = ws.setCell ⟨gr, 5, none⟩ (.int .i64 sz) := ⟨_, rfl⟩
          replace HBW := hid (HBW.out.setCell (p := ⟨gr, 5, none⟩) (by show wj.heap.size ≤ gr; exact hlr.1) (.int .i64 sz))
          replace HTA := hid (HTA.out.offJ (o := 5) (v := .int .i64 sz) hlr.2.1)
          replace HUB := hid (HUB.out.offJ (o := 5) (v := .int .i64 sz) hlr.2.2)
          replace HR8 := hid (HR8.out.s5 sz)
          rw [← hwq] at HBW HTA HUB HR8
          try clear hH
          go_upto_region 11 with fail
          rw [← hws4, ← hwq]
          clear hws4 hwq
          clear rr0 rr1 rr2 rr3 rr4 rr5 rr6 rr7 rrf
          obtain ⟨e0, e1, e2, e3, e4, e5, e6, e7, e8, e9⟩ := keepCg HBW.out HCG.out
          go_upto_if 103 with fail
          clear e0 e1 e2 e3 e4 e5 e6 e7 e8 e9
          go_cut [18] from 37 to 139 (fun t wx_ => t = .int .i64 dm ∧ Below wj.heap.size wj wx_ ∧ BdAt wx_ gT xa.b xa.A xa.n xa.c ∧ BdAt wx_ gU xb.b xb.A xb.n xb.c ∧ R8 wx_ gr x.nx x.ny tx x.nx ez sz 0 bd)
          case first =>
            by_cases ho : x.dep < 512
            · have hdz : dm = 0 := by rw [HDM.out]; omega
              have ho2 : x.dep - 512 < 0 := by omega
              have HDZ := hid hdz
              clear ho hdz
              go_wp2_with fail
              go_meet
              exact ⟨by rw [HDZ.out], HBW.out, HTA.out, HUB.out, HR8.out⟩
            · have hdz : dm = x.dep - 512 := by rw [HDM.out]; omega
              have ho2 : ¬ x.dep - 512 < 0 := by omega
              have HDZ := hid hdz
              clear ho hdz
              go_wp2_with fail
              go_meet
              exact ⟨by rw [HDZ.out], HBW.out, HTA.out, HUB.out, HR8.out⟩
          case rest =>
            obtain ⟨rfl, hc1, hc2, hc3, hc4⟩ := hcut
            obtain ⟨wz2, rfl⟩ : ∃ wz2 : World, wz2 = wc := ⟨_, rfl⟩
            clear HBW HTA HUB HR8
            have HBW := hid hc1
            have HTA := hid hc2
            have HUB := hid hc3
            have HR8 := hid hc4
            clear hc1 hc2 hc3 hc4
            have HMU := hid (fmul_calls dm 8192)
            rw [HM0.out] at HMU
            go_wp2_with fail
            refine (HMU.out _).mono ?_
            rintro e wn1 ⟨rfl, hb⟩
            replace HBW := hid (keepBelow hb HBW.out)
            replace HTA := hid (keepBd hb HTA.out)
            replace HUB := hid (keepBd hb HUB.out)
            replace HR8 := hid (keepR8 hb HR8.out)
            clear hb
            obtain ⟨rr0, rr1, rr2, rr3, rr4, rr5, rr6, rr7, rrf⟩ := HR8.out
            go_wp2_with fail
            refine (HOV0.out _).mono ?_
            rintro e wn2 ⟨rfl, hb⟩
            clear rr0 rr1 rr2 rr3 rr4 rr5 rr6 rr7 rrf
            replace HBW := hid (keepBelow hb HBW.out)
            replace HTA := hid (keepBd hb HTA.out)
            replace HUB := hid (keepBd hb HUB.out)
            replace HR8 := hid (keepR8 hb HR8.out)
            clear hb
            obtain ⟨rr0, rr1, rr2, rr3, rr4, rr5, rr6, rr7, rrf⟩ := HR8.out
            obtain ⟨ws, hws⟩ : ∃ ws, ws = wn2.setCell ⟨gr, 6, none⟩ (.int .i64 l0) := ⟨_, rfl⟩
            replace HBW := hid (HBW.out.setCell (p := ⟨gr, 6, none⟩) (by show wj.heap.size ≤ gr; exact hlr.1) (.int .i64 l0))
            replace HTA := hid (HTA.out.offJ (o := 6) (v := .int .i64 l0) hlr.2.1)
            replace HUB := hid (HUB.out.offJ (o := 6) (v := .int .i64 l0) hlr.2.2)
            replace HR8 := hid (HR8.out.s6 l0)
            rw [← hws] at HBW HTA HUB HR8
            try clear hH
            go_upto_region 15 with fail
            rw [← hws]
            clear hws
            clear rr0 rr1 rr2 rr3 rr4 rr5 rr6 rr7 rrf
            obtain ⟨rr0, rr1, rr2, rr3, rr4, rr5, rr6, rr7, rrf⟩ := HR8.out
            obtain ⟨e0, e1, e2, e3, e4, e5, e6, e7, e8, e9⟩ := keepCg HBW.out HCG.out
            have HAL := hid (along_calls cap g ka kb L x.px x.py x.px x.py x.nx x.ny ws (keepBL HBW.out HBL.out) (fun y hy bx off e => Nat.lt_of_lt_of_le (HLO.out y hy bx off e) HBW.out.size) hab hka hkb h64 xa xb HXA.out HXB.out)
            rw [HVZ.out] at HAL
            go_wp2_with fail
            refine HAL.out.mono ?_
            rintro e wn3 ⟨rfl, hb⟩
            clear rr0 rr1 rr2 rr3 rr4 rr5 rr6 rr7 rrf
            clear e0 e1 e2 e3 e4 e5 e6 e7 e8 e9 HAL
            replace HBW := hid (keepBelow hb HBW.out)
            replace HTA := hid (keepBd hb HTA.out)
            replace HUB := hid (keepBd hb HUB.out)
            replace HR8 := hid (keepR8 hb HR8.out)
            clear hb
            by_cases hv9 : vz < -32768
            · have hvv : vz < -32768 := hv9
              go_upto_region 17 with fail
              clear hv9
              refine wp_region_noPanic ?_
              refine wp_region_U (S := (S2 (fun w' => Below wj.heap.size wj w' ∧ BdAt w' gT xa.b xa.A xa.n xa.c ∧ BdAt w' gU xb.b xb.A xb.n xb.c ∧ R8 w' gr x.nx x.ny tx x.nx ez sz l0 bd))) (T := (fun j => [0, 0, 0, 0, 0, 0, 0, 0, 0, 0, 0, 0, 1].getD j 0)) (by kernel_rfl) (S2i0 ⟨HBW.out.drew, HTA.out.drew, HUB.out.drew, HR8.out.drew⟩) (fun hH => ?_)
              have hWr4 : Weaker (S2 (fun w' => Below wj.heap.size wj w' ∧ BdAt w' gT xa.b xa.A xa.n xa.c ∧ BdAt w' gU xb.b xb.A xb.n xb.c ∧ R8 w' gr x.nx x.ny tx x.nx ez sz l0 bd)) := weaker2 _
              refine U_take 0 123 12 0 0 (v := ?vr4_1) rfl (by kernel_rfl) (by kernel_rfl) hWr4 (by kernel_rfl) (by kernel_rfl) (by kernel_rfl) (by kernel_rfl) (by kernel_rfl) (by kernel_rfl) (fun _ _ _ _ h => h) (by kernel_rfl) ?hyr4_1 (by omega) hH ?_
              case hyr4_1 => (intro w' hSw; clear hSw; go_simp; try (with_reducible rfl))
              simp only [List.set_cons_zero, List.set_cons_succ]
              refine U_take 1 124 11 0 0 (v := ?vr4_2) rfl (by kernel_rfl) (by kernel_rfl) hWr4 (by kernel_rfl) (by kernel_rfl) (by kernel_rfl) (by kernel_rfl) (by kernel_rfl) (by kernel_rfl) (fun _ _ _ _ h => h) (by kernel_rfl) ?hyr4_2 (by omega) hH ?_
              case hyr4_2 => (intro w' hSw; replace hSw := S2o0 hSw; (try dsimp only at hSw); have q0 := hSw.1; have q1 := hSw.2.1; have q2 := hSw.2.2.1; have q3 := hSw.2.2.2; obtain ⟨qa0_0, qa0_1, qa0_2, qa0_3, qa0_4, qa0_5, qa0_6, qa0_7, qa0_8, qa0_9⟩ := keepCg (q0) HCG.out; obtain ⟨b0_0, b0_1, b0_2, b0_3, b0_4, b0_5, b0_6, b0_7, b0_8, b0_9, b0_10, b0_11, b0_12⟩ := cells_b0 (keepBL (q0) HBL.out).cl hka HXA.out; obtain ⟨c0_0, c0_1, c0_2, c0_3, c0_4, c0_5, c0_6, c0_7, c0_8, c0_9, c0_10, c0_11, c0_12⟩ := cells_b0 (keepBL (q0) HBL.out).cl hkb HXB.out; obtain ⟨qa1_0, qa1_1, qa1_2, qa1_3, qa1_4, qa1_5, qa1_6, qa1_7, qa1_8, qa1_9, qa1_10, qa1_11, qa1_12, qa1_f⟩ := id q1; obtain ⟨qa2_0, qa2_1, qa2_2, qa2_3, qa2_4, qa2_5, qa2_6, qa2_7, qa2_8, qa2_9, qa2_10, qa2_11, qa2_12, qa2_f⟩ := id q2; obtain ⟨r3_0, r3_1, r3_2, r3_3, r3_4, r3_5, r3_6, r3_7, r3_f⟩ := id q3; go_simp; try (with_reducible rfl))
              simp only [List.set_cons_zero, List.set_cons_succ]
              refine U_take 2 125 10 0 0 (v := ?vr4_3) rfl (by kernel_rfl) (by kernel_rfl) hWr4 (by kernel_rfl) (by kernel_rfl) (by kernel_rfl) (by kernel_rfl) (by kernel_rfl) (by kernel_rfl) (fun _ _ _ _ h => h) (by kernel_rfl) ?hyr4_3 (by omega) hH ?_
              case hyr4_3 => (intro w' hSw; clear hSw; go_simp; try (with_reducible rfl))
              simp only [List.set_cons_zero, List.set_cons_succ]
              refine U_take 3 126 9 0 0 (v := ?vr4_4) rfl (by kernel_rfl) (by kernel_rfl) hWr4 (by kernel_rfl) (by kernel_rfl) (by kernel_rfl) (by kernel_rfl) (by kernel_rfl) (by kernel_rfl) (fun _ _ _ _ h => h) (by kernel_rfl) ?hyr4_4 (by omega) hH ?_
              case hyr4_4 => (intro w' hSw; replace hSw := S2o0 hSw; (try dsimp only at hSw); have q0 := hSw.1; have q1 := hSw.2.1; have q2 := hSw.2.2.1; have q3 := hSw.2.2.2; obtain ⟨qa0_0, qa0_1, qa0_2, qa0_3, qa0_4, qa0_5, qa0_6, qa0_7, qa0_8, qa0_9⟩ := keepCg (q0) HCG.out; obtain ⟨b0_0, b0_1, b0_2, b0_3, b0_4, b0_5, b0_6, b0_7, b0_8, b0_9, b0_10, b0_11, b0_12⟩ := cells_b0 (keepBL (q0) HBL.out).cl hka HXA.out; obtain ⟨c0_0, c0_1, c0_2, c0_3, c0_4, c0_5, c0_6, c0_7, c0_8, c0_9, c0_10, c0_11, c0_12⟩ := cells_b0 (keepBL (q0) HBL.out).cl hkb HXB.out; obtain ⟨qa1_0, qa1_1, qa1_2, qa1_3, qa1_4, qa1_5, qa1_6, qa1_7, qa1_8, qa1_9, qa1_10, qa1_11, qa1_12, qa1_f⟩ := id q1; obtain ⟨qa2_0, qa2_1, qa2_2, qa2_3, qa2_4, qa2_5, qa2_6, qa2_7, qa2_8, qa2_9, qa2_10, qa2_11, qa2_12, qa2_f⟩ := id q2; obtain ⟨r3_0, r3_1, r3_2, r3_3, r3_4, r3_5, r3_6, r3_7, r3_f⟩ := id q3; go_simp; try (with_reducible rfl))
              simp only [List.set_cons_zero, List.set_cons_succ]
              refine U_take 4 127 8 0 0 (v := ?vr4_5) rfl (by kernel_rfl) (by kernel_rfl) hWr4 (by kernel_rfl) (by kernel_rfl) (by kernel_rfl) (by kernel_rfl) (by kernel_rfl) (by kernel_rfl) (fun _ _ _ _ h => h) (by kernel_rfl) ?hyr4_5 (by omega) hH ?_
              case hyr4_5 => (intro w' hSw; clear hSw; go_simp; try (with_reducible rfl))
              simp only [List.set_cons_zero, List.set_cons_succ]
              refine U_take 5 128 7 0 0 (v := ?vr4_6) rfl (by kernel_rfl) (by kernel_rfl) hWr4 (by kernel_rfl) (by kernel_rfl) (by kernel_rfl) (by kernel_rfl) (by kernel_rfl) (by kernel_rfl) (fun _ _ _ _ h => h) (by kernel_rfl) ?hyr4_6 (by omega) hH ?_
              case hyr4_6 => (intro w' hSw; replace hSw := S2o0 hSw; (try dsimp only at hSw); have q0 := hSw.1; have q1 := hSw.2.1; have q2 := hSw.2.2.1; have q3 := hSw.2.2.2; obtain ⟨qa0_0, qa0_1, qa0_2, qa0_3, qa0_4, qa0_5, qa0_6, qa0_7, qa0_8, qa0_9⟩ := keepCg (q0) HCG.out; obtain ⟨b0_0, b0_1, b0_2, b0_3, b0_4, b0_5, b0_6, b0_7, b0_8, b0_9, b0_10, b0_11, b0_12⟩ := cells_b0 (keepBL (q0) HBL.out).cl hka HXA.out; obtain ⟨c0_0, c0_1, c0_2, c0_3, c0_4, c0_5, c0_6, c0_7, c0_8, c0_9, c0_10, c0_11, c0_12⟩ := cells_b0 (keepBL (q0) HBL.out).cl hkb HXB.out; obtain ⟨qa1_0, qa1_1, qa1_2, qa1_3, qa1_4, qa1_5, qa1_6, qa1_7, qa1_8, qa1_9, qa1_10, qa1_11, qa1_12, qa1_f⟩ := id q1; obtain ⟨qa2_0, qa2_1, qa2_2, qa2_3, qa2_4, qa2_5, qa2_6, qa2_7, qa2_8, qa2_9, qa2_10, qa2_11, qa2_12, qa2_f⟩ := id q2; obtain ⟨r3_0, r3_1, r3_2, r3_3, r3_4, r3_5, r3_6, r3_7, r3_f⟩ := id q3; go_simp; try (with_reducible rfl))
              simp only [List.set_cons_zero, List.set_cons_succ]
              refine U_take 6 129 6 0 0 (v := ?vr4_7) rfl (by kernel_rfl) (by kernel_rfl) hWr4 (by kernel_rfl) (by kernel_rfl) (by kernel_rfl) (by kernel_rfl) (by kernel_rfl) (by kernel_rfl) (fun _ _ _ _ h => h) (by kernel_rfl) ?hyr4_7 (by omega) hH ?_
              case hyr4_7 => (intro w' hSw; clear hSw; go_simp; try (with_reducible rfl))
              simp only [List.set_cons_zero, List.set_cons_succ]
              refine U_take 7 130 5 0 0 (v := ?vr4_8) rfl (by kernel_rfl) (by kernel_rfl) hWr4 (by kernel_rfl) (by kernel_rfl) (by kernel_rfl) (by kernel_rfl) (by kernel_rfl) (by kernel_rfl) (fun _ _ _ _ h => h) (by kernel_rfl) ?hyr4_8 (by omega) hH ?_
              case hyr4_8 => (intro w' hSw; clear hSw; go_simp; try (with_reducible rfl))
              simp only [List.set_cons_zero, List.set_cons_succ]
              refine U_take 8 131 4 0 0 (v := ?vr4_9) rfl (by kernel_rfl) (by kernel_rfl) hWr4 (by kernel_rfl) (by kernel_rfl) (by kernel_rfl) (by kernel_rfl) (by kernel_rfl) (by kernel_rfl) (fun _ _ _ _ h => h) (by kernel_rfl) ?hyr4_9 (by omega) hH ?_
              case hyr4_9 => (intro w' hSw; clear hSw; go_simp; try (with_reducible rfl))
              simp only [List.set_cons_zero, List.set_cons_succ]
              refine wpAnyU_ready (rs := [9]) (by kernel_rfl) (by simp) ?_
              refine AllReadyU.cons 0 (by kernel_rfl) (o := _) rfl (fun K hK => ?_) AllReadyU.nil
              try clear hb
              refine step_callZ (HMUL.out _) _ _ rfl rfl (by kernel_rfl) (by kernel_rfl) (fun wn hb => ?_)
              refine hK.out _ _ ?hsr4_10 (fun hH2 => ?hrr4_10)
              case hsr4_10 => exact S2i0 (by have hG := hH; replace hG := S2o0 hG; (try dsimp only at hG); have q0 := hG.1; have q1 := hG.2.1; have q2 := hG.2.2.1; have q3 := hG.2.2.2; exact ⟨(fun hb h => keepBelow hb h) hb q0, keepBd hb q1, keepBd hb q2, keepR8 hb q3⟩)
              clear hK K hH
              have hH := hH2
              clear hH2
              try simp only [Act.put, List.getElem_toArray, List.getElem_cons_succ, List.getElem_cons_zero, List.setIfInBounds_toArray, List.set_cons_zero, List.set_cons_succ]
              refine wpAnyU_ready (rs := [10]) (by kernel_rfl) (by simp) ?_
              refine AllReadyU.cons 0 (by kernel_rfl) (o := _) rfl (fun K hK => ?_) AllReadyU.nil
              try clear hb
              refine step_callZ (HADD.out _) _ _ rfl rfl (by kernel_rfl) (by kernel_rfl) (fun wn hb => ?_)
              refine hK.out _ _ ?hsr4_11 (fun hH2 => ?hrr4_11)
              case hsr4_11 => exact S2i0 (by have hG := hH; replace hG := S2o0 hG; (try dsimp only at hG); have q0 := hG.1; have q1 := hG.2.1; have q2 := hG.2.2.1; have q3 := hG.2.2.2; exact ⟨(fun hb h => keepBelow hb h) hb q0, keepBd hb q1, keepBd hb q2, keepR8 hb q3⟩)
              clear hK K hH
              have hH := hH2
              clear hH2
              try simp only [Act.put, List.getElem_toArray, List.getElem_cons_succ, List.getElem_cons_zero, List.setIfInBounds_toArray, List.set_cons_zero, List.set_cons_succ]
              refine U_take 11 134 1 0 0 (v := ?vr4_12) rfl (by kernel_rfl) (by kernel_rfl) hWr4 (by kernel_rfl) (by kernel_rfl) (by kernel_rfl) (by kernel_rfl) (by kernel_rfl) (by kernel_rfl) (fun _ _ _ _ h => h) (by kernel_rfl) ?hyr4_12 (by omega) hH ?_
              case hyr4_12 => (intro w' hSw; clear hSw; go_simp; try (with_reducible rfl))
              simp only [List.set_cons_zero, List.set_cons_succ]
              refine wpAnyU_ready (rs := [12]) (by kernel_rfl) (by simp) ?_
              refine AllReadyU.cons 1 (by kernel_rfl) (o := _) rfl (fun K hK => ?_) AllReadyU.nil
              try clear hb
              have hG := hH
              replace hG := S2o0 hG; (try dsimp only at hG); have fq0 := hG.1; have fq1 := hG.2.1; have fq2 := hG.2.2.1; have fq3 := hG.2.2.2
              replace HBW := hid fq0
              replace HTA := hid fq1
              replace HUB := hid fq2
              replace HR8 := hid fq3
              obtain ⟨rr0, rr1, rr2, rr3, rr4, rr5, rr6, rr7, rrf⟩ := fq3
              clear hG fq0 fq1 fq2
              go_simp
              refine hK.out _ _ ?hsr4_13 (fun hH2 => ?hrr4_13)
              case hsr4_13 => exact S2i1
              clear hK K hH
              have hH := hH2
              clear hH2
              try simp only [Act.put, List.setIfInBounds_toArray, List.set_cons_zero, List.set_cons_succ]
              refine wpAnyU_done (by kernel_rfl) ?_ _ _
              refine NoPanic.normal ?_
              obtain ⟨ws, hws⟩ : ∃ ws, ws = wn.setCell ⟨gr, 6, none⟩ (.int .i64 l1) := ⟨_, rfl⟩
              replace HBW := hid (HBW.out.setCell (p := ⟨gr, 6, none⟩) (by show wj.heap.size ≤ gr; exact hlr.1) (.int .i64 l1))
              replace HTA := hid (HTA.out.offJ (o := 6) (v := .int .i64 l1) hlr.2.1)
              replace HUB := hid (HUB.out.offJ (o := 6) (v := .int .i64 l1) hlr.2.2)
              replace HR8 := hid (HR8.out.s6 l1)
              rw [← hws] at HBW HTA HUB HR8
              try clear hH
              go_upto_region 18 with fail
              rw [← hws]
              clear hws
              clear rr0 rr1 rr2 rr3 rr4 rr5 rr6 rr7 rrf
              have HROWF := hid (HLIFT.out.1 (by omega))
              obtain ⟨rr0, rr1, rr2, rr3, rr4, rr5, rr6, rr7, rrf⟩ := HR8.out
              go_wp2_with (at_builtin; refine Hid.out ?_)
              refine hid ?_
              refine wpList_append_E tyRb rfl _ _ rfl Bz _ _ rfl (OwnE.alloc (HOR.out.below HBW.out) _) _ 0 1 1 [((x.nx, x.ny), ⟨tx, x.nx, ez, sz, l1, bd⟩)] rfl rfl (cells_rb_one (by go_simp) (by go_simp) (by go_simp) (by go_simp) (by go_simp) (by go_simp) (by go_simp) (by go_simp)) ?c4 ?c5 ?c6 ?c7
              case c4 => have := HRL.out; simp; omega
              case c5 => have := HRL.out; simp; omega
              case c6 => have h9 := HBW.out.size; have h8 := HBZ.out; simp; omega
              case c7 =>
                intro sr' w7 ho1 hg1 hat
                have HO7 := hid ho1
                have HB7 := hid (S6.grow HS6.out (Below.alloc HBW.out HBW.out.size _) (HOR.out.below HBW.out) hg1)
                clear ho1 hg1 hat rr0 rr1 rr2 rr3 rr4 rr5 rr6 rr7 rrf HBW HTA HUB HR8
                go_wp2
                go_roundw
                case rel => exact ⟨k + 1, R' ++ [((x.nx, x.ny), ⟨tx, x.nx, ez, sz, l1, bd⟩)], by omega, by go_num, HB7.out, HO7.out, by rw [HROWF.out]; exact HTK.out⟩
                case measure => simp [intOf] <;> omega
            have hvv : ¬ vz < -32768 := hv9
            go_upto_region 18 with fail
            clear hv9
            have HROWF := hid (HLIFT.out.2 (by omega))
            obtain ⟨rr0, rr1, rr2, rr3, rr4, rr5, rr6, rr7, rrf⟩ := HR8.out
            go_wp2_with (at_builtin; refine Hid.out ?_)
            refine hid ?_
            refine wpList_append_E tyRb rfl _ _ rfl Bz _ _ rfl (OwnE.alloc (HOR.out.below HBW.out) _) _ 0 1 1 [((x.nx, x.ny), ⟨tx, x.nx, ez, sz, l0, bd⟩)] rfl rfl (cells_rb_one (by go_simp) (by go_simp) (by go_simp) (by go_simp) (by go_simp) (by go_simp) (by go_simp) (by go_simp)) ?c4 ?c5 ?c6 ?c7
            case c4 => have := HRL.out; simp; omega
            case c5 => have := HRL.out; simp; omega
            case c6 => have h9 := HBW.out.size; have h8 := HBZ.out; simp; omega
            case c7 =>
              intro sr' w7 ho1 hg1 hat
              have HO7 := hid ho1
              have HB7 := hid (S6.grow HS6.out (Below.alloc HBW.out HBW.out.size _) (HOR.out.below HBW.out) hg1)
              clear ho1 hg1 hat rr0 rr1 rr2 rr3 rr4 rr5 rr6 rr7 rrf HBW HTA HUB HR8
              go_wp2
              go_roundw
              case rel => exact ⟨k + 1, R' ++ [((x.nx, x.ny), ⟨tx, x.nx, ez, sz, l0, bd⟩)], by omega, by go_num, HB7.out, HO7.out, by rw [HROWF.out]; exact HTK.out⟩
              case measure => simp [intOf] <;> omega
    · have hkn : k = C.length := by omega
      subst hkn
      have hRe : R' = rowsB (L.map valB) C st := by rw [HMP.out, List.take_of_length_le (by unfold rowsB; simp)]
      have hRl : R'.length = C.length := by rw [hRe]; unfold rowsB; simp
      have hRn : R' ≠ [] := fun e => by rw [e] at hRl; simp at hRl; omega
      obtain ⟨gq, cq, hsre, hcq⟩ : ∃ gq cq, sr = .slice (some ⟨gq, 0, none⟩) R'.length cq ∧ R'.length ≤ cq := by
        rcases HOR.out.form with ⟨h1, h2⟩ | ⟨g', cap', hv, h1, h2, h3, h4, h5, h6⟩
        · exact absurd h2 hRn
        · exact ⟨g', cap', hv, h3⟩
      subst hsre
      have HSZ := hid (S6.done HS6.out HOR.out hRn HNE.out)
      have HBW := hid HS6.out.bel
      have HLT9 := hid HS6.out.lt
      obtain ⟨R, hRR⟩ : ∃ R, R = R' := ⟨_, rfl⟩
      rw [← hRR] at HSZ hRl hcq hRe
      try rw [← hRR]
      have HRLN := hid hRl
      obtain ⟨wB, hwB⟩ : ∃ wB, wB = wi := ⟨_, rfl⟩
      rw [← hwB] at HSZ HBW
      rw [← hwB]
      have HBB : Hid (∀ w', Gr2 wB w' g gc → Below w.heap.size w w') := fun w' hg => by
        have hs := HBW.out
        have l := HLT9.out
        exact ⟨hg.os.trans hs.os, hg.tape.trans hs.tape, hg.output.trans hs.output, Nat.le_trans hs.size hg.size, fun k hk => (hg.block k (Nat.lt_of_lt_of_le hk hs.size) (by omega) (by omega)).trans (hs.block k hk)⟩
      obtain ⟨Q, hQ⟩ : ∃ Q, Q = L.map valB := ⟨_, rfl⟩
      have HQL := hid hQ
      obtain ⟨RQ, hRQ⟩ : ∃ RQ, RQ = rowsQ Q C st := ⟨_, rfl⟩
      have HRQ := hid hRQ
      have HROW : Hid (∀ (k : Nat) (hk : k < R.length) (x : Ct), C[k]? = some x → R[k] = ((x.nx, x.ny), rowQ Q st x)) := fun k hk x hx => by
        have h9 : R[k]? = some ((x.nx, x.ny), rowQ Q st x) := by rw [hRe]; unfold rowsB; rw [List.getElem?_map, hx, hQ]; rfl
        rw [List.getElem?_eq_getElem hk] at h9
        exact Option.some.inj h9
      have HBN : Hid (∀ r ∈ RQ, 0 ≤ r.bound) := fun r hr => by
        rw [hRQ] at hr
        obtain ⟨x, hx, rfl⟩ := List.mem_map.1 hr
        rw [hQ]
        exact row_bound HV.out (HCS.out x hx) st
      have HCQ : Hid (∀ x ∈ C, CtOk Q.length x) := fun x hx => by rw [hQ, List.length_map]; exact HCS.out x hx
      have HWL : Hid (∀ k, LikeL Q (warmTo Q C RQ k)) := fun k => warmTo_like HCQ.out k
      have HCL : Hid (0 < C.length) := hCl
      have HM0 : Hid (L.map valB = warmTo Q C RQ 0) := by show _ = _; rw [hQ]; rfl
      clear hRe hRl hRn hRR hwB hlt hk hQ hRQ HS6 HOR HMP HC HS hC0
      go_upto_region 20 with fail
      exact rsolve_tail A B c c' L C st rn w wB g gc gq cap cc cq R Q RQ h64 hc hrn hCl hLl hg3 hg4 hq3 hq4 hcq HV HCS HCAP HSZ HBB HQL HRQ HRLN HROW HBN HCQ HWL HCL HM0 _ rfl _ _ (by assumption) (by assumption) _ _ _ _ _ _ _ _ _ _ _ _ _ _ _ _ _ _ _ _ _ _ _ _ _ _ _ _ _ _ _ _ _ _ _ _ _ _ _ _ _ _ _ _ _ _ _ _ _ _ _ _ _ _ _ _ _ _ _ _ _ _ _ _ _ _ _ _ _ _ _ _ _ _ _ _ _ _ _ _ _ _ _ _ _ _ _ _ _ _ _ _ _ _ _ _ _ _ _ _ _ _ _ _ _ _ _ _ _ _ _ _ _ _ _ _
end
end Go.Proofs.Ytilncglnojjlaaa
