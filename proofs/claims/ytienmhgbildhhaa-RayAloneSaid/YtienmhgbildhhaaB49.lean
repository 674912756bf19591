/- Parts of a proof: contracts and laws. -/
import Derived.Test.YtienmhgbildhhaaB47
namespace Go.Proofs.Ytienmhgbildhhaa
section
set_option linter.unusedVariables false
set_option linter.unusedSimpArgs false
open Go.RowKit
set_option maxRecDepth 100000 in
set_option maxHeartbeats 8000000 in
theorem rayAlone_walk (A : Option Addr) (n c : Nat) (r : List Int) (x y u v : Int) (w : World) (hS : SlI w A n c r) :
    Calls Try.prog 5 #[.slice A n c, .int .i64 x, .int .i64 y, .int .i64 u, .int .i64 v] w (Ret (.bool true) w) := by
  have HSI := hid hS
  clear hS
  go_enter Try.func5, Try.ntmps5
  go_wp2_with fail
  refine (scene_calls A n c r _ HSI.out).mono ?_
  rintro e w1 ⟨sv, jv, L, J, gy, st, rfl, hok⟩
  obtain ⟨A1, n1, c1, rfl, hs1, -⟩ := hok.own.sl
  obtain ⟨A8, n8, c8, rfl, -, -⟩ := hok.jown.sl
  obtain rfl : n1 = L.length := hs1.len
  have HV : Hid (∀ x ∈ L, bodyE x.b x.l = 0) := fun x hx => madeB_ok (hok.co x hx).2.1 (hok.co x hx).2.2
  have HL := hid (show SlB w1 A1 L.length c1 L from ⟨hs1, fun x hx => (hok.co x hx).1⟩)
  have hln : L.length ≤ 5 := hok.len
  have HLN := hid hln
  have HBE : Hid (bodiesE L = 0) := bodiesE_ok (by omega) HV.out
  have hB := hok.bel
  have HB1 := hid hok.bel
  have hfld : ∀ w, (Instr.field 49 (.agg #[.slice A1 L.length c1, .slice A8 n8 c8, .slice none 0 0, .int .i64 0, .int .i64 gy, .int .i64 st]) 0).run Try.prog w = .ok (.slice A1 L.length c1) w := fun w => run_bodies _ _ _ _ _ _ w
  clear hok hs1 hln
  clear HB1
  go_wp2_with fail
  refine (place_calls x y _).mono ?_
  rintro e w3 ⟨rfl, hb⟩
  replace HL := hid (HL.out.below hb)
  replace hB := keepBelow hb hB
  clear hb
  have bx : -786432 ≤ x % 1572864 - 786432 ∧ x % 1572864 - 786432 ≤ 786432 := by omega
  have by_ : -786432 ≤ y % 1572864 - 786432 ∧ y % 1572864 - 786432 ≤ 786432 := by omega
  generalize x % 1572864 - 786432 = fx at *
  generalize y % 1572864 - 786432 = fy at *
  have bu : -786432 ≤ u % 1572864 - 786432 ∧ u % 1572864 - 786432 ≤ 786432 := by omega
  have bv : -786432 ≤ v % 1572864 - 786432 ∧ v % 1572864 - 786432 ≤ 786432 := by omega
  have HPLU := hid (place_calls u v)
  generalize u % 1572864 - 786432 = ux at *
  generalize v % 1572864 - 786432 = uy at *
  go_wp2_with fail
  refine (HPLU.out _).mono ?_
  rintro e w5 ⟨rfl, hb⟩
  replace HL := hid (HL.out.below hb)
  replace hB := keepBelow hb hB
  clear hb HPLU
  obtain ⟨w6, hw6⟩ : ∃ w6, w6 = (w5.alloc (.cells #[.int .i64 fx, .int .i64 fy] 24)).alloc (.cells #[.int .i64 ux, .int .i64 uy] 24) := ⟨_, rfl⟩
  obtain ⟨g, hg⟩ : ∃ g, g = w5.heap.size := ⟨_, rfl⟩
  have f0 : w6.cell? ⟨g, 0, none⟩ = some (.int .i64 fx) := by rw [hw6, hg]; go_simp
  have f1 : w6.cell? ⟨g, 1, none⟩ = some (.int .i64 fy) := by rw [hw6, hg]; go_simp
  have u0 : w6.cell? ⟨g + 1, 0, none⟩ = some (.int .i64 ux) := by rw [hw6, hg]; go_simp
  have u1 : w6.cell? ⟨g + 1, 1, none⟩ = some (.int .i64 uy) := by rw [hw6, hg]; go_simp
  replace HL : Hid (SlB w6 A1 L.length c1 L) := by show SlB _ _ _ _ _; rw [hw6]; exact (HL.out.alloc _).alloc _
  replace hB : Below w.heap.size w w6 := by rw [hw6]; exact (hB.alloc hB.size _).alloc (by have := hB.size; simp; omega) _
  have hw1 : withinB 65536000 fx fy = true := withinB_iff.2 (by omega)
  have hw2 : withinB 65536000 ux uy = true := withinB_iff.2 (by omega)
  have HCV : Hid (∀ L', bodiesE L' = 0 → castV L' (fx, fy) (ux, uy) = frV (castO L' (fx, fy) (ux, uy))) := fun L' h => by unfold castV; rw [if_neg (by simp [h]), if_neg (by simp [hw1, hw2])]
  have HLAWK : Hid (∀ j (hj : j < L.length), match castO L (fx, fy) (ux, uy), lineR (placeL L[j].b L[j].l) (fx, fy) (ux, uy) with
    | none, some _ => False
    | some (a, b), some s => b ≤ s ∧ (j < a → b < s) ∧ (j = a → s = b)
    | some (a, b), none => j ≠ a
    | none, none => True) := fun j hj => aloneLaw hj
  go_upto_region 3 with fail
  rw [← hw6, ← hg]
  clear hw6 hg
  go_wp2_with fail
  refine (cast_calls A1 L.length c1 L fx fy ux uy _ HL.out).mono ?_
  rintro e w7 ⟨rfl, hb⟩
  rw [HCV.out L HBE.out]
  replace HL := hid (HL.out.below hb)
  replace hB := keepBelow hb hB
  replace f0 := keepCell hb f0
  replace f1 := keepCell hb f1
  replace u0 := keepCell hb u0
  replace u1 := keepCell hb u1
  clear hb
  generalize castO L (fx, fy) (ux, uy) = o at *
  unfold frV
  obtain ⟨r1, hr1⟩ : ∃ r, r = frI o := ⟨_, rfl⟩
  obtain ⟨r2, hr2⟩ : ∃ r, r = beZ o := ⟨_, rfl⟩
  obtain ⟨r3, hr3⟩ : ∃ r, r = frE o := ⟨_, rfl⟩
  rw [← hr1, ← hr2, ← hr3]
  have HR := hid (And.intro hr1 (And.intro hr2 hr3))
  clear hr1 hr2 hr3
  go_wp2_with fail
  refine (casts_calls _).mono ?_
  rintro e w8 ⟨rfl, hb⟩
  replace HL := hid (HL.out.below hb)
  replace hB := keepBelow hb hB
  have HF := hid (fun (w' : World) (hb8 : Below w8.heap.size w8 w') => And.intro (And.intro (keepCell hb8 (keepCell hb f0)) (keepCell hb8 (keepCell hb f1))) (And.intro (keepCell hb8 (keepCell hb u0)) (keepCell hb8 (keepCell hb u1))))
  have hbig := HL.out.sl.big
  have hcap := HL.out.sl.cap
  clear hb f0 f1 u0 u1 hfld
  go_wp2
  go_loopw [43] (fun i wr => ∃ k : Nat, k ≤ L.length ∧ i = .int .i64 k ∧ Below w8.heap.size w8 wr) (fun i _ => L.length - (intOf i).toNat)
  case atStart => exact ⟨0, Nat.zero_le _, rfl, Below.refl _ _⟩
  case round =>
    obtain ⟨k, hk, rfl, hB8⟩ := hrel
    obtain ⟨wo, rfl⟩ : ∃ wo : World, wo = wr := ⟨_, rfl⟩
    by_cases hlt : k < L.length
    · have HSw := hid (HL.out.below hB8)
      obtain ⟨⟨f0, f1⟩, u0, u1⟩ := HF.out _ hB8
      have hgl := lt_of_cell f0
      have hgl1 := lt_of_cell u0
      obtain ⟨ba, off, hA, hC⟩ := HSw.out.sl.at_ (by intro h; subst h; simp at hlt)
      subst hA
      obtain ⟨x, hx⟩ : ∃ x, x = L[k] := ⟨_, rfl⟩
      have hxm : x ∈ L := by rw [hx]; exact List.getElem_mem hlt
      have HE1 : Hid (bodiesE [x] = 0) := by show _ = _; rw [bodiesE_one]; exact HV.out x hxm
      have HLAW := hid (HLAWK.out k hlt)
      rw [← hx] at HLAW
      obtain ⟨d0, d1, d2, d3, d4, d5, d6, d7, d8, d9, d10, d11, d12⟩ := cells_bd hC hlt hx
      have hbo := hC.lt
      have hlt' : (k : Int) < (L.length : Int) := by omega
      have hkw : IntKind.i64.wrap ((k : Int) + 1) = (k : Int) + 1 := IntWalk.i64_in _ (by omega)
      have HX := hid (HSw.out.co x hxm)
      obtain ⟨wd, hwd⟩ : ∃ wd, wd = (wo.alloc (.cells #[.int .i64 x.b.px, .int .i64 x.b.py, .int .i64 x.b.vx, .int .i64 x.b.vy, .int .i64 x.b.ang, .int .i64 x.b.spin, .int .i64 x.b.mass, .int .i64 x.b.iner, .int .i64 x.b.bounce, .int .i64 x.b.rub, .slice x.A x.n x.c, .bool x.b.asleep, .int .i64 x.b.calm] 27)).alloc (.cells #[.int .i64 x.b.px, .int .i64 x.b.py, .int .i64 x.b.vx, .int .i64 x.b.vy, .int .i64 x.b.ang, .int .i64 x.b.spin, .int .i64 x.b.mass, .int .i64 x.b.iner, .int .i64 x.b.bounce, .int .i64 x.b.rub, .slice x.A x.n x.c, .bool x.b.asleep, .int .i64 x.b.calm] 27) := ⟨_, rfl⟩
      have hB9 : Below w8.heap.size w8 wd := by rw [hwd]; exact (hB8.alloc hB8.size _).alloc (by have := hB8.size; simp; omega) _
      have HC1 : Hid (Calls Try.prog 28 #[.slice (some ⟨wo.heap.size + 1, 0, none⟩) 1 1, vecV fx fy, vecV ux uy] wd (Ret (frV (frStep 0 (lineR (placeL x.b x.l) (fx, fy) (ux, uy)) none)) wd)) := by
        have hk1 : BdAt wd (wo.heap.size + 1) x.b x.A x.n x.c := by rw [hwd]; have := BdAt.here (wo.alloc (.cells #[.int .i64 x.b.px, .int .i64 x.b.py, .int .i64 x.b.vx, .int .i64 x.b.vy, .int .i64 x.b.ang, .int .i64 x.b.spin, .int .i64 x.b.mass, .int .i64 x.b.iner, .int .i64 x.b.bounce, .int .i64 x.b.rub, .slice x.A x.n x.c, .bool x.b.asleep, .int .i64 x.b.calm] 27)) x.b x.A x.n x.c 27; simpa using this
        have hs1 : Sl wd x.A x.n x.c x.l := by rw [hwd]; exact (HX.out.alloc _).alloc _
        have := cast_calls (some ⟨wo.heap.size + 1, 0, none⟩) 1 1 [x] fx fy ux uy wd (SlB.one hk1 hs1)
        rw [HCV.out [x] HE1.out, castO_one] at this
        exact this
      clear hC hx hxm HSw HX HE1
      go_wp2_with fail
      rw [← hwd]
      clear hwd d0 d1 d2 d3 d4 d5 d6 d7 d8 d9 d10 d11 d12 hbo f0 f1 u0 u1 hB8
      refine HC1.out.mono ?_
      rintro e w9 ⟨rfl, hb⟩
      replace hB9 := keepBelow hb hB9
      clear hb HC1
      generalize lineR (placeL x.b x.l) (fx, fy) (ux, uy) = s at *
      unfold frV
      cases o with
      | none =>
        obtain ⟨rfl, rfl, rfl⟩ : r1 = 0 ∧ r2 = 0 ∧ r3 = 4 := HR.out
        cases s with
        | none =>
          simp only [frI, frE, beZ, frStep]
          go_wp2
          go_roundw
          case rel => exact ⟨k + 1, by omega, by go_num, hB9⟩
          case measure => simp [intOf] <;> omega
        | some s => exact absurd HLAW.out (fun h => h)
      | some ab =>
        obtain ⟨a, b⟩ := ab
        obtain ⟨rfl, rfl, rfl⟩ : r1 = (a : Int) ∧ r2 = b ∧ r3 = 0 := HR.out
        cases s with
        | none =>
          have hne : k ≠ a := HLAW.out
          have hne' : ((k : Int) != (a : Int)) = true := by simp; omega
          simp only [frI, frE, beZ, frStep]
          go_wp2
          go_roundw
          case rel => exact ⟨k + 1, by omega, by go_num, hB9⟩
          case measure => simp [intOf] <;> omega
        | some s =>
          obtain ⟨l1, l2, l3⟩ : r2 ≤ s ∧ (k < a → r2 < s) ∧ (k = a → s = r2) := HLAW.out
          simp only [frI, frE, beZ, frStep]
          have m1 : ¬ s < r2 := by omega
          by_cases hsb : s = r2
          · have m2 : ¬ (k : Int) < (a : Int) := fun h => by have := l2 (by omega); omega
            subst hsb
            clear l1 l2 l3
            by_cases hka : (k : Int) = (a : Int)
            · go_wp2
              go_roundw
              case rel => exact ⟨k + 1, by omega, by go_num, hB9⟩
              case measure => simp [intOf] <;> omega
            · go_wp2
              go_roundw
              case rel => exact ⟨k + 1, by omega, by go_num, hB9⟩
              case measure => simp [intOf] <;> omega
          · have m3 : ¬ (k : Int) = (a : Int) := fun h => hsb (l3 (by omega))
            clear l1 l2 l3
            go_wp2
            go_roundw
            case rel => exact ⟨k + 1, by omega, by go_num, hB9⟩
            case measure => simp [intOf] <;> omega
    · have hkn : k = L.length := by omega
      subst hkn
      have hB9 := keepBelow hB8 hB
      clear hB8 HF HLAWK HCV HL HV HBE
      cases o with
      | none =>
        obtain ⟨rfl, rfl, rfl⟩ : r1 = 0 ∧ r2 = 0 ∧ r3 = 4 := HR.out
        go_wp2
        go_returns
        exact ret_bool (by simp) hB9
      | some ab =>
        obtain ⟨a, b⟩ := ab
        obtain ⟨rfl, rfl, rfl⟩ : r1 = (a : Int) ∧ r2 = b ∧ r3 = 0 := HR.out
        go_wp2
        go_returns
        exact ret_bool (by simp) hB9
end
end Go.Proofs.Ytienmhgbildhhaa
