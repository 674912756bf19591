/- Parts of a proof: contracts and laws. -/
import Derived.Test.YtilncglnojjlaaaGreatG30
import Derived.Test.YtilncglnojjlaaaGreatG19
import Derived.Test.YtilncglnojjlaaaGreatG04
namespace Go.Proofs.YtilncglnojjlaaaGreat
section
set_option linter.unusedVariables false
set_option linter.unusedSimpArgs false
open Go.RowKit

def dpZ (a : Bd) (l : List V) (b : Bd) (m : List V) (s t : Int) : Int := tstD (atL a l s t) (atL b m s t)

def sinkC (dp : Int → Int) (f n : Int) : Nat → Nat → Nat
 | 0, k => k
 | g + 1, k => if f + 16384 < dp ((((k : Int) + 1) * 65536).tdiv n) then k else sinkC dp f n g (k + 1)
def sinkN (a : Bd) (l : List V) (b : Bd) (m : List V) (s : Int) : Int := (rbdZ a l b m s).tdiv 8192 + 1
def sinkO (a : Bd) (l : List V) (b : Bd) (m : List V) (s : Int) : Int := ((sinkC (dpZ a l b m s) (dpZ a l b m s 0) (sinkN a l b m s) (min (sinkN a l b m s) 1024).toNat 0 : Nat) * 65536 : Int).tdiv (sinkN a l b m s)
def sinkV (a : Bd) (l : List V) (b : Bd) (m : List V) (s : Int) : Value := if rbdE a l b m s ≠ 0 then .tuple #[.int .i64 0, .int .i64 (rbdE a l b m s)] else .tuple #[.int .i64 (sinkO a l b m s), .int .i64 0]
set_option maxRecDepth 100000 in
set_option maxHeartbeats 8000000 in
theorem depth_calls (a b : Bd) (A B : Option Addr) (n c m d : Nat) (l l2 : List V) (s t : Int) (w : World) (hS : Sl w A n c l) (hM : Sl w B m d l2) (hea : bodyE a l = 0) (heb : bodyE b l2 = 0) : Calls Tryz.prog 22 #[bodyV a A n c, bodyV b B m d, .int .i64 s, .int .i64 t] w (Ret (.int .i64 (dpZ a l b l2 s t)) w) := by
 obtain ⟨W, hW⟩ : ∃ W, W = (w.alloc (.cells #[.int .i64 a.px, .int .i64 a.py, .int .i64 a.vx, .int .i64 a.vy, .int .i64 a.ang, .int .i64 a.spin, .int .i64 a.mass, .int .i64 a.iner, .int .i64 a.bounce, .int .i64 a.rub, .slice A n c, .bool a.asleep, .int .i64 a.calm] 26)).alloc (.cells #[.int .i64 b.px, .int .i64 b.py, .int .i64 b.vx, .int .i64 b.vy, .int .i64 b.ang, .int .i64 b.spin, .int .i64 b.mass, .int .i64 b.iner, .int .i64 b.bounce, .int .i64 b.rub, .slice B m d, .bool b.asleep, .int .i64 b.calm] 26) := ⟨_, rfl⟩
 have HKA : Hid (BdAt W w.heap.size a A n c) := by show BdAt _ _ _ _ _ _; rw [hW]; exact (BdAt.here w a A n c _).alloc _
 have HKB : Hid (BdAt W (w.heap.size + 1) b B m d) := by show BdAt _ _ _ _ _ _; rw [hW]; have := BdAt.here (w.alloc (.cells #[.int .i64 a.px, .int .i64 a.py, .int .i64 a.vx, .int .i64 a.vy, .int .i64 a.ang, .int .i64 a.spin, .int .i64 a.mass, .int .i64 a.iner, .int .i64 a.bounce, .int .i64 a.rub, .slice A n c, .bool a.asleep, .int .i64 a.calm] 26)) b B m d 26; simpa using this
 have hB : Below w.heap.size w W := by rw [hW]; go_grown
 have hl8 := (checkE_zero (shapeE_zero (bodyE_zero hea).1)).1
 have hm8 := (checkE_zero (shapeE_zero (bodyE_zero heb).1)).1
 obtain ⟨z, hz⟩ : ∃ z, z = mulF s t := ⟨_, rfl⟩
 have HAT : Hid (mulF s t = z) := hz.symm
 have HMA := hid (fun (w' : World) (hb : Below w.heap.size w w') => move_calls a A n c l z w' (hS.below hb) (by omega))
 have HMB := hid (fun (w' : World) (hb : Below w.heap.size w w') => move_calls b B m d l2 z w' (hM.below hb) (by omega))
 have HPA : Hid (∀ (A1 : Option Addr) (n1 c1 : Nat) (w' : World), Sl w' A1 n1 c1 l → Calls Tryz.prog 18 #[bodyV (moveB a l z) A1 n1 c1] w' (RetPl (placeL (moveB a l z) l) w')) := fun A1 n1 c1 w' hs => by
  have := bplace_calls (moveB a l z) A1 n1 c1 l w' hs
  rwa [show placeR (moveB a l z) l = placeL (moveB a l z) l by unfold placeR; rw [if_neg (by simp [moveB_ok hea])]] at this
 have HPB : Hid (∀ (A1 : Option Addr) (n1 c1 : Nat) (w' : World), Sl w' A1 n1 c1 l2 → Calls Tryz.prog 18 #[bodyV (moveB b l2 z) A1 n1 c1] w' (RetPl (placeL (moveB b l2 z) l2) w')) := fun A1 n1 c1 w' hs => by
  have := bplace_calls (moveB b l2 z) A1 n1 c1 l2 w' hs
  rwa [show placeR (moveB b l2 z) l2 = placeL (moveB b l2 z) l2 by unfold placeR; rw [if_neg (by simp [moveB_ok heb])]] at this
 have HDP : Hid (dpZ a l b l2 s t = tstD (placeL (moveB a l z) l) (placeL (moveB b l2 z) l2)) := by show _ = _; unfold dpZ atL; rw [hz]
 clear hS hM hea heb hl8 hm8 hz
 generalize placeL (moveB a l z) l = pa at *
 generalize placeL (moveB b l2 z) l2 = pb at *
 generalize moveB a l z = ma at *
 generalize moveB b l2 z = mb at *
 generalize dpZ a l b l2 s t = dq at *
 go_enter Tryz.func22, Tryz.ntmps22
 go_upto_region 1 with fail
 rw [← hW]
 clear hW
 refine (fun (hNr3 : Hid (?Tr3 : Prop)) => ?mainr3) (hid ?prfr3)
 case mainr3 =>
  refine wp_region_noPanic ?_
  refine wp_region_U (S := (S2 (fun w' => BdAt w' w.heap.size a A n c ∧ BdAt w' (w.heap.size + 1) b B m d ∧ Below w.heap.size w w'))) (T := (fun j => [0, 0, 0, 0, 0, 0, 0, 0, 0, 0, 0, 0, 0, 0, 0, 0, 0, 0, 0, 0, 1].getD j 0)) (by kernel_rfl) (S2i0 ⟨HKA.out.drew, HKB.out.drew, hB.drew⟩) (fun hH => ?_)
  have hWr3 : Weaker (S2 (fun w' => BdAt w' w.heap.size a A n c ∧ BdAt w' (w.heap.size + 1) b B m d ∧ Below w.heap.size w w')) := weaker2 _
  refine Ut 0 13 20 0 0 (v := ?vr3_1) rfl hWr3 hH ?hyr3_1 ?_
  case hyr3_1 => (intro w' hSw; replace hSw := S2o0 hSw; (try dsimp only at hSw); have q0 := hSw.1; have q1 := hSw.2.1; have q2 := hSw.2.2; obtain ⟨qa0_0, qa0_1, qa0_2, qa0_3, qa0_4, qa0_5, qa0_6, qa0_7, qa0_8, qa0_9, qa0_10, qa0_11, qa0_12, qa0_f⟩ := id q0; obtain ⟨qa1_0, qa1_1, qa1_2, qa1_3, qa1_4, qa1_5, qa1_6, qa1_7, qa1_8, qa1_9, qa1_10, qa1_11, qa1_12, qa1_f⟩ := id q1; go_simp; try (with_reducible rfl))
  simp only [sB, sC]
  refine Ut 1 14 19 0 0 (v := ?vr3_2) rfl hWr3 hH ?hyr3_2 ?_
  case hyr3_2 => (intro w' hSw; clear hSw; go_simp; try (with_reducible rfl))
  simp only [sB, sC]
  refine Ut 2 15 18 0 0 (v := ?vr3_3) rfl hWr3 hH ?hyr3_3 ?_
  case hyr3_3 => (intro w' hSw; clear hSw; go_simp; try (with_reducible rfl))
  simp only [sB, sC]
  refine Ut 6 19 17 0 0 (v := ?vr3_4) rfl hWr3 hH ?hyr3_4 ?_
  case hyr3_4 => (intro w' hSw; replace hSw := S2o0 hSw; (try dsimp only at hSw); have q0 := hSw.1; have q1 := hSw.2.1; have q2 := hSw.2.2; obtain ⟨qa0_0, qa0_1, qa0_2, qa0_3, qa0_4, qa0_5, qa0_6, qa0_7, qa0_8, qa0_9, qa0_10, qa0_11, qa0_12, qa0_f⟩ := id q0; obtain ⟨qa1_0, qa1_1, qa1_2, qa1_3, qa1_4, qa1_5, qa1_6, qa1_7, qa1_8, qa1_9, qa1_10, qa1_11, qa1_12, qa1_f⟩ := id q1; go_simp; try (with_reducible rfl))
  simp only [sB, sC]
  refine Ut 7 20 16 0 0 (v := ?vr3_5) rfl hWr3 hH ?hyr3_5 ?_
  case hyr3_5 => (intro w' hSw; clear hSw; go_simp; try (with_reducible rfl))
  simp only [sB, sC]
  refine Ut 8 21 15 0 0 (v := ?vr3_6) rfl hWr3 hH ?hyr3_6 ?_
  case hyr3_6 => (intro w' hSw; clear hSw; go_simp; try (with_reducible rfl))
  simp only [sB, sC]
  refine Ur [3, 17] ?_
  refine Uc 0 rfl (fun K hK => ?_) ?_
  ·try clear hb
   go_simp
   (go_at_call 14; refine (fmul_calls _ _ _).mono ?_; rw [HAT.out]; rintro e wn ⟨rfl, hb⟩)
   refine hK.out _ _ ?hsr3_7 (fun hH2 => ?hrr3_7)
   case hsr3_7 => exact S2i0 (by have hG := hH; replace hG := S2o0 hG; (try dsimp only at hG); have q0 := hG.1; have q1 := hG.2.1; have q2 := hG.2.2; exact ⟨keepBd hb q0, keepBd hb q1, keepBelow hb q2⟩)
   clear hK K hH
   have hH := hH2
   clear hH2
   try simp only [Act.put, sA, sB, sC]
   refine Ur [4, 17] ?_
   refine Uc 0 rfl (fun K hK => ?_) ?_
   ·try clear hb
    have hG := hH
    replace hG := S2o0 hG; (try dsimp only at hG); have q0 := hG.1; have q1 := hG.2.1; have q2 := hG.2.2
    go_simp
    (go_at_call 19; refine (HMA.out _ q2).mono ?_; rintro e wn ⟨A1, n1, c1, rfl, hp1, -, hb⟩)
    refine hK.out _ _ ?hsr3_8 (fun hH2 => ?hrr3_8)
    case hsr3_8 => exact S2i0 (by have hG := hH; replace hG := S2o0 hG; (try dsimp only at hG); have q0 := hG.1; have q1 := hG.2.1; have q2 := hG.2.2; exact ⟨keepBd hb q0, keepBd hb q1, keepBelow hb q2⟩)
    clear hK K hH
    have hH := hH2
    clear hH2
    try simp only [Act.put, sA, sB, sC]
    refine Ur [5, 17] ?_
    refine Uc 0 rfl (fun K hK => ?_) ?_
    ·try clear hb
     go_simp
     (go_at_call 18; refine (HPA.out A1 n1 c1 _ hp1).mono ?_; rintro e wn ⟨A2, n2, c2, rfl, hp2, -, -, hb⟩; (try replace hp1 := (fun hb h => Sl.below h hb) hb hp1))
     refine hK.out _ _ ?hsr3_9 (fun hH2 => ?hrr3_9)
     case hsr3_9 => exact S2i0 (by have hG := hH; replace hG := S2o0 hG; (try dsimp only at hG); have q0 := hG.1; have q1 := hG.2.1; have q2 := hG.2.2; exact ⟨keepBd hb q0, keepBd hb q1, keepBelow hb q2⟩)
     clear hK K hH
     have hH := hH2
     clear hH2
     try simp only [Act.put, sA, sB, sC]
     refine Ur [9, 17] ?_
     refine Uc 0 rfl (fun K hK => ?_) ?_
     ·try clear hb
      go_simp
      (go_at_call 14; refine (fmul_calls _ _ _).mono ?_; rw [HAT.out]; rintro e wn ⟨rfl, hb⟩; (try replace hp1 := (fun hb h => Sl.below h hb) hb hp1); (try replace hp2 := (fun hb h => Sl.below h hb) hb hp2))
      refine hK.out _ _ ?hsr3_10 (fun hH2 => ?hrr3_10)
      case hsr3_10 => exact S2i0 (by have hG := hH; replace hG := S2o0 hG; (try dsimp only at hG); have q0 := hG.1; have q1 := hG.2.1; have q2 := hG.2.2; exact ⟨keepBd hb q0, keepBd hb q1, keepBelow hb q2⟩)
      clear hK K hH
      have hH := hH2
      clear hH2
      try simp only [Act.put, sA, sB, sC]
      refine Ur [10, 17] ?_
      refine Uc 0 rfl (fun K hK => ?_) ?_
      ·try clear hb
       have hG := hH
       replace hG := S2o0 hG; (try dsimp only at hG); have q0 := hG.1; have q1 := hG.2.1; have q2 := hG.2.2
       go_simp
       (go_at_call 19; refine (HMB.out _ q2).mono ?_; rintro e wn ⟨A3, n3, c3, rfl, hp3, -, hb⟩; (try replace hp1 := (fun hb h => Sl.below h hb) hb hp1); (try replace hp2 := (fun hb h => Sl.below h hb) hb hp2))
       refine hK.out _ _ ?hsr3_11 (fun hH2 => ?hrr3_11)
       case hsr3_11 => exact S2i0 (by have hG := hH; replace hG := S2o0 hG; (try dsimp only at hG); have q0 := hG.1; have q1 := hG.2.1; have q2 := hG.2.2; exact ⟨keepBd hb q0, keepBd hb q1, keepBelow hb q2⟩)
       clear hK K hH
       have hH := hH2
       clear hH2
       try simp only [Act.put, sA, sB, sC]
       refine Ur [11, 17] ?_
       refine Uc 0 rfl (fun K hK => ?_) ?_
       ·try clear hb
        go_simp
        (go_at_call 18; refine (HPB.out A3 n3 c3 _ hp3).mono ?_; rintro e wn ⟨A4, n4, c4, rfl, hp4, -, -, hb⟩; (try replace hp1 := (fun hb h => Sl.below h hb) hb hp1); (try replace hp2 := (fun hb h => Sl.below h hb) hb hp2); (try replace hp3 := (fun hb h => Sl.below h hb) hb hp3))
        refine hK.out _ _ ?hsr3_12 (fun hH2 => ?hrr3_12)
        case hsr3_12 => exact S2i0 (by have hG := hH; replace hG := S2o0 hG; (try dsimp only at hG); have q0 := hG.1; have q1 := hG.2.1; have q2 := hG.2.2; exact ⟨keepBd hb q0, keepBd hb q1, keepBelow hb q2⟩)
        clear hK K hH
        have hH := hH2
        clear hH2
        try simp only [Act.put, sA, sB, sC]
        refine Ur [12, 17] ?_
        refine Uc 0 rfl (fun K hK => ?_) ?_
        ·try clear hb
         go_simp
         (go_at_call 48; refine (test_calls A2 A4 n2 c2 n4 c4 pa pb _ hp2 hp4).mono ?_; rintro e wn ⟨rfl, hb⟩; (try replace hp1 := (fun hb h => Sl.below h hb) hb hp1); (try replace hp2 := (fun hb h => Sl.below h hb) hb hp2); (try replace hp3 := (fun hb h => Sl.below h hb) hb hp3); (try replace hp4 := (fun hb h => Sl.below h hb) hb hp4))
         refine hK.out _ _ ?hsr3_13 (fun hH2 => ?hrr3_13)
         case hsr3_13 => exact S2i0 (by have hG := hH; replace hG := S2o0 hG; (try dsimp only at hG); have q0 := hG.1; have q1 := hG.2.1; have q2 := hG.2.2; exact ⟨keepBd hb q0, keepBd hb q1, keepBelow hb q2⟩)
         clear hK K hH
         have hH := hH2
         clear hH2
         try simp only [Act.put, sA, sB, sC]
         refine Ut 13 12 7 0 0 (v := ?vr3_14) rfl hWr3 hH ?hyr3_14 ?_
         case hyr3_14 => (intro w' hSw; clear hSw; go_simp; try (with_reducible rfl))
         simp only [sB, sC]
         refine Ut 14 26 6 0 0 (v := ?vr3_15) rfl hWr3 hH ?hyr3_15 ?_
         case hyr3_15 => (intro w' hSw; clear hSw; go_simp; try (with_reducible rfl))
         simp only [sB, sC]
         refine Ut 15 27 5 0 0 (v := ?vr3_16) rfl hWr3 hH ?hyr3_16 ?_
         case hyr3_16 => (intro w' hSw; clear hSw; go_simp; try (with_reducible rfl))
         simp only [sB, sC]
         refine Ut 16 28 4 0 0 (v := ?vr3_17) rfl hWr3 hH ?hyr3_17 ?_
         case hyr3_17 => (intro w' hSw; clear hSw; go_simp; try (with_reducible rfl))
         simp only [sB, sC]
         refine U1 17 0 rfl (fun K hK => ?_)
         try clear hb
         have hG := hH
         replace hG := S2o0 hG; (try dsimp only at hG); have q0 := hG.1; have q1 := hG.2.1; have q2 := hG.2.2
         go_simp
         refine hK.out _ _ ?hsr3_18 (fun hH2 => ?hrr3_18)
         case hsr3_18 => exact S2i0 (by have hG := hH; replace hG := S2o0 hG; (try dsimp only at hG); have q0 := hG.1; have q1 := hG.2.1; have q2 := hG.2.2; exact ⟨q0.alloc _, q1.alloc _, keepBelow ((Below.refl _ _).alloc (Nat.le_refl _) _) q2⟩)
         clear hK K hH
         have hH := hH2
         clear hH2
         try simp only [Act.put, sA, sB, sC]
         have hJ : VZ (wn.alloc (.cells #[.int .i64 0, .int .i64 0] 23)) wn.heap.size := VZ.here wn 0 0 23
         replace hp1 := (fun hb h => Sl.below h hb) ((Below.refl _ _).alloc (Nat.le_refl _) (.cells #[.int .i64 0, .int .i64 0] 23)) hp1
         replace hp2 := (fun hb h => Sl.below h hb) ((Below.refl _ _).alloc (Nat.le_refl _) (.cells #[.int .i64 0, .int .i64 0] 23)) hp2
         replace hp3 := (fun hb h => Sl.below h hb) ((Below.refl _ _).alloc (Nat.le_refl _) (.cells #[.int .i64 0, .int .i64 0] 23)) hp3
         replace hp4 := (fun hb h => Sl.below h hb) ((Below.refl _ _).alloc (Nat.le_refl _) (.cells #[.int .i64 0, .int .i64 0] 23)) hp4
         obtain ⟨gJ, hgJ⟩ : ∃ g, g = wn.heap.size := ⟨_, rfl⟩
         have hlJ : w.heap.size + 1 < gJ := by rw [hgJ]; exact q1.lt
         rw [← hgJ] at hJ
         try rw [← hgJ]
         clear hgJ q0 q1 q2
         generalize wn.alloc (.cells #[.int .i64 0, .int .i64 0] 23) = wx17 at *
         refine Ut 18 9 2 0 0 (v := ?vr3_19) rfl hWr3 hH ?hyr3_19 ?_
         case hyr3_19 => (intro w' hSw; clear hSw; go_simp; try (with_reducible rfl))
         simp only [sB, sC]
         refine Ut 19 10 1 0 0 (v := ?vr3_20) rfl hWr3 hH ?hyr3_20 ?_
         case hyr3_20 => (intro w' hSw; clear hSw; go_simp; try (with_reducible rfl))
         simp only [sB, sC]
         refine wpAnyU_lst (l' := #[true, true, true, true, true, true, true, true, true, true, true, true, true, true, true, true, true, true, true, true, false]) (by kernel_rfl) ?_
         have hl2 : w.heap.size + 1 < gJ := by exact hlJ
         clear hlJ
         try clear hZJ
         try clear hp1
         try clear hp2
         try clear hp3
         try clear hp4
         try clear hb
         revert hH
         revert hJ
         revert hl2
         revert gJ
         revert wx17
         revert A1 n1 c1 A2 n2 c2 A3 n3 c3 A4 n4 c4
         exact hNr3.out
        refine Uc 0 rfl (fun K hK => ?_) ?_
        ·try clear hb
         have hG := hH
         replace hG := S2o0 hG; (try dsimp only at hG); have q0 := hG.1; have q1 := hG.2.1; have q2 := hG.2.2
         go_simp
         refine hK.out _ _ ?hsr3_22 (fun hH2 => ?hrr3_22)
         case hsr3_22 => exact S2i0 (by have hG := hH; replace hG := S2o0 hG; (try dsimp only at hG); have q0 := hG.1; have q1 := hG.2.1; have q2 := hG.2.2; exact ⟨q0.alloc _, q1.alloc _, keepBelow ((Below.refl _ _).alloc (Nat.le_refl _) _) q2⟩)
         clear hK K hH
         have hH := hH2
         clear hH2
         try simp only [Act.put, sA, sB, sC]
         have hJ : VZ (wn.alloc (.cells #[.int .i64 0, .int .i64 0] 23)) wn.heap.size := VZ.here wn 0 0 23
         replace hp1 := (fun hb h => Sl.below h hb) ((Below.refl _ _).alloc (Nat.le_refl _) (.cells #[.int .i64 0, .int .i64 0] 23)) hp1
         replace hp2 := (fun hb h => Sl.below h hb) ((Below.refl _ _).alloc (Nat.le_refl _) (.cells #[.int .i64 0, .int .i64 0] 23)) hp2
         replace hp3 := (fun hb h => Sl.below h hb) ((Below.refl _ _).alloc (Nat.le_refl _) (.cells #[.int .i64 0, .int .i64 0] 23)) hp3
         replace hp4 := (fun hb h => Sl.below h hb) ((Below.refl _ _).alloc (Nat.le_refl _) (.cells #[.int .i64 0, .int .i64 0] 23)) hp4
         obtain ⟨gJ, hgJ⟩ : ∃ g, g = wn.heap.size := ⟨_, rfl⟩
         have hlJ : w.heap.size + 1 < gJ := by rw [hgJ]; exact q1.lt
         rw [← hgJ] at hJ
         try rw [← hgJ]
         clear hgJ q0 q1 q2
         generalize wn.alloc (.cells #[.int .i64 0, .int .i64 0] 23) = wx17 at *
         refine U1 12 0 rfl (fun K hK => ?_)
         try clear hb
         go_simp
         (go_at_call 48; refine (test_calls A2 A4 n2 c2 n4 c4 pa pb _ hp2 hp4).mono ?_; rintro e wn ⟨rfl, hb⟩; (try replace hJ := keepVZ hb hJ); (try replace hp1 := (fun hb h => Sl.below h hb) hb hp1); (try replace hp2 := (fun hb h => Sl.below h hb) hb hp2); (try replace hp3 := (fun hb h => Sl.below h hb) hb hp3); (try replace hp4 := (fun hb h => Sl.below h hb) hb hp4))
         refine hK.out _ _ ?hsr3_23 (fun hH2 => ?hrr3_23)
         case hsr3_23 => exact S2i0 (by have hG := hH; replace hG := S2o0 hG; (try dsimp only at hG); have q0 := hG.1; have q1 := hG.2.1; have q2 := hG.2.2; exact ⟨keepBd hb q0, keepBd hb q1, keepBelow hb q2⟩)
         clear hK K hH
         have hH := hH2
         clear hH2
         try simp only [Act.put, sA, sB, sC]
         refine Ut 13 12 6 0 0 (v := ?vr3_24) rfl hWr3 hH ?hyr3_24 ?_
         case hyr3_24 => (intro w' hSw; clear hSw; go_simp; try (with_reducible rfl))
         simp only [sB, sC]
         refine Ut 14 26 5 0 0 (v := ?vr3_25) rfl hWr3 hH ?hyr3_25 ?_
         case hyr3_25 => (intro w' hSw; clear hSw; go_simp; try (with_reducible rfl))
         simp only [sB, sC]
         refine Ut 15 27 4 0 0 (v := ?vr3_26) rfl hWr3 hH ?hyr3_26 ?_
         case hyr3_26 => (intro w' hSw; clear hSw; go_simp; try (with_reducible rfl))
         simp only [sB, sC]
         refine Ut 16 28 3 0 0 (v := ?vr3_27) rfl hWr3 hH ?hyr3_27 ?_
         case hyr3_27 => (intro w' hSw; clear hSw; go_simp; try (with_reducible rfl))
         simp only [sB, sC]
         refine Ut 18 9 2 0 0 (v := ?vr3_28) rfl hWr3 hH ?hyr3_28 ?_
         case hyr3_28 => (intro w' hSw; clear hSw; go_simp; try (with_reducible rfl))
         simp only [sB, sC]
         refine Ut 19 10 1 0 0 (v := ?vr3_29) rfl hWr3 hH ?hyr3_29 ?_
         case hyr3_29 => (intro w' hSw; clear hSw; go_simp; try (with_reducible rfl))
         simp only [sB, sC]
         refine wpAnyU_lst (l' := #[true, true, true, true, true, true, true, true, true, true, true, true, true, true, true, true, true, true, true, true, false]) (by kernel_rfl) ?_
         have hl2 : w.heap.size + 1 < gJ := by exact hlJ
         clear hlJ
         try clear hZJ
         try clear hp1
         try clear hp2
         try clear hp3
         try clear hp4
         try clear hb
         revert hH
         revert hJ
         revert hl2
         revert gJ
         revert wn
         revert A1 n1 c1 A2 n2 c2 A3 n3 c3 A4 n4 c4
         exact hNr3.out
        exact AllReadyU.nil
       refine Uc 0 rfl (fun K hK => ?_) ?_
       ·try clear hb
        have hG := hH
        replace hG := S2o0 hG; (try dsimp only at hG); have q0 := hG.1; have q1 := hG.2.1; have q2 := hG.2.2
        go_simp
        refine hK.out _ _ ?hsr3_30 (fun hH2 => ?hrr3_30)
        case hsr3_30 => exact S2i0 (by have hG := hH; replace hG := S2o0 hG; (try dsimp only at hG); have q0 := hG.1; have q1 := hG.2.1; have q2 := hG.2.2; exact ⟨q0.alloc _, q1.alloc _, keepBelow ((Below.refl _ _).alloc (Nat.le_refl _) _) q2⟩)
        clear hK K hH
        have hH := hH2
        clear hH2
        try simp only [Act.put, sA, sB, sC]
        have hJ : VZ (wn.alloc (.cells #[.int .i64 0, .int .i64 0] 23)) wn.heap.size := VZ.here wn 0 0 23
        replace hp1 := (fun hb h => Sl.below h hb) ((Below.refl _ _).alloc (Nat.le_refl _) (.cells #[.int .i64 0, .int .i64 0] 23)) hp1
        replace hp2 := (fun hb h => Sl.below h hb) ((Below.refl _ _).alloc (Nat.le_refl _) (.cells #[.int .i64 0, .int .i64 0] 23)) hp2
        replace hp3 := (fun hb h => Sl.below h hb) ((Below.refl _ _).alloc (Nat.le_refl _) (.cells #[.int .i64 0, .int .i64 0] 23)) hp3
        obtain ⟨gJ, hgJ⟩ : ∃ g, g = wn.heap.size := ⟨_, rfl⟩
        have hlJ : w.heap.size + 1 < gJ := by rw [hgJ]; exact q1.lt
        rw [← hgJ] at hJ
        try rw [← hgJ]
        clear hgJ q0 q1 q2
        generalize wn.alloc (.cells #[.int .i64 0, .int .i64 0] 23) = wx17 at *
        refine U1 11 0 rfl (fun K hK => ?_)
        try clear hb
        go_simp
        (go_at_call 18; refine (HPB.out A3 n3 c3 _ hp3).mono ?_; rintro e wn ⟨A4, n4, c4, rfl, hp4, -, -, hb⟩; (try replace hJ := keepVZ hb hJ); (try replace hp1 := (fun hb h => Sl.below h hb) hb hp1); (try replace hp2 := (fun hb h => Sl.below h hb) hb hp2); (try replace hp3 := (fun hb h => Sl.below h hb) hb hp3))
        refine hK.out _ _ ?hsr3_31 (fun hH2 => ?hrr3_31)
        case hsr3_31 => exact S2i0 (by have hG := hH; replace hG := S2o0 hG; (try dsimp only at hG); have q0 := hG.1; have q1 := hG.2.1; have q2 := hG.2.2; exact ⟨keepBd hb q0, keepBd hb q1, keepBelow hb q2⟩)
        clear hK K hH
        have hH := hH2
        clear hH2
        try simp only [Act.put, sA, sB, sC]
        refine U1 12 0 rfl (fun K hK => ?_)
        try clear hb
        go_simp
        (go_at_call 48; refine (test_calls A2 A4 n2 c2 n4 c4 pa pb _ hp2 hp4).mono ?_; rintro e wn ⟨rfl, hb⟩; (try replace hJ := keepVZ hb hJ); (try replace hp1 := (fun hb h => Sl.below h hb) hb hp1); (try replace hp2 := (fun hb h => Sl.below h hb) hb hp2); (try replace hp3 := (fun hb h => Sl.below h hb) hb hp3); (try replace hp4 := (fun hb h => Sl.below h hb) hb hp4))
        refine hK.out _ _ ?hsr3_32 (fun hH2 => ?hrr3_32)
        case hsr3_32 => exact S2i0 (by have hG := hH; replace hG := S2o0 hG; (try dsimp only at hG); have q0 := hG.1; have q1 := hG.2.1; have q2 := hG.2.2; exact ⟨keepBd hb q0, keepBd hb q1, keepBelow hb q2⟩)
        clear hK K hH
        have hH := hH2
        clear hH2
        try simp only [Act.put, sA, sB, sC]
        refine Ut 13 12 6 0 0 (v := ?vr3_33) rfl hWr3 hH ?hyr3_33 ?_
        case hyr3_33 => (intro w' hSw; clear hSw; go_simp; try (with_reducible rfl))
        simp only [sB, sC]
        refine Ut 14 26 5 0 0 (v := ?vr3_34) rfl hWr3 hH ?hyr3_34 ?_
        case hyr3_34 => (intro w' hSw; clear hSw; go_simp; try (with_reducible rfl))
        simp only [sB, sC]
        refine Ut 15 27 4 0 0 (v := ?vr3_35) rfl hWr3 hH ?hyr3_35 ?_
        case hyr3_35 => (intro w' hSw; clear hSw; go_simp; try (with_reducible rfl))
        simp only [sB, sC]
        refine Ut 16 28 3 0 0 (v := ?vr3_36) rfl hWr3 hH ?hyr3_36 ?_
        case hyr3_36 => (intro w' hSw; clear hSw; go_simp; try (with_reducible rfl))
        simp only [sB, sC]
        refine Ut 18 9 2 0 0 (v := ?vr3_37) rfl hWr3 hH ?hyr3_37 ?_
        case hyr3_37 => (intro w' hSw; clear hSw; go_simp; try (with_reducible rfl))
        simp only [sB, sC]
        refine Ut 19 10 1 0 0 (v := ?vr3_38) rfl hWr3 hH ?hyr3_38 ?_
        case hyr3_38 => (intro w' hSw; clear hSw; go_simp; try (with_reducible rfl))
        simp only [sB, sC]
        refine wpAnyU_lst (l' := #[true, true, true, true, true, true, true, true, true, true, true, true, true, true, true, true, true, true, true, true, false]) (by kernel_rfl) ?_
        have hl2 : w.heap.size + 1 < gJ := by exact hlJ
        clear hlJ
        try clear hZJ
        try clear hp1
        try clear hp2
        try clear hp3
        try clear hp4
        try clear hb
        revert hH
        revert hJ
        revert hl2
        revert gJ
        revert wn
        revert A1 n1 c1 A2 n2 c2 A3 n3 c3 A4 n4 c4
        exact hNr3.out
       exact AllReadyU.nil
      refine Uc 0 rfl (fun K hK => ?_) ?_
      ·try clear hb
       have hG := hH
       replace hG := S2o0 hG; (try dsimp only at hG); have q0 := hG.1; have q1 := hG.2.1; have q2 := hG.2.2
       go_simp
       refine hK.out _ _ ?hsr3_39 (fun hH2 => ?hrr3_39)
       case hsr3_39 => exact S2i0 (by have hG := hH; replace hG := S2o0 hG; (try dsimp only at hG); have q0 := hG.1; have q1 := hG.2.1; have q2 := hG.2.2; exact ⟨q0.alloc _, q1.alloc _, keepBelow ((Below.refl _ _).alloc (Nat.le_refl _) _) q2⟩)
       clear hK K hH
       have hH := hH2
       clear hH2
       try simp only [Act.put, sA, sB, sC]
       have hJ : VZ (wn.alloc (.cells #[.int .i64 0, .int .i64 0] 23)) wn.heap.size := VZ.here wn 0 0 23
       replace hp1 := (fun hb h => Sl.below h hb) ((Below.refl _ _).alloc (Nat.le_refl _) (.cells #[.int .i64 0, .int .i64 0] 23)) hp1
       replace hp2 := (fun hb h => Sl.below h hb) ((Below.refl _ _).alloc (Nat.le_refl _) (.cells #[.int .i64 0, .int .i64 0] 23)) hp2
       obtain ⟨gJ, hgJ⟩ : ∃ g, g = wn.heap.size := ⟨_, rfl⟩
       have hlJ : w.heap.size + 1 < gJ := by rw [hgJ]; exact q1.lt
       rw [← hgJ] at hJ
       try rw [← hgJ]
       clear hgJ q0 q1 q2
       generalize wn.alloc (.cells #[.int .i64 0, .int .i64 0] 23) = wx17 at *
       refine U1 10 0 rfl (fun K hK => ?_)
       try clear hb
       have hG := hH
       replace hG := S2o0 hG; (try dsimp only at hG); have q0 := hG.1; have q1 := hG.2.1; have q2 := hG.2.2
       go_simp
       (go_at_call 19; refine (HMB.out _ q2).mono ?_; rintro e wn ⟨A3, n3, c3, rfl, hp3, -, hb⟩; (try replace hJ := keepVZ hb hJ); (try replace hp1 := (fun hb h => Sl.below h hb) hb hp1); (try replace hp2 := (fun hb h => Sl.below h hb) hb hp2))
       refine hK.out _ _ ?hsr3_40 (fun hH2 => ?hrr3_40)
       case hsr3_40 => exact S2i0 (by have hG := hH; replace hG := S2o0 hG; (try dsimp only at hG); have q0 := hG.1; have q1 := hG.2.1; have q2 := hG.2.2; exact ⟨keepBd hb q0, keepBd hb q1, keepBelow hb q2⟩)
       clear hK K hH
       have hH := hH2
       clear hH2
       try simp only [Act.put, sA, sB, sC]
       refine U1 11 0 rfl (fun K hK => ?_)
       try clear hb
       go_simp
       (go_at_call 18; refine (HPB.out A3 n3 c3 _ hp3).mono ?_; rintro e wn ⟨A4, n4, c4, rfl, hp4, -, -, hb⟩; (try replace hJ := keepVZ hb hJ); (try replace hp1 := (fun hb h => Sl.below h hb) hb hp1); (try replace hp2 := (fun hb h => Sl.below h hb) hb hp2); (try replace hp3 := (fun hb h => Sl.below h hb) hb hp3))
       refine hK.out _ _ ?hsr3_41 (fun hH2 => ?hrr3_41)
       case hsr3_41 => exact S2i0 (by have hG := hH; replace hG := S2o0 hG; (try dsimp only at hG); have q0 := hG.1; have q1 := hG.2.1; have q2 := hG.2.2; exact ⟨keepBd hb q0, keepBd hb q1, keepBelow hb q2⟩)
       clear hK K hH
       have hH := hH2
       clear hH2
       try simp only [Act.put, sA, sB, sC]
       refine U1 12 0 rfl (fun K hK => ?_)
       try clear hb
       go_simp
       (go_at_call 48; refine (test_calls A2 A4 n2 c2 n4 c4 pa pb _ hp2 hp4).mono ?_; rintro e wn ⟨rfl, hb⟩; (try replace hJ := keepVZ hb hJ); (try replace hp1 := (fun hb h => Sl.below h hb) hb hp1); (try replace hp2 := (fun hb h => Sl.below h hb) hb hp2); (try replace hp3 := (fun hb h => Sl.below h hb) hb hp3); (try replace hp4 := (fun hb h => Sl.below h hb) hb hp4))
       refine hK.out _ _ ?hsr3_42 (fun hH2 => ?hrr3_42)
       case hsr3_42 => exact S2i0 (by have hG := hH; replace hG := S2o0 hG; (try dsimp only at hG); have q0 := hG.1; have q1 := hG.2.1; have q2 := hG.2.2; exact ⟨keepBd hb q0, keepBd hb q1, keepBelow hb q2⟩)
       clear hK K hH
       have hH := hH2
       clear hH2
       try simp only [Act.put, sA, sB, sC]
       refine Ut 13 12 6 0 0 (v := ?vr3_43) rfl hWr3 hH ?hyr3_43 ?_
       case hyr3_43 => (intro w' hSw; clear hSw; go_simp; try (with_reducible rfl))
       simp only [sB, sC]
       refine Ut 14 26 5 0 0 (v := ?vr3_44) rfl hWr3 hH ?hyr3_44 ?_
       case hyr3_44 => (intro w' hSw; clear hSw; go_simp; try (with_reducible rfl))
       simp only [sB, sC]
       refine Ut 15 27 4 0 0 (v := ?vr3_45) rfl hWr3 hH ?hyr3_45 ?_
       case hyr3_45 => (intro w' hSw; clear hSw; go_simp; try (with_reducible rfl))
       simp only [sB, sC]
       refine Ut 16 28 3 0 0 (v := ?vr3_46) rfl hWr3 hH ?hyr3_46 ?_
       case hyr3_46 => (intro w' hSw; clear hSw; go_simp; try (with_reducible rfl))
       simp only [sB, sC]
       refine Ut 18 9 2 0 0 (v := ?vr3_47) rfl hWr3 hH ?hyr3_47 ?_
       case hyr3_47 => (intro w' hSw; clear hSw; go_simp; try (with_reducible rfl))
       simp only [sB, sC]
       refine Ut 19 10 1 0 0 (v := ?vr3_48) rfl hWr3 hH ?hyr3_48 ?_
       case hyr3_48 => (intro w' hSw; clear hSw; go_simp; try (with_reducible rfl))
       simp only [sB, sC]
       refine wpAnyU_lst (l' := #[true, true, true, true, true, true, true, true, true, true, true, true, true, true, true, true, true, true, true, true, false]) (by kernel_rfl) ?_
       have hl2 : w.heap.size + 1 < gJ := by exact hlJ
       clear hlJ
       try clear hZJ
       try clear hp1
       try clear hp2
       try clear hp3
       try clear hp4
       try clear hb
       revert hH
       revert hJ
       revert hl2
       revert gJ
       revert wn
       revert A1 n1 c1 A2 n2 c2 A3 n3 c3 A4 n4 c4
       exact hNr3.out
      exact AllReadyU.nil
     refine Uc 0 rfl (fun K hK => ?_) ?_
     ·try clear hb
      have hG := hH
      replace hG := S2o0 hG; (try dsimp only at hG); have q0 := hG.1; have q1 := hG.2.1; have q2 := hG.2.2
      go_simp
      refine hK.out _ _ ?hsr3_49 (fun hH2 => ?hrr3_49)
      case hsr3_49 => exact S2i0 (by have hG := hH; replace hG := S2o0 hG; (try dsimp only at hG); have q0 := hG.1; have q1 := hG.2.1; have q2 := hG.2.2; exact ⟨q0.alloc _, q1.alloc _, keepBelow ((Below.refl _ _).alloc (Nat.le_refl _) _) q2⟩)
      clear hK K hH
      have hH := hH2
      clear hH2
      try simp only [Act.put, sA, sB, sC]
      have hJ : VZ (wn.alloc (.cells #[.int .i64 0, .int .i64 0] 23)) wn.heap.size := VZ.here wn 0 0 23
      replace hp1 := (fun hb h => Sl.below h hb) ((Below.refl _ _).alloc (Nat.le_refl _) (.cells #[.int .i64 0, .int .i64 0] 23)) hp1
      replace hp2 := (fun hb h => Sl.below h hb) ((Below.refl _ _).alloc (Nat.le_refl _) (.cells #[.int .i64 0, .int .i64 0] 23)) hp2
      obtain ⟨gJ, hgJ⟩ : ∃ g, g = wn.heap.size := ⟨_, rfl⟩
      have hlJ : w.heap.size + 1 < gJ := by rw [hgJ]; exact q1.lt
      rw [← hgJ] at hJ
      try rw [← hgJ]
      clear hgJ q0 q1 q2
      generalize wn.alloc (.cells #[.int .i64 0, .int .i64 0] 23) = wx17 at *
      refine U1 9 0 rfl (fun K hK => ?_)
      try clear hb
      go_simp
      (go_at_call 14; refine (fmul_calls _ _ _).mono ?_; rw [HAT.out]; rintro e wn ⟨rfl, hb⟩; (try replace hJ := keepVZ hb hJ); (try replace hp1 := (fun hb h => Sl.below h hb) hb hp1); (try replace hp2 := (fun hb h => Sl.below h hb) hb hp2))
      refine hK.out _ _ ?hsr3_50 (fun hH2 => ?hrr3_50)
      case hsr3_50 => exact S2i0 (by have hG := hH; replace hG := S2o0 hG; (try dsimp only at hG); have q0 := hG.1; have q1 := hG.2.1; have q2 := hG.2.2; exact ⟨keepBd hb q0, keepBd hb q1, keepBelow hb q2⟩)
      clear hK K hH
      have hH := hH2
      clear hH2
      try simp only [Act.put, sA, sB, sC]
      refine U1 10 0 rfl (fun K hK => ?_)
      try clear hb
      have hG := hH
      replace hG := S2o0 hG; (try dsimp only at hG); have q0 := hG.1; have q1 := hG.2.1; have q2 := hG.2.2
      go_simp
      (go_at_call 19; refine (HMB.out _ q2).mono ?_; rintro e wn ⟨A3, n3, c3, rfl, hp3, -, hb⟩; (try replace hJ := keepVZ hb hJ); (try replace hp1 := (fun hb h => Sl.below h hb) hb hp1); (try replace hp2 := (fun hb h => Sl.below h hb) hb hp2))
      refine hK.out _ _ ?hsr3_51 (fun hH2 => ?hrr3_51)
      case hsr3_51 => exact S2i0 (by have hG := hH; replace hG := S2o0 hG; (try dsimp only at hG); have q0 := hG.1; have q1 := hG.2.1; have q2 := hG.2.2; exact ⟨keepBd hb q0, keepBd hb q1, keepBelow hb q2⟩)
      clear hK K hH
      have hH := hH2
      clear hH2
      try simp only [Act.put, sA, sB, sC]
      refine U1 11 0 rfl (fun K hK => ?_)
      try clear hb
      go_simp
      (go_at_call 18; refine (HPB.out A3 n3 c3 _ hp3).mono ?_; rintro e wn ⟨A4, n4, c4, rfl, hp4, -, -, hb⟩; (try replace hJ := keepVZ hb hJ); (try replace hp1 := (fun hb h => Sl.below h hb) hb hp1); (try replace hp2 := (fun hb h => Sl.below h hb) hb hp2); (try replace hp3 := (fun hb h => Sl.below h hb) hb hp3))
      refine hK.out _ _ ?hsr3_52 (fun hH2 => ?hrr3_52)
      case hsr3_52 => exact S2i0 (by have hG := hH; replace hG := S2o0 hG; (try dsimp only at hG); have q0 := hG.1; have q1 := hG.2.1; have q2 := hG.2.2; exact ⟨keepBd hb q0, keepBd hb q1, keepBelow hb q2⟩)
      clear hK K hH
      have hH := hH2
      clear hH2
      try simp only [Act.put, sA, sB, sC]
      refine U1 12 0 rfl (fun K hK => ?_)
      try clear hb
      go_simp
      (go_at_call 48; refine (test_calls A2 A4 n2 c2 n4 c4 pa pb _ hp2 hp4).mono ?_; rintro e wn ⟨rfl, hb⟩; (try replace hJ := keepVZ hb hJ); (try replace hp1 := (fun hb h => Sl.below h hb) hb hp1); (try replace hp2 := (fun hb h => Sl.below h hb) hb hp2); (try replace hp3 := (fun hb h => Sl.below h hb) hb hp3); (try replace hp4 := (fun hb h => Sl.below h hb) hb hp4))
      refine hK.out _ _ ?hsr3_53 (fun hH2 => ?hrr3_53)
      case hsr3_53 => exact S2i0 (by have hG := hH; replace hG := S2o0 hG; (try dsimp only at hG); have q0 := hG.1; have q1 := hG.2.1; have q2 := hG.2.2; exact ⟨keepBd hb q0, keepBd hb q1, keepBelow hb q2⟩)
      clear hK K hH
      have hH := hH2
      clear hH2
      try simp only [Act.put, sA, sB, sC]
      refine Ut 13 12 6 0 0 (v := ?vr3_54) rfl hWr3 hH ?hyr3_54 ?_
      case hyr3_54 => (intro w' hSw; clear hSw; go_simp; try (with_reducible rfl))
      simp only [sB, sC]
      refine Ut 14 26 5 0 0 (v := ?vr3_55) rfl hWr3 hH ?hyr3_55 ?_
      case hyr3_55 => (intro w' hSw; clear hSw; go_simp; try (with_reducible rfl))
      simp only [sB, sC]
      refine Ut 15 27 4 0 0 (v := ?vr3_56) rfl hWr3 hH ?hyr3_56 ?_
      case hyr3_56 => (intro w' hSw; clear hSw; go_simp; try (with_reducible rfl))
      simp only [sB, sC]
      refine Ut 16 28 3 0 0 (v := ?vr3_57) rfl hWr3 hH ?hyr3_57 ?_
      case hyr3_57 => (intro w' hSw; clear hSw; go_simp; try (with_reducible rfl))
      simp only [sB, sC]
      refine Ut 18 9 2 0 0 (v := ?vr3_58) rfl hWr3 hH ?hyr3_58 ?_
      case hyr3_58 => (intro w' hSw; clear hSw; go_simp; try (with_reducible rfl))
      simp only [sB, sC]
      refine Ut 19 10 1 0 0 (v := ?vr3_59) rfl hWr3 hH ?hyr3_59 ?_
      case hyr3_59 => (intro w' hSw; clear hSw; go_simp; try (with_reducible rfl))
      simp only [sB, sC]
      refine wpAnyU_lst (l' := #[true, true, true, true, true, true, true, true, true, true, true, true, true, true, true, true, true, true, true, true, false]) (by kernel_rfl) ?_
      have hl2 : w.heap.size + 1 < gJ := by exact hlJ
      clear hlJ
      try clear hZJ
      try clear hp1
      try clear hp2
      try clear hp3
      try clear hp4
      try clear hb
      revert hH
      revert hJ
      revert hl2
      revert gJ
      revert wn
      revert A1 n1 c1 A2 n2 c2 A3 n3 c3 A4 n4 c4
      exact hNr3.out
     exact AllReadyU.nil
    refine Uc 0 rfl (fun K hK => ?_) ?_
    ·try clear hb
     have hG := hH
     replace hG := S2o0 hG; (try dsimp only at hG); have q0 := hG.1; have q1 := hG.2.1; have q2 := hG.2.2
     go_simp
     refine hK.out _ _ ?hsr3_60 (fun hH2 => ?hrr3_60)
     case hsr3_60 => exact S2i0 (by have hG := hH; replace hG := S2o0 hG; (try dsimp only at hG); have q0 := hG.1; have q1 := hG.2.1; have q2 := hG.2.2; exact ⟨q0.alloc _, q1.alloc _, keepBelow ((Below.refl _ _).alloc (Nat.le_refl _) _) q2⟩)
     clear hK K hH
     have hH := hH2
     clear hH2
     try simp only [Act.put, sA, sB, sC]
     have hJ : VZ (wn.alloc (.cells #[.int .i64 0, .int .i64 0] 23)) wn.heap.size := VZ.here wn 0 0 23
     replace hp1 := (fun hb h => Sl.below h hb) ((Below.refl _ _).alloc (Nat.le_refl _) (.cells #[.int .i64 0, .int .i64 0] 23)) hp1
     obtain ⟨gJ, hgJ⟩ : ∃ g, g = wn.heap.size := ⟨_, rfl⟩
     have hlJ : w.heap.size + 1 < gJ := by rw [hgJ]; exact q1.lt
     rw [← hgJ] at hJ
     try rw [← hgJ]
     clear hgJ q0 q1 q2
     generalize wn.alloc (.cells #[.int .i64 0, .int .i64 0] 23) = wx17 at *
     refine U1 5 0 rfl (fun K hK => ?_)
     try clear hb
     go_simp
     (go_at_call 18; refine (HPA.out A1 n1 c1 _ hp1).mono ?_; rintro e wn ⟨A2, n2, c2, rfl, hp2, -, -, hb⟩; (try replace hJ := keepVZ hb hJ); (try replace hp1 := (fun hb h => Sl.below h hb) hb hp1))
     refine hK.out _ _ ?hsr3_61 (fun hH2 => ?hrr3_61)
     case hsr3_61 => exact S2i0 (by have hG := hH; replace hG := S2o0 hG; (try dsimp only at hG); have q0 := hG.1; have q1 := hG.2.1; have q2 := hG.2.2; exact ⟨keepBd hb q0, keepBd hb q1, keepBelow hb q2⟩)
     clear hK K hH
     have hH := hH2
     clear hH2
     try simp only [Act.put, sA, sB, sC]
     refine U1 9 0 rfl (fun K hK => ?_)
     try clear hb
     go_simp
     (go_at_call 14; refine (fmul_calls _ _ _).mono ?_; rw [HAT.out]; rintro e wn ⟨rfl, hb⟩; (try replace hJ := keepVZ hb hJ); (try replace hp1 := (fun hb h => Sl.below h hb) hb hp1); (try replace hp2 := (fun hb h => Sl.below h hb) hb hp2))
     refine hK.out _ _ ?hsr3_62 (fun hH2 => ?hrr3_62)
     case hsr3_62 => exact S2i0 (by have hG := hH; replace hG := S2o0 hG; (try dsimp only at hG); have q0 := hG.1; have q1 := hG.2.1; have q2 := hG.2.2; exact ⟨keepBd hb q0, keepBd hb q1, keepBelow hb q2⟩)
     clear hK K hH
     have hH := hH2
     clear hH2
     try simp only [Act.put, sA, sB, sC]
     refine U1 10 0 rfl (fun K hK => ?_)
     try clear hb
     have hG := hH
     replace hG := S2o0 hG; (try dsimp only at hG); have q0 := hG.1; have q1 := hG.2.1; have q2 := hG.2.2
     go_simp
     (go_at_call 19; refine (HMB.out _ q2).mono ?_; rintro e wn ⟨A3, n3, c3, rfl, hp3, -, hb⟩; (try replace hJ := keepVZ hb hJ); (try replace hp1 := (fun hb h => Sl.below h hb) hb hp1); (try replace hp2 := (fun hb h => Sl.below h hb) hb hp2))
     refine hK.out _ _ ?hsr3_63 (fun hH2 => ?hrr3_63)
     case hsr3_63 => exact S2i0 (by have hG := hH; replace hG := S2o0 hG; (try dsimp only at hG); have q0 := hG.1; have q1 := hG.2.1; have q2 := hG.2.2; exact ⟨keepBd hb q0, keepBd hb q1, keepBelow hb q2⟩)
     clear hK K hH
     have hH := hH2
     clear hH2
     try simp only [Act.put, sA, sB, sC]
     refine U1 11 0 rfl (fun K hK => ?_)
     try clear hb
     go_simp
     (go_at_call 18; refine (HPB.out A3 n3 c3 _ hp3).mono ?_; rintro e wn ⟨A4, n4, c4, rfl, hp4, -, -, hb⟩; (try replace hJ := keepVZ hb hJ); (try replace hp1 := (fun hb h => Sl.below h hb) hb hp1); (try replace hp2 := (fun hb h => Sl.below h hb) hb hp2); (try replace hp3 := (fun hb h => Sl.below h hb) hb hp3))
     refine hK.out _ _ ?hsr3_64 (fun hH2 => ?hrr3_64)
     case hsr3_64 => exact S2i0 (by have hG := hH; replace hG := S2o0 hG; (try dsimp only at hG); have q0 := hG.1; have q1 := hG.2.1; have q2 := hG.2.2; exact ⟨keepBd hb q0, keepBd hb q1, keepBelow hb q2⟩)
     clear hK K hH
     have hH := hH2
     clear hH2
     try simp only [Act.put, sA, sB, sC]
     refine U1 12 0 rfl (fun K hK => ?_)
     try clear hb
     go_simp
     (go_at_call 48; refine (test_calls A2 A4 n2 c2 n4 c4 pa pb _ hp2 hp4).mono ?_; rintro e wn ⟨rfl, hb⟩; (try replace hJ := keepVZ hb hJ); (try replace hp1 := (fun hb h => Sl.below h hb) hb hp1); (try replace hp2 := (fun hb h => Sl.below h hb) hb hp2); (try replace hp3 := (fun hb h => Sl.below h hb) hb hp3); (try replace hp4 := (fun hb h => Sl.below h hb) hb hp4))
     refine hK.out _ _ ?hsr3_65 (fun hH2 => ?hrr3_65)
     case hsr3_65 => exact S2i0 (by have hG := hH; replace hG := S2o0 hG; (try dsimp only at hG); have q0 := hG.1; have q1 := hG.2.1; have q2 := hG.2.2; exact ⟨keepBd hb q0, keepBd hb q1, keepBelow hb q2⟩)
     clear hK K hH
     have hH := hH2
     clear hH2
     try simp only [Act.put, sA, sB, sC]
     refine Ut 13 12 6 0 0 (v := ?vr3_66) rfl hWr3 hH ?hyr3_66 ?_
     case hyr3_66 => (intro w' hSw; clear hSw; go_simp; try (with_reducible rfl))
     simp only [sB, sC]
     refine Ut 14 26 5 0 0 (v := ?vr3_67) rfl hWr3 hH ?hyr3_67 ?_
     case hyr3_67 => (intro w' hSw; clear hSw; go_simp; try (with_reducible rfl))
     simp only [sB, sC]
     refine Ut 15 27 4 0 0 (v := ?vr3_68) rfl hWr3 hH ?hyr3_68 ?_
     case hyr3_68 => (intro w' hSw; clear hSw; go_simp; try (with_reducible rfl))
     simp only [sB, sC]
     refine Ut 16 28 3 0 0 (v := ?vr3_69) rfl hWr3 hH ?hyr3_69 ?_
     case hyr3_69 => (intro w' hSw; clear hSw; go_simp; try (with_reducible rfl))
     simp only [sB, sC]
     refine Ut 18 9 2 0 0 (v := ?vr3_70) rfl hWr3 hH ?hyr3_70 ?_
     case hyr3_70 => (intro w' hSw; clear hSw; go_simp; try (with_reducible rfl))
     simp only [sB, sC]
     refine Ut 19 10 1 0 0 (v := ?vr3_71) rfl hWr3 hH ?hyr3_71 ?_
     case hyr3_71 => (intro w' hSw; clear hSw; go_simp; try (with_reducible rfl))
     simp only [sB, sC]
     refine wpAnyU_lst (l' := #[true, true, true, true, true, true, true, true, true, true, true, true, true, true, true, true, true, true, true, true, false]) (by kernel_rfl) ?_
     have hl2 : w.heap.size + 1 < gJ := by exact hlJ
     clear hlJ
     try clear hZJ
     try clear hp1
     try clear hp2
     try clear hp3
     try clear hp4
     try clear hb
     revert hH
     revert hJ
     revert hl2
     revert gJ
     revert wn
     revert A1 n1 c1 A2 n2 c2 A3 n3 c3 A4 n4 c4
     exact hNr3.out
    exact AllReadyU.nil
   refine Uc 0 rfl (fun K hK => ?_) ?_
   ·try clear hb
    have hG := hH
    replace hG := S2o0 hG; (try dsimp only at hG); have q0 := hG.1; have q1 := hG.2.1; have q2 := hG.2.2
    go_simp
    refine hK.out _ _ ?hsr3_72 (fun hH2 => ?hrr3_72)
    case hsr3_72 => exact S2i0 (by have hG := hH; replace hG := S2o0 hG; (try dsimp only at hG); have q0 := hG.1; have q1 := hG.2.1; have q2 := hG.2.2; exact ⟨q0.alloc _, q1.alloc _, keepBelow ((Below.refl _ _).alloc (Nat.le_refl _) _) q2⟩)
    clear hK K hH
    have hH := hH2
    clear hH2
    try simp only [Act.put, sA, sB, sC]
    have hJ : VZ (wn.alloc (.cells #[.int .i64 0, .int .i64 0] 23)) wn.heap.size := VZ.here wn 0 0 23
    obtain ⟨gJ, hgJ⟩ : ∃ g, g = wn.heap.size := ⟨_, rfl⟩
    have hlJ : w.heap.size + 1 < gJ := by rw [hgJ]; exact q1.lt
    rw [← hgJ] at hJ
    try rw [← hgJ]
    clear hgJ q0 q1 q2
    generalize wn.alloc (.cells #[.int .i64 0, .int .i64 0] 23) = wx17 at *
    refine U1 4 0 rfl (fun K hK => ?_)
    try clear hb
    have hG := hH
    replace hG := S2o0 hG; (try dsimp only at hG); have q0 := hG.1; have q1 := hG.2.1; have q2 := hG.2.2
    go_simp
    (go_at_call 19; refine (HMA.out _ q2).mono ?_; rintro e wn ⟨A1, n1, c1, rfl, hp1, -, hb⟩; (try replace hJ := keepVZ hb hJ))
    refine hK.out _ _ ?hsr3_73 (fun hH2 => ?hrr3_73)
    case hsr3_73 => exact S2i0 (by have hG := hH; replace hG := S2o0 hG; (try dsimp only at hG); have q0 := hG.1; have q1 := hG.2.1; have q2 := hG.2.2; exact ⟨keepBd hb q0, keepBd hb q1, keepBelow hb q2⟩)
    clear hK K hH
    have hH := hH2
    clear hH2
    try simp only [Act.put, sA, sB, sC]
    refine U1 5 0 rfl (fun K hK => ?_)
    try clear hb
    go_simp
    (go_at_call 18; refine (HPA.out A1 n1 c1 _ hp1).mono ?_; rintro e wn ⟨A2, n2, c2, rfl, hp2, -, -, hb⟩; (try replace hJ := keepVZ hb hJ); (try replace hp1 := (fun hb h => Sl.below h hb) hb hp1))
    refine hK.out _ _ ?hsr3_74 (fun hH2 => ?hrr3_74)
    case hsr3_74 => exact S2i0 (by have hG := hH; replace hG := S2o0 hG; (try dsimp only at hG); have q0 := hG.1; have q1 := hG.2.1; have q2 := hG.2.2; exact ⟨keepBd hb q0, keepBd hb q1, keepBelow hb q2⟩)
    clear hK K hH
    have hH := hH2
    clear hH2
    try simp only [Act.put, sA, sB, sC]
    refine U1 9 0 rfl (fun K hK => ?_)
    try clear hb
    go_simp
    (go_at_call 14; refine (fmul_calls _ _ _).mono ?_; rw [HAT.out]; rintro e wn ⟨rfl, hb⟩; (try replace hJ := keepVZ hb hJ); (try replace hp1 := (fun hb h => Sl.below h hb) hb hp1); (try replace hp2 := (fun hb h => Sl.below h hb) hb hp2))
    refine hK.out _ _ ?hsr3_75 (fun hH2 => ?hrr3_75)
    case hsr3_75 => exact S2i0 (by have hG := hH; replace hG := S2o0 hG; (try dsimp only at hG); have q0 := hG.1; have q1 := hG.2.1; have q2 := hG.2.2; exact ⟨keepBd hb q0, keepBd hb q1, keepBelow hb q2⟩)
    clear hK K hH
    have hH := hH2
    clear hH2
    try simp only [Act.put, sA, sB, sC]
    refine U1 10 0 rfl (fun K hK => ?_)
    try clear hb
    have hG := hH
    replace hG := S2o0 hG; (try dsimp only at hG); have q0 := hG.1; have q1 := hG.2.1; have q2 := hG.2.2
    go_simp
    (go_at_call 19; refine (HMB.out _ q2).mono ?_; rintro e wn ⟨A3, n3, c3, rfl, hp3, -, hb⟩; (try replace hJ := keepVZ hb hJ); (try replace hp1 := (fun hb h => Sl.below h hb) hb hp1); (try replace hp2 := (fun hb h => Sl.below h hb) hb hp2))
    refine hK.out _ _ ?hsr3_76 (fun hH2 => ?hrr3_76)
    case hsr3_76 => exact S2i0 (by have hG := hH; replace hG := S2o0 hG; (try dsimp only at hG); have q0 := hG.1; have q1 := hG.2.1; have q2 := hG.2.2; exact ⟨keepBd hb q0, keepBd hb q1, keepBelow hb q2⟩)
    clear hK K hH
    have hH := hH2
    clear hH2
    try simp only [Act.put, sA, sB, sC]
    refine U1 11 0 rfl (fun K hK => ?_)
    try clear hb
    go_simp
    (go_at_call 18; refine (HPB.out A3 n3 c3 _ hp3).mono ?_; rintro e wn ⟨A4, n4, c4, rfl, hp4, -, -, hb⟩; (try replace hJ := keepVZ hb hJ); (try replace hp1 := (fun hb h => Sl.below h hb) hb hp1); (try replace hp2 := (fun hb h => Sl.below h hb) hb hp2); (try replace hp3 := (fun hb h => Sl.below h hb) hb hp3))
    refine hK.out _ _ ?hsr3_77 (fun hH2 => ?hrr3_77)
    case hsr3_77 => exact S2i0 (by have hG := hH; replace hG := S2o0 hG; (try dsimp only at hG); have q0 := hG.1; have q1 := hG.2.1; have q2 := hG.2.2; exact ⟨keepBd hb q0, keepBd hb q1, keepBelow hb q2⟩)
    clear hK K hH
    have hH := hH2
    clear hH2
    try simp only [Act.put, sA, sB, sC]
    refine U1 12 0 rfl (fun K hK => ?_)
    try clear hb
    go_simp
    (go_at_call 48; refine (test_calls A2 A4 n2 c2 n4 c4 pa pb _ hp2 hp4).mono ?_; rintro e wn ⟨rfl, hb⟩; (try replace hJ := keepVZ hb hJ); (try replace hp1 := (fun hb h => Sl.below h hb) hb hp1); (try replace hp2 := (fun hb h => Sl.below h hb) hb hp2); (try replace hp3 := (fun hb h => Sl.below h hb) hb hp3); (try replace hp4 := (fun hb h => Sl.below h hb) hb hp4))
    refine hK.out _ _ ?hsr3_78 (fun hH2 => ?hrr3_78)
    case hsr3_78 => exact S2i0 (by have hG := hH; replace hG := S2o0 hG; (try dsimp only at hG); have q0 := hG.1; have q1 := hG.2.1; have q2 := hG.2.2; exact ⟨keepBd hb q0, keepBd hb q1, keepBelow hb q2⟩)
    clear hK K hH
    have hH := hH2
    clear hH2
    try simp only [Act.put, sA, sB, sC]
    refine Ut 13 12 6 0 0 (v := ?vr3_79) rfl hWr3 hH ?hyr3_79 ?_
    case hyr3_79 => (intro w' hSw; clear hSw; go_simp; try (with_reducible rfl))
    simp only [sB, sC]
    refine Ut 14 26 5 0 0 (v := ?vr3_80) rfl hWr3 hH ?hyr3_80 ?_
    case hyr3_80 => (intro w' hSw; clear hSw; go_simp; try (with_reducible rfl))
    simp only [sB, sC]
    refine Ut 15 27 4 0 0 (v := ?vr3_81) rfl hWr3 hH ?hyr3_81 ?_
    case hyr3_81 => (intro w' hSw; clear hSw; go_simp; try (with_reducible rfl))
    simp only [sB, sC]
    refine Ut 16 28 3 0 0 (v := ?vr3_82) rfl hWr3 hH ?hyr3_82 ?_
    case hyr3_82 => (intro w' hSw; clear hSw; go_simp; try (with_reducible rfl))
    simp only [sB, sC]
    refine Ut 18 9 2 0 0 (v := ?vr3_83) rfl hWr3 hH ?hyr3_83 ?_
    case hyr3_83 => (intro w' hSw; clear hSw; go_simp; try (with_reducible rfl))
    simp only [sB, sC]
    refine Ut 19 10 1 0 0 (v := ?vr3_84) rfl hWr3 hH ?hyr3_84 ?_
    case hyr3_84 => (intro w' hSw; clear hSw; go_simp; try (with_reducible rfl))
    simp only [sB, sC]
    refine wpAnyU_lst (l' := #[true, true, true, true, true, true, true, true, true, true, true, true, true, true, true, true, true, true, true, true, false]) (by kernel_rfl) ?_
    have hl2 : w.heap.size + 1 < gJ := by exact hlJ
    clear hlJ
    try clear hZJ
    try clear hp1
    try clear hp2
    try clear hp3
    try clear hp4
    try clear hb
    revert hH
    revert hJ
    revert hl2
    revert gJ
    revert wn
    revert A1 n1 c1 A2 n2 c2 A3 n3 c3 A4 n4 c4
    exact hNr3.out
   exact AllReadyU.nil
  refine Uc 0 rfl (fun K hK => ?_) ?_
  ·try clear hb
   have hG := hH
   replace hG := S2o0 hG; (try dsimp only at hG); have q0 := hG.1; have q1 := hG.2.1; have q2 := hG.2.2
   go_simp
   refine hK.out _ _ ?hsr3_85 (fun hH2 => ?hrr3_85)
   case hsr3_85 => exact S2i0 (by have hG := hH; replace hG := S2o0 hG; (try dsimp only at hG); have q0 := hG.1; have q1 := hG.2.1; have q2 := hG.2.2; exact ⟨q0.alloc _, q1.alloc _, keepBelow ((Below.refl _ _).alloc (Nat.le_refl _) _) q2⟩)
   clear hK K hH
   have hH := hH2
   clear hH2
   try simp only [Act.put, sA, sB, sC]
   have hJ : VZ ((W.alloc (.cells #[.int .i64 0, .int .i64 0] 23)).drew) W.heap.size := VZ.drew (VZ.here W 0 0 23)
   obtain ⟨gJ, hgJ⟩ : ∃ g, g = W.heap.size := ⟨_, rfl⟩
   have hlJ : w.heap.size + 1 < gJ := by rw [hgJ]; exact q1.lt
   rw [← hgJ] at hJ
   try rw [← hgJ]
   clear hgJ q0 q1 q2
   generalize (W.alloc (.cells #[.int .i64 0, .int .i64 0] 23)).drew = wx17 at *
   refine U1 3 0 rfl (fun K hK => ?_)
   try clear hb
   go_simp
   (go_at_call 14; refine (fmul_calls _ _ _).mono ?_; rw [HAT.out]; rintro e wn ⟨rfl, hb⟩; (try replace hJ := keepVZ hb hJ))
   refine hK.out _ _ ?hsr3_86 (fun hH2 => ?hrr3_86)
   case hsr3_86 => exact S2i0 (by have hG := hH; replace hG := S2o0 hG; (try dsimp only at hG); have q0 := hG.1; have q1 := hG.2.1; have q2 := hG.2.2; exact ⟨keepBd hb q0, keepBd hb q1, keepBelow hb q2⟩)
   clear hK K hH
   have hH := hH2
   clear hH2
   try simp only [Act.put, sA, sB, sC]
   refine U1 4 0 rfl (fun K hK => ?_)
   try clear hb
   have hG := hH
   replace hG := S2o0 hG; (try dsimp only at hG); have q0 := hG.1; have q1 := hG.2.1; have q2 := hG.2.2
   go_simp
   (go_at_call 19; refine (HMA.out _ q2).mono ?_; rintro e wn ⟨A1, n1, c1, rfl, hp1, -, hb⟩; (try replace hJ := keepVZ hb hJ))
   refine hK.out _ _ ?hsr3_87 (fun hH2 => ?hrr3_87)
   case hsr3_87 => exact S2i0 (by have hG := hH; replace hG := S2o0 hG; (try dsimp only at hG); have q0 := hG.1; have q1 := hG.2.1; have q2 := hG.2.2; exact ⟨keepBd hb q0, keepBd hb q1, keepBelow hb q2⟩)
   clear hK K hH
   have hH := hH2
   clear hH2
   try simp only [Act.put, sA, sB, sC]
   refine U1 5 0 rfl (fun K hK => ?_)
   try clear hb
   go_simp
   (go_at_call 18; refine (HPA.out A1 n1 c1 _ hp1).mono ?_; rintro e wn ⟨A2, n2, c2, rfl, hp2, -, -, hb⟩; (try replace hJ := keepVZ hb hJ); (try replace hp1 := (fun hb h => Sl.below h hb) hb hp1))
   refine hK.out _ _ ?hsr3_88 (fun hH2 => ?hrr3_88)
   case hsr3_88 => exact S2i0 (by have hG := hH; replace hG := S2o0 hG; (try dsimp only at hG); have q0 := hG.1; have q1 := hG.2.1; have q2 := hG.2.2; exact ⟨keepBd hb q0, keepBd hb q1, keepBelow hb q2⟩)
   clear hK K hH
   have hH := hH2
   clear hH2
   try simp only [Act.put, sA, sB, sC]
   refine U1 9 0 rfl (fun K hK => ?_)
   try clear hb
   go_simp
   (go_at_call 14; refine (fmul_calls _ _ _).mono ?_; rw [HAT.out]; rintro e wn ⟨rfl, hb⟩; (try replace hJ := keepVZ hb hJ); (try replace hp1 := (fun hb h => Sl.below h hb) hb hp1); (try replace hp2 := (fun hb h => Sl.below h hb) hb hp2))
   refine hK.out _ _ ?hsr3_89 (fun hH2 => ?hrr3_89)
   case hsr3_89 => exact S2i0 (by have hG := hH; replace hG := S2o0 hG; (try dsimp only at hG); have q0 := hG.1; have q1 := hG.2.1; have q2 := hG.2.2; exact ⟨keepBd hb q0, keepBd hb q1, keepBelow hb q2⟩)
   clear hK K hH
   have hH := hH2
   clear hH2
   try simp only [Act.put, sA, sB, sC]
   refine U1 10 0 rfl (fun K hK => ?_)
   try clear hb
   have hG := hH
   replace hG := S2o0 hG; (try dsimp only at hG); have q0 := hG.1; have q1 := hG.2.1; have q2 := hG.2.2
   go_simp
   (go_at_call 19; refine (HMB.out _ q2).mono ?_; rintro e wn ⟨A3, n3, c3, rfl, hp3, -, hb⟩; (try replace hJ := keepVZ hb hJ); (try replace hp1 := (fun hb h => Sl.below h hb) hb hp1); (try replace hp2 := (fun hb h => Sl.below h hb) hb hp2))
   refine hK.out _ _ ?hsr3_90 (fun hH2 => ?hrr3_90)
   case hsr3_90 => exact S2i0 (by have hG := hH; replace hG := S2o0 hG; (try dsimp only at hG); have q0 := hG.1; have q1 := hG.2.1; have q2 := hG.2.2; exact ⟨keepBd hb q0, keepBd hb q1, keepBelow hb q2⟩)
   clear hK K hH
   have hH := hH2
   clear hH2
   try simp only [Act.put, sA, sB, sC]
   refine U1 11 0 rfl (fun K hK => ?_)
   try clear hb
   go_simp
   (go_at_call 18; refine (HPB.out A3 n3 c3 _ hp3).mono ?_; rintro e wn ⟨A4, n4, c4, rfl, hp4, -, -, hb⟩; (try replace hJ := keepVZ hb hJ); (try replace hp1 := (fun hb h => Sl.below h hb) hb hp1); (try replace hp2 := (fun hb h => Sl.below h hb) hb hp2); (try replace hp3 := (fun hb h => Sl.below h hb) hb hp3))
   refine hK.out _ _ ?hsr3_91 (fun hH2 => ?hrr3_91)
   case hsr3_91 => exact S2i0 (by have hG := hH; replace hG := S2o0 hG; (try dsimp only at hG); have q0 := hG.1; have q1 := hG.2.1; have q2 := hG.2.2; exact ⟨keepBd hb q0, keepBd hb q1, keepBelow hb q2⟩)
   clear hK K hH
   have hH := hH2
   clear hH2
   try simp only [Act.put, sA, sB, sC]
   refine U1 12 0 rfl (fun K hK => ?_)
   try clear hb
   go_simp
   (go_at_call 48; refine (test_calls A2 A4 n2 c2 n4 c4 pa pb _ hp2 hp4).mono ?_; rintro e wn ⟨rfl, hb⟩; (try replace hJ := keepVZ hb hJ); (try replace hp1 := (fun hb h => Sl.below h hb) hb hp1); (try replace hp2 := (fun hb h => Sl.below h hb) hb hp2); (try replace hp3 := (fun hb h => Sl.below h hb) hb hp3); (try replace hp4 := (fun hb h => Sl.below h hb) hb hp4))
   refine hK.out _ _ ?hsr3_92 (fun hH2 => ?hrr3_92)
   case hsr3_92 => exact S2i0 (by have hG := hH; replace hG := S2o0 hG; (try dsimp only at hG); have q0 := hG.1; have q1 := hG.2.1; have q2 := hG.2.2; exact ⟨keepBd hb q0, keepBd hb q1, keepBelow hb q2⟩)
   clear hK K hH
   have hH := hH2
   clear hH2
   try simp only [Act.put, sA, sB, sC]
   refine Ut 13 12 6 0 0 (v := ?vr3_93) rfl hWr3 hH ?hyr3_93 ?_
   case hyr3_93 => (intro w' hSw; clear hSw; go_simp; try (with_reducible rfl))
   simp only [sB, sC]
   refine Ut 14 26 5 0 0 (v := ?vr3_94) rfl hWr3 hH ?hyr3_94 ?_
   case hyr3_94 => (intro w' hSw; clear hSw; go_simp; try (with_reducible rfl))
   simp only [sB, sC]
   refine Ut 15 27 4 0 0 (v := ?vr3_95) rfl hWr3 hH ?hyr3_95 ?_
   case hyr3_95 => (intro w' hSw; clear hSw; go_simp; try (with_reducible rfl))
   simp only [sB, sC]
   refine Ut 16 28 3 0 0 (v := ?vr3_96) rfl hWr3 hH ?hyr3_96 ?_
   case hyr3_96 => (intro w' hSw; clear hSw; go_simp; try (with_reducible rfl))
   simp only [sB, sC]
   refine Ut 18 9 2 0 0 (v := ?vr3_97) rfl hWr3 hH ?hyr3_97 ?_
   case hyr3_97 => (intro w' hSw; clear hSw; go_simp; try (with_reducible rfl))
   simp only [sB, sC]
   refine Ut 19 10 1 0 0 (v := ?vr3_98) rfl hWr3 hH ?hyr3_98 ?_
   case hyr3_98 => (intro w' hSw; clear hSw; go_simp; try (with_reducible rfl))
   simp only [sB, sC]
   refine wpAnyU_lst (l' := #[true, true, true, true, true, true, true, true, true, true, true, true, true, true, true, true, true, true, true, true, false]) (by kernel_rfl) ?_
   have hl2 : w.heap.size + 1 < gJ := by exact hlJ
   clear hlJ
   try clear hZJ
   try clear hp1
   try clear hp2
   try clear hp3
   try clear hp4
   try clear hb
   revert hH
   revert hJ
   revert hl2
   revert gJ
   revert wn
   revert A1 n1 c1 A2 n2 c2 A3 n3 c3 A4 n4 c4
   exact hNr3.out
  exact AllReadyU.nil
 case prfr3 =>
  intro A1 n1 c1 A2 n2 c2 A3 n3 c3 A4 n4 c4 wX gJ hl2 hJ hH
  have hWr3 : Weaker (S2 (fun w' => BdAt w' w.heap.size a A n c ∧ BdAt w' (w.heap.size + 1) b B m d ∧ Below w.heap.size w w')) := weaker2 _
  refine U1 20 1 rfl (fun K hK => ?_)
  try clear hb
  have hG := hH
  replace hG := S2o0 hG; (try dsimp only at hG); have fq0 := hG.1; have fq1 := hG.2.1; have fq2 := hG.2.2
  have HB2 := hid fq2
  have HJ := hid hJ
  obtain ⟨⟨vv0, vv1, y0, y1⟩, yf⟩ := hJ
  clear hG fq0 fq1 fq2
  go_simp
  refine hK.out _ _ ?hsr3_21 (fun hH2 => ?hrr3_21)
  case hsr3_21 => exact S2i1
  clear hK K hH
  have hH := hH2
  clear hH2
  try simp only [Act.put, sA, sB, sC]
  refine wpAnyU_done (by kernel_rfl) ?_ _ _
  refine NoPanic.normal ?_
  have HBF := hid ((HB2.out.setCell (p := ⟨gJ, 0, none⟩) (by show w.heap.size ≤ gJ; omega) (.int .i64 (tstX pa pb))).setCell (p := ⟨gJ, 1, none⟩) (by show w.heap.size ≤ gJ; omega) (.int .i64 (tstY pa pb)))
  clear HB2 HJ y0 y1 yf
  go_wp2
  go_returns
  exact ret_int HDP.out.symm HBF.out
end
end Go.Proofs.YtilncglnojjlaaaGreat
