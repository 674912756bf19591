/- Parts of a proof: contracts and laws. -/
import Derived.Test.YtilncglnojjlaaaS15
import Derived.Test.YtilncglnojjlaaaS17
namespace Go.Proofs.Ytilncglnojjlaaa
section
set_option linter.unusedVariables false
set_option linter.unusedSimpArgs false
open Go.RowKit
set_option maxRecDepth 100000 in
set_option maxHeartbeats 4000000 in
theorem rbody_calls (b : Bd) (A : Option Addr) (n c : Nat) (l : List V) (w : World) (hS : Sl w A n c l) : Calls Try.prog 80 #[bodyV b A n c] w (Ret (.int .i64 (bodyE b l)) w) := by
  obtain ⟨W, hW⟩ : ∃ W, W = w.alloc (.cells #[.int .i64 b.px, .int .i64 b.py, .int .i64 b.vx, .int .i64 b.vy, .int .i64 b.ang, .int .i64 b.spin, .int .i64 b.mass, .int .i64 b.iner, .int .i64 b.bounce, .int .i64 b.rub, .slice A n c, .bool b.asleep, .int .i64 b.calm] 68) := ⟨_, rfl⟩
  have HK := hid (show BdAt W w.heap.size b A n c by rw [hW]; exact BdAt.here w b A n c _)
  have hB : Below w.heap.size w W := by rw [hW]; go_grown
  have HS0 := hid (hS.below hB)
  clear hS
  obtain ⟨k0, k1, k2, k3, k4, k5, k6, k7, k8, k9, k10, k11, k12, _⟩ := HK.out
  go_enter Try.func80, Try.ntmps80
  go_wp2_with fail
  rw [← hW]
  clear hW k0 k1 k2 k3 k4 k5 k6 k7 k8 k9 k10 k11 k12
  refine (corners_calls _ _ _ l _ HS0.out).mono ?_
  rintro e w1 ⟨rfl, hb1⟩
  have HK1 := hid (keepBd hb1 HK.out)
  have hB1 := keepBelow hb1 hB
  clear hb1 HK hB HS0
  by_cases hE : shapeE l = 0
  · have HBE : Hid (bodyE b l = numE b) := by show _ = _; unfold bodyE; rw [if_neg (by simp [hE])]
    rw [hE]
    clear hE
    obtain ⟨k0, k1, k2, k3, k4, k5, k6, k7, k8, k9, k10, k11, k12, _⟩ := HK1.out
    go_wp2_with fail
    refine (coord_calls _ _ _ _ (by omega) (by omega)).mono ?_
    rintro e w2 ⟨rfl, hb2⟩
    have HK2 := hid (keepBd hb2 HK1.out)
    have hB2 := keepBelow hb2 hB1
    clear hb2 HK1 hB1 k0 k1 k2 k3 k4 k5 k6 k7 k8 k9 k10 k11 k12
    cases h0 : withinB 58982400 b.px b.py with
    | false =>
      have HR : Hid (bodyE b l = 1) := by show _ = _; rw [HBE.out]; simp [numE, h0]
      clear h0 HBE
      go_wp2
      go_returns
      exact ret_int HR.out.symm hB2
    | true =>
      have H0 := hid h0
      clear h0
      obtain ⟨k0, k1, k2, k3, k4, k5, k6, k7, k8, k9, k10, k11, k12, _⟩ := HK2.out
      go_wp2_with fail
      refine (coord_calls _ _ _ _ (by omega) (by omega)).mono ?_
      rintro e w3 ⟨rfl, hb3⟩
      have HK3 := hid (keepBd hb3 HK2.out)
      have hB3 := keepBelow hb3 hB2
      clear hb3 HK2 hB2 k0 k1 k2 k3 k4 k5 k6 k7 k8 k9 k10 k11 k12
      cases h1 : withinB 268435456 b.vx b.vy with
      | false =>
        have HR : Hid (bodyE b l = 1) := by show _ = _; rw [HBE.out]; simp [numE, h1, H0.out]
        clear h1 HBE
        go_wp2
        go_returns
        exact ret_int HR.out.symm hB3
      | true =>
        have H1 := hid h1
        clear h1
        obtain ⟨k0, k1, k2, k3, k4, k5, k6, k7, k8, k9, k10, k11, k12, _⟩ := HK3.out
        go_wp2_with fail
        refine (rbetween_calls _ _ _ _).mono ?_
        rintro e w4 ⟨rfl, hb4⟩
        have HK4 := hid (keepBd hb4 HK3.out)
        have hB4 := keepBelow hb4 hB3
        clear hb4 HK3 hB3 k0 k1 k2 k3 k4 k5 k6 k7 k8 k9 k10 k11 k12
        cases h2 : inB b.spin (-16777216) 16777216 with
        | false =>
          have HR : Hid (bodyE b l = 1) := by show _ = _; rw [HBE.out]; simp [numE, h2, H0.out, H1.out]
          clear h2 HBE
          go_wp2
          go_returns
          exact ret_int HR.out.symm hB4
        | true =>
          have H2 := hid h2
          clear h2
          obtain ⟨k0, k1, k2, k3, k4, k5, k6, k7, k8, k9, k10, k11, k12, _⟩ := HK4.out
          go_wp2_with fail
          refine (rbetween_calls _ _ _ _).mono ?_
          rintro e w5 ⟨rfl, hb5⟩
          have HK5 := hid (keepBd hb5 HK4.out)
          have hB5 := keepBelow hb5 hB4
          clear hb5 HK4 hB4 k0 k1 k2 k3 k4 k5 k6 k7 k8 k9 k10 k11 k12
          cases h3 : inB b.ang 0 65535 with
          | false =>
            have HR : Hid (bodyE b l = 1) := by show _ = _; rw [HBE.out]; simp [numE, h3, H0.out, H1.out, H2.out]
            clear h3 HBE
            go_wp2
            go_returns
            exact ret_int HR.out.symm hB5
          | true =>
            have H3 := hid h3
            clear h3
            obtain ⟨k0, k1, k2, k3, k4, k5, k6, k7, k8, k9, k10, k11, k12, _⟩ := HK5.out
            go_wp2_with fail
            refine (rbetween_calls _ _ _ _).mono ?_
            rintro e w6 ⟨rfl, hb6⟩
            have HK6 := hid (keepBd hb6 HK5.out)
            have hB6 := keepBelow hb6 hB5
            clear hb6 HK5 hB5 k0 k1 k2 k3 k4 k5 k6 k7 k8 k9 k10 k11 k12
            cases h4 : inB b.mass 0 1099511627776 with
            | false =>
              have HR : Hid (bodyE b l = 1) := by show _ = _; rw [HBE.out]; simp [numE, h4, H0.out, H1.out, H2.out, H3.out]
              clear h4 HBE
              go_wp2
              go_returns
              exact ret_int HR.out.symm hB6
            | true =>
              have H4 := hid h4
              clear h4
              obtain ⟨k0, k1, k2, k3, k4, k5, k6, k7, k8, k9, k10, k11, k12, _⟩ := HK6.out
              go_wp2_with fail
              refine (rbetween_calls _ _ _ _).mono ?_
              rintro e w7 ⟨rfl, hb7⟩
              have HK7 := hid (keepBd hb7 HK6.out)
              have hB7 := keepBelow hb7 hB6
              clear hb7 HK6 hB6 k0 k1 k2 k3 k4 k5 k6 k7 k8 k9 k10 k11 k12
              cases h5 : inB b.iner 0 1099511627776 with
              | false =>
                have HR : Hid (bodyE b l = 1) := by show _ = _; rw [HBE.out]; simp [numE, h5, H0.out, H1.out, H2.out, H3.out, H4.out]
                clear h5 HBE
                go_wp2
                go_returns
                exact ret_int HR.out.symm hB7
              | true =>
                have H5 := hid h5
                clear h5
                obtain ⟨k0, k1, k2, k3, k4, k5, k6, k7, k8, k9, k10, k11, k12, _⟩ := HK7.out
                go_wp2_with fail
                refine (rbetween_calls _ _ _ _).mono ?_
                rintro e w8 ⟨rfl, hb8⟩
                have HK8 := hid (keepBd hb8 HK7.out)
                have hB8 := keepBelow hb8 hB7
                clear hb8 HK7 hB7 k0 k1 k2 k3 k4 k5 k6 k7 k8 k9 k10 k11 k12
                cases h6 : inB b.bounce 0 65536 with
                | false =>
                  have HR : Hid (bodyE b l = 1) := by show _ = _; rw [HBE.out]; simp [numE, h6, H0.out, H1.out, H2.out, H3.out, H4.out, H5.out]
                  clear h6 HBE
                  go_wp2
                  go_returns
                  exact ret_int HR.out.symm hB8
                | true =>
                  have H6 := hid h6
                  clear h6
                  obtain ⟨k0, k1, k2, k3, k4, k5, k6, k7, k8, k9, k10, k11, k12, _⟩ := HK8.out
                  go_wp2_with fail
                  refine (rbetween_calls _ _ _ _).mono ?_
                  rintro e w9 ⟨rfl, hb9⟩
                  have HK9 := hid (keepBd hb9 HK8.out)
                  have hB9 := keepBelow hb9 hB8
                  clear hb9 HK8 hB8 k0 k1 k2 k3 k4 k5 k6 k7 k8 k9 k10 k11 k12
                  cases h7 : inB b.rub 0 65536 with
                  | false =>
                    have HR : Hid (bodyE b l = 1) := by show _ = _; rw [HBE.out]; simp [numE, h7, H0.out, H1.out, H2.out, H3.out, H4.out, H5.out, H6.out]
                    clear h7 HBE
                    go_wp2
                    go_returns
                    exact ret_int HR.out.symm hB9
                  | true =>
                    have H7 := hid h7
                    clear h7
                    obtain ⟨k0, k1, k2, k3, k4, k5, k6, k7, k8, k9, k10, k11, k12, _⟩ := HK9.out
                    go_wp2_with fail
                    refine (rbetween_calls _ _ _ _).mono ?_
                    rintro e w10 ⟨rfl, hb10⟩
                    have HK10 := hid (keepBd hb10 HK9.out)
                    have hB10 := keepBelow hb10 hB9
                    clear hb10 HK9 hB9 k0 k1 k2 k3 k4 k5 k6 k7 k8 k9 k10 k11 k12
                    cases h8 : inB b.calm 0 1000 with
                    | false =>
                      have HR : Hid (bodyE b l = 1) := by show _ = _; rw [HBE.out]; simp [numE, h8, H0.out, H1.out, H2.out, H3.out, H4.out, H5.out, H6.out, H7.out]
                      clear h8 HBE
                      go_wp2
                      go_returns
                      exact ret_int HR.out.symm hB10
                    | true =>
                      have H8 := hid h8
                      clear h8
                      have HNE : Hid (bodyE b l = if ((b.mass == 0) != (b.iner == 0)) || (b.mass == 0) && (!stillB b || b.asleep || (b.calm != 0)) || b.asleep && !stillB b then 3 else 0) := by
                        show _ = _
                        rw [HBE.out]
                        simp only [numE, H0.out, H1.out, H2.out, H3.out, H4.out, H5.out, H6.out, H7.out, H8.out, Bool.and_self, if_true]
                      have hm0 : b.mass = 0 ∨ 0 < b.mass := by have := inB_iff.1 H4.out; omega
                      have hi0 : b.iner = 0 ∨ 0 < b.iner := by have := inB_iff.1 H5.out; omega
                      have hc0 : b.calm = 0 ∨ 0 < b.calm := by have := inB_iff.1 H8.out; omega
                      clear HBE H0 H1 H2 H3 H4 H5 H6 H7 H8
                      obtain ⟨k0, k1, k2, k3, k4, k5, k6, k7, k8, k9, k10, k11, k12, _⟩ := HK10.out
                      go_upto_region 8 with fail
                      go_cut [4] from 61 to 75 (fun t wx => t = .bool (!stillB b) ∧ wx = w10)
                      case first =>
                        clear hm0 hi0 hc0
                        by_cases v1 : b.vx = 0
                        · by_cases v2 : b.vy = 0
                          · by_cases v3 : b.spin = 0
                            · have hs : stillB b = true := by simp [stillB, v1, v2, v3]
                              rw [v1] at k2
                              rw [v2] at k3
                              rw [v3] at k5
                              have HSB := hid hs
                              clear v1 v2 v3 hs HNE
                              go_wp2
                              go_meet
                              exact ⟨by rw [HSB.out]; rfl, rfl⟩
                            · have hs : stillB b = false := by simp [stillB, v3]
                              have v4 : (b.spin != 0) = true := by simp [v3]
                              rw [v1] at k2
                              rw [v2] at k3
                              have HSB := hid hs
                              clear v1 v2 v3 hs HNE
                              go_wp2
                              go_meet
                              exact ⟨by rw [HSB.out]; rfl, rfl⟩
                          · have hs : stillB b = false := by simp [stillB, v2]
                            have v4 : (b.vy != 0) = true := by simp [v2]
                            rw [v1] at k2
                            have HSB := hid hs
                            clear v1 v2 hs HNE
                            go_wp2
                            go_meet
                            exact ⟨by rw [HSB.out]; rfl, rfl⟩
                        · have hs : stillB b = false := by simp [stillB, v1]
                          have v4 : (b.vx != 0) = true := by simp [v1]
                          have HSB := hid hs
                          clear v1 hs HNE
                          go_wp2
                          go_meet
                          exact ⟨by rw [HSB.out]; rfl, rfl⟩
                      case rest =>
                        obtain ⟨rfl, hw⟩ := hcut
                        rw [hw]
                        clear hw wc
                        generalize stillB b = st at HNE ⊢
                        rcases hm0 with hm | hm
                        · have hme : (b.mass == 0) = true := by simp [hm]
                          rw [hm] at k6
                          rcases hi0 with hi | hi
                          · have hie : (b.iner == 0) = true := by simp [hi]
                            rw [hi] at k7
                            cases st with
                            | false =>
                              have HR : Hid (bodyE b l = 3) := by show _ = _; rw [HNE.out]; simp [*]
                              clear HNE
                              go_wp2
                              go_returns
                              exact ret_int HR.out.symm hB10
                            | true =>
                              cases ha : b.asleep with
                              | true =>
                                rw [ha] at k11 HNE
                                have HR : Hid (bodyE b l = 3) := by show _ = _; rw [HNE.out]; simp [*]
                                clear HNE
                                go_wp2
                                go_returns
                                exact ret_int HR.out.symm hB10
                              | false =>
                                rw [ha] at k11 HNE
                                rcases hc0 with hc | hc
                                · have hce : (b.calm != 0) = false := by simp [hc]
                                  rw [hc] at k12
                                  have HR : Hid (bodyE b l = 0) := by show _ = _; rw [HNE.out]; simp [*]
                                  clear HNE
                                  go_wp2
                                  go_returns
                                  exact ret_int HR.out.symm hB10
                                · have hce : (b.calm != 0) = true := by simp; omega
                                  have HR : Hid (bodyE b l = 3) := by show _ = _; rw [HNE.out]; simp [*]
                                  clear HNE
                                  go_wp2
                                  go_returns
                                  exact ret_int HR.out.symm hB10
                          · have hie : (b.iner == 0) = false := by simp; omega
                            have HR : Hid (bodyE b l = 3) := by show _ = _; rw [HNE.out]; simp [*]
                            clear HNE
                            go_wp2
                            go_returns
                            exact ret_int HR.out.symm hB10
                        · have hme : (b.mass == 0) = false := by simp; omega
                          rcases hi0 with hi | hi
                          · have hie : (b.iner == 0) = true := by simp [hi]
                            rw [hi] at k7
                            have HR : Hid (bodyE b l = 3) := by show _ = _; rw [HNE.out]; simp [*]
                            clear HNE
                            go_wp2
                            go_returns
                            exact ret_int HR.out.symm hB10
                          · have hie : (b.iner == 0) = false := by simp; omega
                            cases ha : b.asleep with
                            | true =>
                              rw [ha] at k11 HNE
                              cases st with
                              | true =>
                                have HR : Hid (bodyE b l = 0) := by show _ = _; rw [HNE.out]; simp [*]
                                clear HNE
                                go_wp2
                                go_returns
                                exact ret_int HR.out.symm hB10
                              | false =>
                                have HR : Hid (bodyE b l = 3) := by show _ = _; rw [HNE.out]; simp [*]
                                clear HNE
                                go_wp2
                                go_returns
                                exact ret_int HR.out.symm hB10
                            | false =>
                              rw [ha] at k11 HNE
                              have HR : Hid (bodyE b l = 0) := by show _ = _; rw [HNE.out]; simp [*]
                              clear HNE
                              go_wp2
                              go_returns
                              exact ret_int HR.out.symm hB10
  · have HR : Hid (bodyE b l = shapeE l) := by show _ = _; unfold bodyE; rw [if_pos hE]
    have hne : (shapeE l != 0) = true := by simp [hE]
    clear hE
    go_wp2
    go_returns
    exact ret_int HR.out.symm hB1
end
end Go.Proofs.Ytilncglnojjlaaa
