/- The contract of poly.Hull. -/
import Derived.Test.YtldlogcpnfmomaaI2
namespace Go.Proofs.Ytldlogcpnfmomaa
set_option linter.unusedVariables false
set_option linter.unusedSimpArgs false
open Go.RowKit Go.Sort Go.Lib

set_option maxRecDepth 100000 in
set_option maxHeartbeats 1000000 in
theorem hull1_calls (a b : Int) (w : World) : Calls Try.prog 118 #[vecV a b] w (Ret (.bool (!withinB 65536000 a b)) w) := by
  go_enter Try.func118, Try.ntmps118
  go_wp2_with (go_at_call 119; refine (within_calls _ _ _).mono ?_; rintro e w1 ⟨rfl, hb⟩)
  go_returns
  exact ⟨rfl, by simpa using ((Below.refl _ _).alloc (by simp) _).trans (hb.mono (by simp))⟩
theorem cf_hull1 (args : Array Value) (w : World) : (callFunc 118 args).run Try.prog w = .ok (.enter 118 args) w := by kernel_rfl

def hlP (p : List V) (k : Nat) : List V := if k = 1 then p.reverse else p
def hlO (p : List V) : Nat → List V
  | 0 => []
  | 1 => (chV p).tail.reverse
  | _ => hulV p
theorem hlO_succ (p : List V) (k : Nat) (hk : k < 2) : hlO p (k + 1) = hlO p k ++ (chV (hlP p k)).tail.reverse := by
  have : k = 0 ∨ k = 1 := by omega
  rcases this with rfl | rfl
  · rfl
  · rfl
theorem hlP_succ (p : List V) (k : Nat) (hk : k < 2) : hlP p (k + 1) = (hlP p k).reverse := by
  have : k = 0 ∨ k = 1 := by omega
  rcases this with rfl | rfl
  · rfl
  · simp [hlP]
theorem hlP_len (p : List V) (k : Nat) : (hlP p k).length = p.length := by unfold hlP; split <;> simp
theorem hlP_mem (p : List V) (k : Nat) (x : V) : x ∈ hlP p k ↔ x ∈ p := by unfold hlP; split <;> simp
theorem chF_snoc (s p : List V) (q : V) : chF s (p ++ [q]) = q :: popV q (chF s p) := by unfold chF; rw [List.foldl_append]; rfl
theorem chF_nil {p : List V} (h : chF [] p = []) : p = [] := by
  rcases List.eq_nil_or_concat p with g | ⟨p', q, g⟩
  · exact g
  · rw [g, List.concat_eq_append, chF_snoc] at h; cases h
theorem hlO_nil (k : Nat) : hlO [] k = [] := by
  match k with
  | 0 => rfl
  | 1 => rfl
  | k + 2 => rfl
theorem pop_len (q : V) : ∀ s : List V, (popV q s).length ≤ s.length
  | [] => Nat.le_refl _
  | [a] => Nat.le_refl _
  | a :: b :: r => by
    have := pop_len q (b :: r)
    rw [popV]
    split
    · simp only [List.length_cons] at *; omega
    · exact Nat.le_refl _
theorem pop_mem (q : V) : ∀ (s : List V) (x : V), x ∈ popV q s → x ∈ s
  | [], x, h => h
  | [a], x, h => h
  | a :: b :: r, x, h => by
    rw [popV] at h
    split at h
    · exact List.mem_cons_of_mem _ (pop_mem q (b :: r) x h)
    · exact h
theorem chF_bd : ∀ (p s : List V), (chF s p).length ≤ s.length + p.length ∧ ∀ x ∈ chF s p, x ∈ s ∨ x ∈ p
  | [], s => ⟨Nat.le_refl _, fun x hx => .inl hx⟩
  | q :: p, s => by
    obtain ⟨h1, h2⟩ := chF_bd p (q :: popV q s)
    have h3 := pop_len q s
    refine ⟨?_, fun x hx => ?_⟩
    · show (chF (q :: popV q s) p).length ≤ _
      simp only [List.length_cons] at *
      omega
    · rcases h2 x hx with g | g
      · rcases List.mem_cons.1 g with rfl | g
        · exact .inr (by simp)
        · exact .inl (pop_mem q s x g)
      · exact .inr (by simp [g])
theorem hlO_bd (p : List V) (k : Nat) : (hlO p k).length ≤ 2 * p.length ∧ ∀ x ∈ hlO p k, x ∈ p := by
  have h1 := chF_bd p []
  have h2 := chF_bd p.reverse []
  have e1 : (chV p).tail.length ≤ p.length := by rw [List.length_tail]; show (chF [] p).length - 1 ≤ _; have := h1.1; simp at this; omega
  have e2 : (chV p.reverse).tail.length ≤ p.length := by rw [List.length_tail]; show (chF [] p.reverse).length - 1 ≤ _; have := h2.1; simp at this; omega
  have m1 : ∀ x ∈ (chV p).tail, x ∈ p := fun x hx => by
    rcases h1.2 x (List.mem_of_mem_tail hx) with g | g
    · cases g
    · exact g
  have m2 : ∀ x ∈ (chV p.reverse).tail, x ∈ p := fun x hx => by
    rcases h2.2 x (List.mem_of_mem_tail hx) with g | g
    · cases g
    · simpa using g
  match k with
  | 0 => exact ⟨by simp [hlO], fun x hx => by cases hx⟩
  | 1 => exact ⟨by show ((chV p).tail.reverse).length ≤ _; rw [List.length_reverse]; omega, fun x hx => m1 x (by simpa [hlO] using hx)⟩
  | k + 2 =>
    refine ⟨?_, fun x hx => ?_⟩
    · show (hulV p).length ≤ _
      unfold hulV
      rw [List.length_append, List.length_reverse, List.length_reverse]
      omega
    · have hx : x ∈ hulV p := hx
      unfold hulV at hx
      rcases List.mem_append.1 hx with g | g
      · exact m1 x (List.mem_reverse.1 g)
      · exact m2 x (List.mem_reverse.1 g)

/-- the state of poly.Hull: the points, and the list under way -/
structure HW (w0 wr : World) (B0 Bo : Nat) (sp : Value) (P : List V) (so : Value) (L : List V) : Prop where
  o : Own wr Bo so L
  p : Own wr B0 sp P
  b : Below w0.heap.size w0 wr
  z : Bo ≤ wr.heap.size
  pb : ∀ k, sp.ownBlock = some k → k < Bo
  l1 : w0.heap.size ≤ B0
  l2 : w0.heap.size ≤ Bo
section
variable {w0 wr w' : World} {B0 Bo : Nat} {sp so : Value} {P L : List V}
theorem HW.keep' (hb : Below wr.heap.size wr w') (h : HW w0 wr B0 Bo sp P so L) : HW w0 w' B0 Bo sp P so L :=
  ⟨h.o.below hb, h.p.below hb, keepBelow hb h.b, Nat.le_trans h.z hb.size, h.pb, h.l1, h.l2⟩
theorem HW.drew (h : HW w0 wr B0 Bo sp P so L) : HW w0 wr.drew B0 Bo sp P so L := h.keep' (Below.refl _ _).drew
theorem HW.app {so' : Value} {L' : List V} (h : HW w0 wr B0 Bo sp P so L) (ho : Own w' Bo so' L') (hg : wr.grownBy w' so.ownBlock) : HW w0 w' B0 Bo sp P so' L' := by
  refine ⟨ho, h.p.kept' hg ?_, h.b.trans ((h.o.grown hg h.z).mono h.l2), Nat.le_trans h.z hg.size, h.pb, h.l1, h.l2⟩
  cases hv : sp.ownBlock with
  | none => exact .inl rfl
  | some k =>
    refine .inr fun e => ?_
    have := h.pb k hv
    have := (World.ownsRow.lt h.o k e.symm).1
    omega
theorem HW.rev {P' : List V} (h : HW w0 wr B0 Bo sp P so L) (hp : Own w' B0 sp P') (hg : wr.grownBy w' sp.ownBlock) : HW w0 w' B0 Bo sp P' so L := by
  refine ⟨h.o.kept' hg ?_, hp, h.b.grown hg h.b.size (fun k hk => Nat.le_trans h.l1 (World.ownsRow.lt h.p k hk).1), Nat.le_trans h.z hg.size, h.pb, h.l1, h.l2⟩
  cases hv : so.ownBlock with
  | none => exact .inl rfl
  | some k =>
    refine .inr fun e => ?_
    have := h.pb k e.symm
    have := (World.ownsRow.lt h.o k hv).1
    omega
theorem HW.cut {g n cap m : Nat} (h : HW w0 wr B0 Bo sp P (.slice (some ⟨g, 0, none⟩) n cap) L) (hm : m ≤ L.length) : HW w0 wr B0 Bo sp P (.slice (some ⟨g, 0, none⟩) m cap) (L.take m) := ⟨h.o.tk hm, h.p, h.b, h.z, h.pb, h.l1, h.l2⟩
end
theorem lit1 (w : World) (x y : Int) : Cells (w.alloc (.cells #[.int .i64 x, .int .i64 y] 25)) w.heap.size 0 [(x, y)] :=
  ⟨by simp, fun j hj => by have : j = 0 := by simpa using hj
                           subst this; go_simp; rfl, fun j hj => by have : j = 0 := by simpa using hj
                                                                    subst this; go_simp; rfl⟩
theorem take_top {O : List V} {a : V} {r : List V} : (O ++ (a :: r).reverse).take ((O ++ (a :: r).reverse).length - 1) = O ++ r.reverse := by
  rw [← List.dropLast_eq_take, List.reverse_cons, ← List.append_assoc, List.dropLast_concat]

set_option maxRecDepth 100000 in
set_option maxHeartbeats 4000000 in
theorem hull_calls (A : Option Addr) (n c : Nat) (l : List V) (w : World) (hS : Sl w A n c l) : Calls Try.prog 36 #[.slice A n c] w fun e w' => ∃ s, e = .returned (.tuple #[s, .int .i64 (hullE l)]) ∧ Own w' w.heap.size s (hullL l) ∧ Below w.heap.size w w' := by
  have hn := hS.len
  subst hn
  by_cases h64 : 64 < l.length
  · have HE : Hid (hullE l = 2) := by show _ = _; unfold hullE; rw [if_pos h64]
    have HL : Hid (hullL l = []) := by show _ = _; unfold hullL; rw [HE.out]; rfl
    clear hS
    go_enter Try.func36, Try.ntmps36
    go_wp2
    refine bodyPost_ret (v := .tuple #[.slice none 0 0, .int .i64 2]) (by simp [results, Try.results36, go_sem]) rfl ⟨_, by rw [HE.out], by rw [HL.out]; exact Own.nil _ _, Below.refl _ _⟩
  have hany : (l.any fun p => !withinB 65536000 p.1 p.2) = !allWithin 65536000 l := any_not_within _ _
  have HC : Hid (∀ w' : World, Below w.heap.size w w' → Calls Try.prog 81 #[.slice A l.length c, .func (.func 118) #[] #[]] w' (Ret (.bool (!allWithin 65536000 l)) w')) := fun w' hb => by
    have := containsFunc_any 118 (fun p => !withinB 65536000 p.1 p.2) cf_hull1 hull1_calls A l.length c l w' (hS.below hb)
    rwa [hany] at this
  have HS := hid hS
  have hcap := hS.cap
  have hbig := hS.big
  clear hS hany
  cases hw : allWithin 65536000 l with
  | false =>
    have HE : Hid (hullE l = 1) := by show _ = _; unfold hullE; rw [if_neg h64, if_pos hw]
    have HL : Hid (hullL l = []) := by show _ = _; unfold hullL; rw [HE.out]; rfl
    rw [hw] at HC
    clear hw HS
    go_enter Try.func36, Try.ntmps36
    go_wp2_with (go_at_call 81; refine (HC.out _ (Below.refl _ _)).mono ?_; rintro e w1 ⟨rfl, hb⟩)
    refine bodyPost_ret (v := .tuple #[.slice none 0 0, .int .i64 1]) (by simp [results, Try.results36, go_sem]) rfl ⟨_, by rw [HE.out], by rw [HL.out]; exact Own.nil _ _, hb⟩
  | true =>
    rw [hw] at HC
    have hwi : ∀ x ∈ l, withinB 65536000 x.1 x.2 = true := fun x hx => by unfold allWithin at hw; exact List.all_eq_true.1 hw x hx
    have HWI := hid hwi
    have HW1 := hid hw
    clear hw hwi
    go_enter Try.func36, Try.ntmps36
    go_wp2_with (first
      | (go_at_call 81; refine (HC.out _ (Below.refl _ _)).mono ?_; rintro e w1 ⟨rfl, hb1⟩)
      | (go_at_call 101; refine (cloneO_calls _ _ _ l _ (HS.out.below hb1) (by omega)).mono ?_; rintro e w2 ⟨s2, rfl, ho2, hb2⟩; have HB2 := hid (hb1.trans (hb2.mono hb1.size)); have HO2 := hid (ho2.monoB hb1.size); clear ho2 hb2 hb1 HC; obtain ⟨A2, n2, c2, rfl, hs2, -⟩ := HO2.out.sl; have hn2 := hs2.len; clear hs2; subst hn2)
      | (go_at_call 120; refine (sortV_calls l HWI.out _ _ _ HO2.out (by omega)).mono ?_; rintro e w3 ⟨rfl, ⟨o3, hp3, hpw3, ho3⟩, hg3⟩; have HO3 := hid ho3; have HB3 := hid (HB2.out.trans (HO2.out.grown hg3 HB2.out.size)); have HP3 := hid (And.intro hp3 hpw3); clear ho3 hg3 hp3 hpw3 HO2 HB2)
      | (go_at_call 122; refine (compactV_calls _ o3 _ _ HO3.out (by have := HP3.out.1.length_eq; omega)).mono ?_; rintro e w4 ⟨s4, rfl, -, ho4, hg4⟩; have HO4 := hid ho4; have HB4 := hid (HB3.out.trans (HO3.out.grown hg4 HB3.out.size)); clear ho4 hg4 HO3 HB3; obtain ⟨A4, n4, c4, rfl, hs4, -⟩ := HO4.out.sl; have HN4 := hid hs4.len; clear hs4))
    obtain ⟨p, hp⟩ : ∃ p, p = cmpL o3 := ⟨_, rfl⟩
    have HPP : Hid (p.Pairwise lowV ∧ ∀ x, x ∈ p ↔ x ∈ l) := by
      obtain ⟨h1, h2⟩ := cmp_spec HP3.out.2
      rw [← hp] at h1 h2
      exact ⟨h1, fun x => (h2 x).trans HP3.out.1.mem_iff⟩
    have hpl : p.length ≤ 64 := by
      have h1 := HP3.out.1.length_eq
      have h2 := cmTo_len o3 o3.length
      rw [hp]
      show (cmTo o3 o3.length).length ≤ 64
      omega
    rw [← hp] at HO4 HN4
    have HW0 : Hid (HW w w4 w.heap.size w4.heap.size (.slice A4 n4 c4) p (.slice none 0 0) (hlO p 0)) := ⟨Own.nil _ _, HO4.out, HB4.out, Nat.le_refl _, fun k hk => (World.ownsRow.lt HO4.out k hk).2, Nat.le_refl _, HB4.out.size⟩
    have HPW : Hid (∀ x ∈ p, withinB 65536000 x.1 x.2 = true) := fun x hx => HWI.out x ((HPP.out.2 x).1 hx)
    clear hp HO4 HB4 HP3 HWI
    obtain ⟨Bo, hBo⟩ : ∃ B, B = w4.heap.size := ⟨_, rfl⟩
    obtain ⟨B0, hB0⟩ : ∃ B, B = w.heap.size := ⟨_, rfl⟩
    have HBB := hid (And.intro hBo hB0)
    have HW0' : Hid (HW w w4 B0 Bo (.slice A4 n4 c4) (hlP p 0) (.slice none 0 0) (hlO p 0)) := by rw [hBo, hB0]; exact HW0
    clear HW0 hBo hB0
    go_loopw [20, 5] (fun i so wr => ∃ k : Nat, k ≤ 2 ∧ i = .int .i64 k ∧ HW w wr B0 Bo (.slice A4 n4 c4) (hlP p k) so (hlO p k)) (fun i _ _ => 2 - (intOf i).toNat)
    case atStart => exact ⟨0, by omega, rfl, HW0'.out⟩
    case round =>
      clear HW0'
      obtain ⟨k, hk, rfl, hw⟩ := hrel
      obtain ⟨wo, rfl⟩ : ∃ wo : World, wo = wr := ⟨_, rfl⟩
      obtain ⟨Ao, no, co, rfl, hso, -⟩ := hw.o.sl
      have hno := hso.len
      clear hso
      have HH := hid hw
      clear hw
      by_cases hk2 : k < 2
      · obtain ⟨P, hP⟩ : ∃ P, P = hlP p k := ⟨_, rfl⟩
        obtain ⟨O, hO⟩ : ∃ O, O = hlO p k := ⟨_, rfl⟩
        have HPn : Hid (hlP p (k + 1) = P.reverse) := by show _ = _; rw [hP]; exact hlP_succ p k hk2
        have HOn : Hid (hlO p (k + 1) = O ++ (chV P).tail.reverse) := by show _ = _; rw [hP, hO]; exact hlO_succ p k hk2
        have HO0 : Hid (chF [] P = [] → O = []) := fun h0 => by
          have hP0 : P = [] := chF_nil h0
          have hp0 : p = [] := by
            have : (hlP p k).length = 0 := by rw [← hP, hP0]; rfl
            rw [hlP_len] at this
            exact List.length_eq_zero_iff.1 this
          rw [hO, hp0]
          exact hlO_nil k
        have hPl : P.length = n4 := by rw [hP, hlP_len]; exact HN4.out.symm
        have HPw : Hid (∀ x ∈ P, withinB 65536000 x.1 x.2 = true) := fun x hx => HPW.out x ((hlP_mem p k x).1 (by rw [← hP]; exact hx))
        have HOw : Hid (O.length ≤ 128 ∧ ∀ x ∈ O, withinB 65536000 x.1 x.2 = true) := by
          obtain ⟨h1, h2⟩ := hlO_bd p k
          rw [← hO] at h1 h2
          exact ⟨by omega, fun x hx => HPW.out x (h2 x hx)⟩
        rw [← hP, ← hO] at HH
        rw [← hO] at hno
        have hk2' : (k : Int) < 2 := by omega
        have hkw : IntKind.i64.wrap ((k : Int) + 1) = (k : Int) + 1 := IntWalk.i64_in _ (by omega)
        have hO128 : no ≤ 128 := by have := HOw.out.1; omega
        have hn64 : n4 ≤ 64 := by rw [HN4.out]; exact hpl
        have HPL := hid hPl
        have HNO := hid hno
        clear hP hO hPl hno hpl
        go_wp2
        go_loopw [26, 5] (fun mi so wr => ∃ m : Nat, m ≤ n4 ∧ mi = .int .i64 m ∧ HW w wr B0 Bo (.slice A4 n4 c4) P so (O ++ (chF [] (P.take m)).reverse)) (fun mi _ _ => n4 - (intOf mi).toNat)
        case atStart => exact ⟨0, Nat.zero_le _, rfl, by simpa [chF] using HH.out⟩
        case round =>
          clear HH
          obtain ⟨m, hm, rfl, hw⟩ := hrel
          obtain ⟨wi, rfl⟩ : ∃ wi : World, wi = wr := ⟨_, rfl⟩
          have HH := hid hw
          by_cases hm2 : m < n4
          · rcases hw.p.frm with ⟨e1, e2⟩ | ⟨gp, cp, e1, -, hgp, -, -, -, hcp⟩
            · exfalso
              have := HPL.out
              rw [e2] at this
              simp at this
              omega
            obtain ⟨eA, -, ec⟩ : A4 = some ⟨gp, 0, none⟩ ∧ n4 = P.length ∧ c4 = cp := by injection e1 with eA e2 ec; exact ⟨eA, e2, ec⟩
            have hmP : m < P.length := by have := HPL.out; omega
            obtain ⟨x0, y0⟩ := hcp m hmP
            have hwq := HPw.out _ (ptL_mem hmP)
            have HNX : Hid (O ++ (chF [] (P.take (m + 1))).reverse = (O ++ (popV (ptL P m) (chF [] (P.take m))).reverse) ++ [ptL P m]) := by
              show _ = _
              rw [← List.take_append_getElem hmP, chF_snoc, ← ptL_get hmP, List.reverse_cons, List.append_assoc]
            have HCB : Hid ((chF [] (P.take m)).length ≤ 64 ∧ ∀ x ∈ chF [] (P.take m), withinB 65536000 x.1 x.2 = true) := by
              obtain ⟨h1, h2⟩ := chF_bd (P.take m) []
              refine ⟨by simp at h1; omega, fun x hx => ?_⟩
              rcases h2 x hx with g | g
              · cases g
              · exact HPw.out x (List.mem_of_mem_take g)
            have hx1 : px P m = (ptL P m).1 := rfl
            have hy1 : py P m = (ptL P m).2 := rfl
            rw [hx1] at x0
            rw [hy1] at y0
            clear hx1 hy1
            generalize chF [] (P.take m) = st0 at *
            obtain ⟨Q, hQ⟩ : ∃ Q, Q = ptL P m := ⟨_, rfl⟩
            rw [← hQ] at HNX x0 y0 hwq
            clear hQ
            obtain ⟨x, y⟩ := Q
            have HWQ := hid hwq
            dsimp only at x0 y0
            subst eA
            subst ec
            clear hwq hcp e1 hw
            obtain ⟨Ai, ni, ci, rfl, -, -⟩ := HH.out.o.sl
            have hmw : IntKind.i64.wrap ((m : Int) + 1) = (m : Int) + 1 := IntWalk.i64_in _ (by omega)
            have hm2' : (m : Int) < (n4 : Int) := by omega
            have hmL : m + 1 ≤ n4 := by omega
            obtain ⟨gq, hgq⟩ : ∃ g, g = wi.heap.size := ⟨_, rfl⟩
            obtain ⟨wq, hwq⟩ : ∃ w, w = wi.alloc (.cells #[.int .i64 x, .int .i64 y] 25) := ⟨_, rfl⟩
            have HH1 : Hid (HW w wq B0 Bo (.slice (some ⟨gp, 0, none⟩) n4 c4) P (.slice Ai ni ci) (O ++ st0.reverse)) := by rw [hwq]; exact HH.out.keep' ((Below.refl _ _).alloc (Nat.le_refl _) _)
            have HV1 : Hid (Vc wq gq x y) := by rw [hwq, hgq]; exact Vc.here wi x y _
            go_wp2
            rw [← hwq, ← hgq]
            clear HH hwq hgq x0 y0 hgp
            go_loopw [5] (fun so wr => ∃ st : List V, st.length ≤ 64 ∧ (∀ x ∈ st, withinB 65536000 x.1 x.2 = true) ∧ popV (x, y) st = popV (x, y) st0 ∧ HW w wr B0 Bo (.slice (some ⟨gp, 0, none⟩) n4 c4) P so (O ++ st.reverse) ∧ Vc wr gq x y) (fun so _ => slLen so)
            case atStart => exact ⟨st0, HCB.out.1, HCB.out.2, rfl, HH1.out, HV1.out⟩
            case round =>
              clear HH1 HV1 HCB
              obtain ⟨st, hst1, hst2, hst3, hw, hv⟩ := hrel
              obtain ⟨wj, rfl⟩ : ∃ wj : World, wj = wr := ⟨_, rfl⟩
              have HP3 := hid hst3
              clear hst3
              obtain ⟨Aj, N, cap, hjs, hslj, -⟩ := hw.o.sl
              subst hjs
              have hN := hslj.len
              rw [List.length_append, List.length_reverse, ← HNO.out] at hN
              clear hslj
              have hNw : IntKind.i64.wrap ((no : Int) + 2) = (no : Int) + 2 := IntWalk.i64_in _ (by omega)
              by_cases h2 : 2 ≤ st.length
              · obtain ⟨a, b, r, rfl⟩ : ∃ a b r, st = a :: b :: r := by
                  rcases st with _ | ⟨a, _ | ⟨b, r⟩⟩
                  · simp at h2
                  · simp at h2
                  · exact ⟨a, b, r, rfl⟩
                obtain ⟨L, hL⟩ : ∃ L, L = O ++ (a :: b :: r).reverse := ⟨_, rfl⟩
                have hLl : L.length = N := by rw [hL, List.length_append, List.length_reverse, ← HNO.out, hN]
                rw [← hL] at hw
                rcases hw.o.frm with ⟨e1, e2⟩ | ⟨g, cp2, e1, -, hgw, hLc, hcm, hfz, hc⟩
                · exfalso
                  rw [e2] at hLl
                  simp only [List.length_nil, List.length_cons] at hLl hN
                  omega
                obtain ⟨eA, -, ec⟩ : Aj = some ⟨g, 0, none⟩ ∧ N = L.length ∧ cap = cp2 := by injection e1 with eA e2 ec; exact ⟨eA, e2, ec⟩
                subst eA
                subst ec
                have hN3 : no + 2 ≤ N := by simp only [List.length_cons] at hN; omega
                have pt1 : ptL L (N - 1) = a := by
                  rw [ptL_get (by omega)]
                  have : L = (O ++ (b :: r).reverse) ++ [a] := by rw [hL, List.reverse_cons, List.append_assoc]
                  subst this
                  rw [List.getElem_append_right (by simp at hLl ⊢; omega)]
                  simp
                have pt2 : ptL L (N - 2) = b := by
                  rw [ptL_get (by omega)]
                  have : L = (O ++ r.reverse) ++ ([b] ++ [a]) := by rw [hL, List.reverse_cons, List.reverse_cons]; simp
                  subst this
                  have e3 : N - 2 = (O ++ r.reverse).length := by simp at hLl ⊢; omega
                  simp only [e3]
                  rw [List.getElem_append_right (by omega)]
                  simp
                obtain ⟨k0, k1⟩ := hc (N - 2) (by omega)
                obtain ⟨k2, k3⟩ := hc (N - 1) (by omega)
                rw [show px L (N - 2) = b.1 from congrArg Prod.fst pt2] at k0
                rw [show py L (N - 2) = b.2 from congrArg Prod.snd pt2] at k1
                rw [show px L (N - 1) = a.1 from congrArg Prod.fst pt1] at k2
                rw [show py L (N - 1) = a.2 from congrArg Prod.snd pt1] at k3
                have HWA := hid (hst2 a (by simp))
                have HWB := hid (hst2 b (by simp))
                have HLT : Hid (L.take (N - 1) = O ++ (b :: r).reverse) := by show _ = _; rw [← hLl, hL]; exact take_top
                have HLe := hid hL
                have HST := hid (And.intro hst1 hst2)
                clear hst1 hst2 pt1 pt2 hc e1 hL
                obtain ⟨z, hz⟩ : ∃ z, z = sd b a (x, y) := ⟨_, rfl⟩
                obtain ⟨a0, a1⟩ := a
                obtain ⟨b0, b1⟩ := b
                dsimp only at k0 k1 k2 k3
                have HZ : Hid (sideZ b0 b1 a0 a1 x y = z) := by show _ = _; rw [hz]; rfl
                have HZ2 := hid hz
                clear hz
                have k4 := hv.a
                have k5 := hv.b
                have hgq := hv.lt
                have HH := hid hw
                have HV := hid hv
                have hN2w : IntKind.i64.wrap ((N : Int) - 2) = ((N - 2 : Nat) : Int) := by rw [IntWalk.i64_in _ (by omega)]; omega
                have hN1w : IntKind.i64.wrap ((N : Int) - 1) = ((N - 1 : Nat) : Int) := by rw [IntWalk.i64_in _ (by omega)]; omega
                have hi1 : N - 2 < N := by omega
                have hi2 : N - 1 < N := by omega
                have hi3 : ((N - 2 : Nat) : Int) < (N : Int) := by omega
                have hi4 : ((N - 1 : Nat) : Int) < (N : Int) := by omega
                have hge : (no : Int) + 2 ≤ (N : Int) := by omega
                have hi5 : N - 1 ≤ cap := by omega
                have HLL := hid hLl
                have HNN := hid hN
                clear hw hv hLl hN h2 hN3 hLc hcm
                obtain ⟨sp, hsp⟩ : ∃ s : Value, s = .slice (some ⟨gp, 0, none⟩) n4 c4 := ⟨_, rfl⟩
                rw [← hsp] at HH
                go_upto_region 15 with fail
                refine wp_region_noPanic ?_
                refine wp_region_U (S := (S2 (fun w' => w'.cell? ⟨g, (N - 2) * 2, none⟩ = some (.int .i64 b0) ∧ w'.cell? ⟨g, (N - 2) * 2 + 1, none⟩ = some (.int .i64 b1) ∧ w'.cell? ⟨g, (N - 1) * 2, none⟩ = some (.int .i64 a0) ∧ w'.cell? ⟨g, (N - 1) * 2 + 1, none⟩ = some (.int .i64 a1) ∧ w'.cell? ⟨gq, 0, none⟩ = some (.int .i64 x) ∧ w'.cell? ⟨gq, 1, none⟩ = some (.int .i64 y) ∧ HW w w' B0 Bo sp P (.slice (some ⟨g, 0, none⟩) N cap) L ∧ Vc w' gq x y))) (T := (fun _ => 0)) (by kernel_rfl) (S2i0 ⟨k0, k1, k2, k3, k4, k5, HH.out.drew, HV.out.drew⟩) (fun hH => ?_)
                have hWr1 : Weaker (S2 (fun w' => w'.cell? ⟨g, (N - 2) * 2, none⟩ = some (.int .i64 b0) ∧ w'.cell? ⟨g, (N - 2) * 2 + 1, none⟩ = some (.int .i64 b1) ∧ w'.cell? ⟨g, (N - 1) * 2, none⟩ = some (.int .i64 a0) ∧ w'.cell? ⟨g, (N - 1) * 2 + 1, none⟩ = some (.int .i64 a1) ∧ w'.cell? ⟨gq, 0, none⟩ = some (.int .i64 x) ∧ w'.cell? ⟨gq, 1, none⟩ = some (.int .i64 y) ∧ HW w w' B0 Bo sp P (.slice (some ⟨g, 0, none⟩) N cap) L ∧ Vc w' gq x y)) := weaker2 _
                refine Ut 0 30 21 0 0 (v := ?vr1_1) rfl hWr1 hH ?yr1_1 ?_
                case yr1_1 => (intro w' hSw; clear hSw; go_simp; try (with_reducible rfl))
                simp only [sB, sC]
                refine Ut 1 31 20 0 0 (v := ?vr1_2) rfl hWr1 hH ?yr1_2 ?_
                case yr1_2 => (intro w' hSw; clear hSw; go_simp; try (with_reducible rfl))
                simp only [sB, sC]
                refine Ut 2 32 19 0 0 (v := ?vr1_3) rfl hWr1 hH ?yr1_3 ?_
                case yr1_3 => (intro w' hSw; clear hSw; go_simp; try (with_reducible rfl))
                simp only [sB, sC]
                refine Ut 3 33 18 0 0 (v := ?vr1_4) rfl hWr1 hH ?yr1_4 ?_
                case yr1_4 => (intro w' hSw; clear hSw; go_simp; try (with_reducible rfl))
                simp only [sB, sC]
                refine Ut 4 34 17 0 0 (v := ?vr1_5) rfl hWr1 hH ?yr1_5 ?_
                case yr1_5 => (intro w' hSw; clear hSw; go_simp; try (with_reducible rfl))
                simp only [sB, sC]
                refine Ut 5 35 16 0 0 (v := ?vr1_6) rfl hWr1 hH ?yr1_6 ?_
                case yr1_6 => (intro w' hSw; clear hSw; go_simp; try (with_reducible rfl))
                simp only [sB, sC]
                refine Ut 6 36 15 0 0 (v := ?vr1_7) rfl hWr1 hH ?yr1_7 ?_
                case yr1_7 => (intro w' hSw; clear hSw; go_simp; try (with_reducible rfl))
                simp only [sB, sC]
                refine Ut 7 37 14 0 0 (v := ?vr1_8) rfl hWr1 hH ?yr1_8 ?_
                case yr1_8 => (intro w' hSw; clear hSw; go_simp; try (with_reducible rfl))
                simp only [sB, sC]
                refine Ut 8 38 13 0 0 (v := ?vr1_9) rfl hWr1 hH ?yr1_9 ?_
                case yr1_9 => (intro w' hSw; clear hSw; go_simp; try (with_reducible rfl))
                simp only [sB, sC]
                refine Ut 9 39 12 0 0 (v := ?vr1_10) rfl hWr1 hH ?yr1_10 ?_
                case yr1_10 => (intro w' hSw; clear hSw; go_simp; try (with_reducible rfl))
                simp only [sB, sC]
                refine Ut 10 40 11 0 0 (v := ?vr1_11) rfl hWr1 hH ?yr1_11 ?_
                case yr1_11 => (intro w' hSw; clear hSw; go_simp; try (with_reducible rfl))
                simp only [sB, sC]
                refine Ut 11 41 10 0 0 (v := ?vr1_12) rfl hWr1 hH ?yr1_12 ?_
                case yr1_12 => (intro w' hSw; replace hSw := S2o0 hSw; (try dsimp only at hSw); have q0 := hSw.1; have q1 := hSw.2.1; have q2 := hSw.2.2.1; have q3 := hSw.2.2.2.1; have q4 := hSw.2.2.2.2.1; have q5 := hSw.2.2.2.2.2.1; have q6 := hSw.2.2.2.2.2.2.1; have q7 := hSw.2.2.2.2.2.2.2; go_simp; try (with_reducible rfl))
                simp only [sB, sC]
                refine Ut 12 42 9 0 0 (v := ?vr1_13) rfl hWr1 hH ?yr1_13 ?_
                case yr1_13 => (intro w' hSw; clear hSw; go_simp; try (with_reducible rfl))
                simp only [sB, sC]
                refine Ut 13 43 8 0 0 (v := ?vr1_14) rfl hWr1 hH ?yr1_14 ?_
                case yr1_14 => (intro w' hSw; clear hSw; go_simp; try (with_reducible rfl))
                simp only [sB, sC]
                refine Ut 14 44 7 0 0 (v := ?vr1_15) rfl hWr1 hH ?yr1_15 ?_
                case yr1_15 => (intro w' hSw; clear hSw; go_simp; try (with_reducible rfl))
                simp only [sB, sC]
                refine Ut 15 45 6 0 0 (v := ?vr1_16) rfl hWr1 hH ?yr1_16 ?_
                case yr1_16 => (intro w' hSw; clear hSw; go_simp; try (with_reducible rfl))
                simp only [sB, sC]
                refine Ut 16 46 5 0 0 (v := ?vr1_17) rfl hWr1 hH ?yr1_17 ?_
                case yr1_17 => (intro w' hSw; clear hSw; go_simp; try (with_reducible rfl))
                simp only [sB, sC]
                refine Ut 17 47 4 0 0 (v := ?vr1_18) rfl hWr1 hH ?yr1_18 ?_
                case yr1_18 => (intro w' hSw; replace hSw := S2o0 hSw; (try dsimp only at hSw); have q0 := hSw.1; have q1 := hSw.2.1; have q2 := hSw.2.2.1; have q3 := hSw.2.2.2.1; have q4 := hSw.2.2.2.2.1; have q5 := hSw.2.2.2.2.2.1; have q6 := hSw.2.2.2.2.2.2.1; have q7 := hSw.2.2.2.2.2.2.2; go_simp; try (with_reducible rfl))
                simp only [sB, sC]
                refine Ut 18 48 3 0 0 (v := ?vr1_19) rfl hWr1 hH ?yr1_19 ?_
                case yr1_19 => (intro w' hSw; replace hSw := S2o0 hSw; (try dsimp only at hSw); have q0 := hSw.1; have q1 := hSw.2.1; have q2 := hSw.2.2.1; have q3 := hSw.2.2.2.1; have q4 := hSw.2.2.2.2.1; have q5 := hSw.2.2.2.2.2.1; have q6 := hSw.2.2.2.2.2.2.1; have q7 := hSw.2.2.2.2.2.2.2; go_simp; try (with_reducible rfl))
                simp only [sB, sC]
                refine U1 19 0 rfl (fun K hK => ?_)
                go_simp
                (go_at_call 123; refine (side_calls b0 b1 a0 a1 x y HWB.out HWA.out HWQ.out _).mono ?_; rintro e wn ⟨rfl, hb⟩; rw [HZ.out])
                refine hK.out _ _ (S2i0 (by have hG := hH; replace hG := S2o0 hG; (try dsimp only at hG); have q0 := hG.1; have q1 := hG.2.1; have q2 := hG.2.2.1; have q3 := hG.2.2.2.1; have q4 := hG.2.2.2.2.1; have q5 := hG.2.2.2.2.2.1; have q6 := hG.2.2.2.2.2.2.1; have q7 := hG.2.2.2.2.2.2.2; exact ⟨keepCell hb q0, keepCell hb q1, keepCell hb q2, keepCell hb q3, keepCell hb q4, keepCell hb q5, HW.keep' hb q6, keepVc hb q7⟩)) (fun hH2 => ?_)
                clear hK K hH
                rename _ => hH
                try simp only [Act.put, sA, sB, sC]
                refine Ut 20 50 1 0 0 (v := ?vr1_21) rfl hWr1 hH ?yr1_21 ?_
                case yr1_21 => (intro w' hSw; clear hSw; go_simp; try (with_reducible rfl))
                simp only [sB, sC]
                refine Ut 21 51 0 0 0 (v := ?vr1_22) rfl hWr1 hH ?yr1_22 ?_
                case yr1_22 => (intro w' hSw; clear hSw; go_simp; try (with_reducible rfl))
                simp only [sB, sC]
                refine wpAnyU_done (by kernel_rfl) ?_ _ _
                refine NoPanic.normal ?_
                replace hH := S2o0 hH
                (try dsimp only at hH)
                have q0 := hH.1
                have q1 := hH.2.1
                have q2 := hH.2.2.1
                have q3 := hH.2.2.2.1
                have q4 := hH.2.2.2.2.1
                have q5 := hH.2.2.2.2.2.1
                have q6 := hH.2.2.2.2.2.2.1
                have q7 := hH.2.2.2.2.2.2.2
                clear hH hWr1
                by_cases hz0 : z ≤ 0
                · have HPS : Hid (popV (x, y) ((b0, b1) :: r) = popV (x, y) st0) := by show _ = _; rw [← HP3.out, popV, if_pos (by rw [← HZ2.out]; exact hz0)]
                  clear HP3 HNX
                  subst hsp
                  go_wp2
                  go_roundw
                  case rel => exact ⟨(b0, b1) :: r, by have := HST.out.1; simp at this ⊢; omega, fun x hx => HST.out.2 x (List.mem_cons_of_mem _ hx), HPS.out, by rw [← HLT.out]; exact q6.cut (by have := HLL.out; omega), q7⟩
                  case measure => simp [slLen]; omega
                · have HFN : Hid (O ++ (chF [] (P.take (m + 1))).reverse = L ++ [(x, y)]) := by
                    show _ = _
                    rw [HNX.out, ← HP3.out, popV, if_neg (by rw [← HZ2.out]; exact hz0), HLe.out]
                  clear HP3 HNX
                  subst hsp
                  have hNL : L.length ≤ 200 := by have h1 := HST.out.1; have h2 := HNN.out; have h3 := HLL.out; rw [h3]; simp only [List.length_cons] at h1 h2; omega
                  have hqa := q7.a
                  have hqb := q7.b
                  have HH2 := hid (HW.keep' ((Below.refl _ _).alloc (Nat.le_refl _) (.cells #[.int .i64 x, .int .i64 y] 25)) q6)
                  have hC1 := lit1 wn x y
                  clear q6 q7
                  go_wp2_with (at_builtin; refine wpList_append_vecs rfl _ _ rfl Bo _ L rfl HH2.out.o _ 0 1 1 [(x, y)] rfl rfl hC1 (by simp; omega) (HH2.out.z) ?_; intro v9 w9 ho9 hg9; have HH9 := hid (HH2.out.app ho9 hg9); clear ho9 hg9)
                  go_roundw
                  case rel => exact ⟨m + 1, hmL, by go_num, by rw [HFN.out]; exact HH9.out⟩
                  case measure => simp [intOf]; omega
              · have hst0 : popV (x, y) st = st := by
                  rcases st with _ | ⟨a, _ | ⟨b, r⟩⟩
                  · rfl
                  · rfl
                  · simp at h2
                have HFN : Hid (O ++ (chF [] (P.take (m + 1))).reverse = (O ++ st.reverse) ++ [(x, y)]) := by show _ = _; rw [HNX.out, ← HP3.out, hst0]
                have hge : ¬ (no : Int) + 2 ≤ (N : Int) := by omega
                have hNL : (O ++ st.reverse).length ≤ 200 := by rw [List.length_append, List.length_reverse]; have := HOw.out.1; omega
                obtain ⟨L, hL⟩ : ∃ L, L = O ++ st.reverse := ⟨_, rfl⟩
                rw [← hL] at hw HFN hNL
                have HH := hid hw
                have HV := hid hv
                have HNN := hid hN
                clear HP3 HNX hst0 hst1 hst2 hw hv hL h2 hN
                obtain ⟨sp, hsp⟩ : ∃ s : Value, s = .slice (some ⟨gp, 0, none⟩) n4 c4 := ⟨_, rfl⟩
                obtain ⟨so, hso⟩ : ∃ s : Value, s = .slice Aj N cap := ⟨_, rfl⟩
                rw [← hsp, ← hso] at HH
                go_upto_region 15 with fail
                refine wp_region_noPanic ?_
                refine wp_region_U (S := (S2 (fun w' => HW w w' B0 Bo sp P so L ∧ Vc w' gq x y))) (T := (fun _ => 0)) (by kernel_rfl) (S2i0 ⟨HH.out.drew, HV.out.drew⟩) (fun hH => ?_)
                have hWr2 : Weaker (S2 (fun w' => HW w w' B0 Bo sp P so L ∧ Vc w' gq x y)) := weaker2 _
                refine Ut 0 30 21 0 0 (v := ?vr2_1) rfl hWr2 hH ?yr2_1 ?_
                case yr2_1 => (intro w' hSw; clear hSw; go_simp; try (with_reducible rfl))
                simp only [sB, sC]
                refine Ut 1 31 20 0 0 (v := ?vr2_2) rfl hWr2 hH ?yr2_2 ?_
                case yr2_2 => (intro w' hSw; clear hSw; go_simp; try (with_reducible rfl))
                simp only [sB, sC]
                refine Ut 2 32 19 0 0 (v := ?vr2_3) rfl hWr2 hH ?yr2_3 ?_
                case yr2_3 => (intro w' hSw; clear hSw; go_simp; try (with_reducible rfl))
                simp only [sB, sC]
                refine Ut 3 33 18 0 0 (v := ?vr2_4) rfl hWr2 hH ?yr2_4 ?_
                case yr2_4 => (intro w' hSw; clear hSw; go_simp; try (with_reducible rfl))
                simp only [sB, sC]
                refine Ut 4 34 17 0 0 (v := ?vr2_5) rfl hWr2 hH ?yr2_5 ?_
                case yr2_5 => (intro w' hSw; clear hSw; go_simp; try (with_reducible rfl))
                simp only [sB, sC]
                refine Ut 5 35 16 0 0 (v := ?vr2_6) rfl hWr2 hH ?yr2_6 ?_
                case yr2_6 => (intro w' hSw; clear hSw; go_simp; try (with_reducible rfl))
                simp only [sB, sC]
                refine U_skips (by kernel_rfl) (fun _ _ _ _ h => h) hWr2 0 0 (by omega) hH [(6, 36), (7, 37), (8, 38), (9, 39), (10, 40), (11, 41), (12, 42), (13, 43), (14, 44), (15, 45), (16, 46), (17, 47), (18, 48), (19, 49), (20, 50)] 1 _ _ _ (by kernel_rfl) (by kernel_rfl) ?_
                simp only [tsetUndef, List.set_cons_zero, List.set_cons_succ]
                refine Ut 21 51 0 0 0 (v := ?vr2_7) rfl hWr2 hH ?yr2_7 ?_
                case yr2_7 => (intro w' hSw; clear hSw; go_simp; try (with_reducible rfl))
                simp only [sB, sC]
                refine wpAnyU_done (by kernel_rfl) ?_ _ _
                refine NoPanic.normal ?_
                replace hH := S2o0 hH
                (try dsimp only at hH)
                have q0 := hH.1
                have q1 := hH.2
                clear hH hWr2
                subst hsp
                subst hso
                have hqa := q1.a
                have hqb := q1.b
                have HH2 := hid (show HW w ((wj.alloc (.cells #[.int .i64 x, .int .i64 y] 25)).drew) B0 Bo (.slice (some ⟨gp, 0, none⟩) n4 c4) P (.slice Aj N cap) L from (HW.keep' ((Below.refl _ _).alloc (Nat.le_refl _) _) HH.out).drew)
                have hC1 := (lit1 wj x y).below (Below.refl _ _).drew
                clear q0 q1
                go_wp2_with (at_builtin; refine wpList_append_vecs rfl _ _ rfl Bo _ L rfl HH2.out.o _ 0 1 1 [(x, y)] rfl rfl hC1 (by simp; omega) (HH2.out.z) ?_; intro v9 w9 ho9 hg9; have HH9 := hid (HH2.out.app ho9 hg9); clear ho9 hg9)
                go_roundw
                case rel => exact ⟨m + 1, hmL, by go_num, by rw [HFN.out]; exact HH9.out⟩
                case measure => simp [intOf]; omega
          · have hmn : m = n4 := by omega
            obtain ⟨sv, hsv, hw⟩ : ∃ s, s = _ ∧ HW w wi B0 Bo (.slice A4 n4 c4) P s (O ++ (chF [] (P.take m)).reverse) := ⟨_, rfl, HH.out⟩
            subst hsv
            have hPL := HPL.out
            have hN3 := hw.p.sl
            rw [List.take_of_length_le (show P.length ≤ m by omega)] at hw
            clear HH
            rcases hw.o.frm with ⟨e1, e2⟩ | ⟨g, cap, e1, -, hgw, hLc, hcm, hfz, hc⟩
            · have HN : Hid (hlO p (k + 1) = []) := by
                show _ = _
                have e3 := List.append_eq_nil_iff.1 e2
                have e4 : chV P = [] := List.reverse_eq_nil_iff.1 e3.2
                rw [HOn.out, e3.1, e4]
                rfl
              rw [e2, e1] at hw
              have HC3 := hid hw
              subst e1
              have hrun0 : ∀ (ts : Array TypeId) (t : TypeId) (w : World), (Builtin.max_ ts t #[.int .i64 (-1), .int .i64 0]).run Try.prog w = .ok (.int .i64 0) w := fun ts t w => by rw [run_max_int2]; rfl
              clear hw e2 hPL hN3
              go_wp2_with (go_at_call 124; refine (reverseV_calls _ P B0 _ HC3.out.p (by have := HPL.out; omega)).mono ?_; rintro e w5 ⟨rfl, hp5, hg5⟩; have HW5 := hid (HC3.out.rev hp5 hg5); clear hp5 hg5)
              go_roundw
              case rel => exact ⟨k + 1, by omega, by go_num, by rw [HPn.out, HN.out]; exact HW5.out⟩
              case measure => simp [intOf]; omega
            · obtain ⟨N, hN⟩ : ∃ N, N = (O ++ (chF [] P).reverse).length := ⟨_, rfl⟩
              rw [← hN] at e1 hLc
              have HN : Hid (hlO p (k + 1) = (O ++ (chF [] P).reverse).take (N - 1)) := by
                show _ = _
                rw [HOn.out]
                rcases hcv : chF [] P with _ | ⟨a, r⟩
                · have : O = [] := HO0.out hcv
                  rw [show chV P = [] from hcv, this]
                  simp
                · rw [show chV P = a :: r from hcv, hN, hcv, take_top]
                  rfl
              have hN200 : N ≤ 200 := by
                have h1 := (chF_bd P []).1
                have h2 := HOw.out.1
                rw [hN, List.length_append, List.length_reverse]
                simp at h1
                omega
              rw [e1] at hw
              have HC3 := hid (hw.cut (m := N - 1) (by rw [← hN]; omega))
              obtain ⟨d, hd⟩ : ∃ d, d = (N : Int) - 1 := ⟨_, rfl⟩
              have hdw : IntKind.i64.wrap ((N : Int) - 1) = d := by rw [← hd]; exact IntWalk.i64_in _ (by omega)
              have hrun : ∀ (ts : Array TypeId) (t : TypeId) (w : World), (Builtin.max_ ts t #[.int .i64 d, .int .i64 0]).run Try.prog w = .ok (.int .i64 ((N - 1 : Nat) : Int)) w := fun ts t w => by
                rw [run_max_int2]
                have : (if 0 > d then 0 else d) = ((N - 1 : Nat) : Int) := by split <;> omega
                rw [this]
              have hi5 : N - 1 ≤ cap := by omega
              have hi6 : ((N - 1 : Nat) : Int) ≤ (cap : Int) := by omega
              have hi7 : (0 : Int) ≤ ((N - 1 : Nat) : Int) := by omega
              subst e1
              obtain ⟨M, hM⟩ : ∃ M, M = N - 1 := ⟨_, rfl⟩
              rw [← hM] at HC3 hrun hi5 hi6 hi7 HN
              clear hw hPL hN3 hc hfz hd hN hM
              go_wp2_with (go_at_call 124; refine (reverseV_calls _ P B0 _ HC3.out.p (by have := HPL.out; omega)).mono ?_; rintro e w5 ⟨rfl, hp5, hg5⟩; have HW5 := hid (HC3.out.rev hp5 hg5); clear hp5 hg5)
              go_roundw
              case rel => exact ⟨k + 1, by omega, by go_num, by rw [HPn.out, HN.out]; exact HW5.out⟩
              case measure => simp [intOf]; omega
      · have hk2' : k = 2 := by omega
        subst hk2'
        have HF : Hid (hullE l = (if (hulV p).length < 3 then 3 else if 8 < (hulV p).length then 6 else 0) ∧ hullL l = (if (hulV p).length < 3 then [] else if 8 < (hulV p).length then [] else hulV p)) := by
          have h1 := hul_len HPP.out.1 HPP.out.2
          have e1 : hullE l = (if (hulV p).length < 3 then 3 else if 8 < (hulV p).length then 6 else 0) := by
            unfold hullE
            rw [if_neg h64, if_neg (by rw [HW1.out]; simp)]
            by_cases h3 : (hulV p).length < 3
            · rw [if_pos (h1.1.1 h3), if_pos h3]
            · rw [if_neg (fun q => h3 (h1.1.2 q)), if_neg h3, h1.2 h3]
          refine ⟨e1, ?_⟩
          unfold hullL
          rw [e1]
          by_cases h3 : (hulV p).length < 3
          · rw [if_pos h3, if_pos h3]; rfl
          · rw [if_neg h3, if_neg h3]
            by_cases h8 : 8 < (hulV p).length
            · rw [if_pos h8, if_pos h8]; rfl
            · rw [if_neg h8, if_neg h8, if_pos rfl, h1.2 h3]
        have HO : Hid (Own wo w.heap.size (.slice Ao no co) (hulV p)) := HH.out.o.monoB HH.out.l2
        have HB : Hid (Below w.heap.size w wo) := HH.out.b
        have hnh : no = (hulV p).length := hno
        rw [← hnh] at HF
        clear HH HBB HPP HPW hpl hno
        by_cases h3 : no < 3
        · rw [if_pos h3, if_pos h3] at HF
          clear hnh
          go_wp2
          refine bodyPost_ret (v := .tuple #[.slice none 0 0, .int .i64 3]) (by simp [results, Try.results36, go_sem]) rfl ⟨_, by rw [HF.out.1], by rw [HF.out.2]; exact Own.nil _ _, HB.out⟩
        · rw [if_neg h3, if_neg h3] at HF
          by_cases h8 : 8 < no
          · rw [if_pos h8, if_pos h8] at HF
            clear hnh
            go_wp2
            refine bodyPost_ret (v := .tuple #[.slice none 0 0, .int .i64 6]) (by simp [results, Try.results36, go_sem]) rfl ⟨_, by rw [HF.out.1], by rw [HF.out.2]; exact Own.nil _ _, HB.out⟩
          · rw [if_neg h8, if_neg h8] at HF
            have HN := hid hnh
            clear hnh
            go_wp2
            refine bodyPost_ret (v := .tuple #[.slice Ao no co, .int .i64 0]) (by simp [results, Try.results36, go_sem]) rfl ⟨_, by rw [HF.out.1], by rw [HF.out.2]; exact HO.out, HB.out⟩
end Go.Proofs.Ytldlogcpnfmomaa
