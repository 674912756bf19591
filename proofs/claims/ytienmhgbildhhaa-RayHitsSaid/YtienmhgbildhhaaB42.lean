/- Parts of a proof: contracts and laws. -/
import Derived.Test.YtienmhgbildhhaaB39
import Derived.Test.YtienmhgbildhhaaB41
import Derived.Test.YtienmhgbildhhaaB17
namespace Go.Proofs.Ytienmhgbildhhaa
section
set_option linter.unusedVariables false
set_option linter.unusedSimpArgs false
open Go.RowKit

theorem wpList_append_int {w : World} {ops : Array Oper} {rest : List Oper} {o : Oper} {a : Act} {Q : Exit → Act → World → Prop} (hgd : o.guard = none) (s x : Operand)
    (ho : o.op = .call { callee := .builtin .append, args := #[s, x], argTypes := #[22, 22] })
    (B : Nat) (v : Value) (r : List Int) (hs : a.eval s = v) (hown : OwnI w B v r) (b n c : Nat) (z : Int) (hx : a.eval x = .slice (some ⟨b, 0, none⟩) 1 1) (hc : w.cell? ⟨b, 0, none⟩ = some (.int .i64 z))
    (hl : r.length + 1 ≤ 8796093022208) (hB : B ≤ w.heap.size)
    (h : ∀ v' w', OwnI w' B v' (r ++ [z]) → w.grownBy w' v.ownBlock → (v'.ownBlock = v.ownBlock ∨ v'.ownBlock = some w.heap.size) → wpList Try.prog ops Q rest (a.put o.dst v') w') : wpList Try.prog ops Q (o :: rest) a w := by
  obtain ⟨i0, hi, hz0, hz1, hz2⟩ := info_parts info_int
  obtain ⟨v', w', hr, h2, h3, h4, h5⟩ := run_append_own_at (P := Try.prog) w B 22 o.type 3 i0 (.int .i64 0) 1 8 Try.underlying22 hi hz0 hz1 hz2 rfl (by decide) v r.length (r.map fun x => .int .i64 x) hown ⟨b, 0, none⟩ 1 1 [.int .i64 z] rfl (fun j u hj => by
    cases j with
    | zero => simp at hj; subst hj; simpa [Addr.add] using hc
    | succ j => simp at hj) (by simp [Value.oneCell']) (by unfold maxLen; omega) (by omega) hB
  refine wpList_plain hgd fun K hK => ?_
  unfold Oper.wp execOp
  simp only [ho, resolve, invoke, builtin, Sem.run_bind, Sem.run_pure, Result.andThen_ok, List.map_toArray, List.map_cons, List.map_nil, hs, hx, hr]
  refine hK _ _ (h v' w' ?_ h3 h5)
  unfold OwnI
  simpa using h2

def meetTo (hit : List V → Bool) (L : List BE) : Nat → List Int
  | 0 => []
  | k + 1 => meetTo hit L k ++ (match L[k]? with | some x => if hit (placeL x.b x.l) = true then [(k : Int)] else [] | none => [])
theorem meetTo_succ {hit : List V → Bool} {L : List BE} {k : Nat} (h : k < L.length) : meetTo hit L (k + 1) = if hit (placeL L[k].b L[k].l) = true then meetTo hit L k ++ [(k : Int)] else meetTo hit L k := by
  show meetTo hit L k ++ (match L[k]? with | some x => if hit (placeL x.b x.l) = true then [(k : Int)] else [] | none => []) = _
  rw [List.getElem?_eq_getElem h]
  by_cases c : hit (placeL L[k].b L[k].l) = true
  · simp [c]
  · simp [c]
theorem meetTo_len (hit : List V → Bool) (L : List BE) : ∀ k, (meetTo hit L k).length ≤ k
  | 0 => by simp [meetTo]
  | k + 1 => by
    have ih := meetTo_len hit L k
    show (meetTo hit L k ++ _).length ≤ k + 1
    rw [List.length_append]
    have : (match L[k]? with | some x => if hit (placeL x.b x.l) = true then [(k : Int)] else [] | none => []).length ≤ 1 := by
      split
      · split <;> simp
      · simp
    omega
def meetE (L : List BE) (p : List V) : Int := if bodiesE L ≠ 0 then bodiesE L else checkE p
def meetL (L : List BE) (p : List V) : List Int := if meetE L p = 0 then meetTo (fun q => nmeetB q p) L L.length else []

def RetIE (l : List Int) (er : Int) (w : World) (e : Ending) (w' : World) : Prop := ∃ A n c, e = .returned (.tuple #[.slice A n c, .int .i64 er]) ∧ SlI w' A n c l ∧ Below w.heap.size w w'
theorem slI_nil (w : World) : SlI w none 0 0 [] := by
  obtain ⟨A, n, c, h1, h2⟩ := (OwnI.nil w 0).sl
  cases h1
  exact h2
set_option maxRecDepth 100000 in
set_option maxHeartbeats 4000000 in
theorem rayMeet_calls (A B : Option Addr) (n c n' c' : Nat) (L : List BE) (p : List V) (w : World) (hS : SlB w A n c L) (hP : Sl w B n' c' p) :
    Calls Try.prog 32 #[.slice A n c, .slice B n' c'] w (RetIE (meetL L p) (meetE L p) w) := by
  have hn := hS.sl.len
  have hcap := hS.sl.cap
  have hbig := hS.sl.big
  subst hn
  have HS := hid hS
  have HPW := hid hP
  clear hS hP
  go_enter Try.func32, Try.ntmps32
  go_wp2_with fail
  refine (kcheck_calls A L.length c L _ HS.out).mono ?_
  rintro e w1 ⟨rfl, hb1⟩
  by_cases hE : bodiesE L = 0
  case neg =>
    have HR : Hid (meetE L p = bodiesE L ∧ meetL L p = []) := by
      have e : meetE L p = bodiesE L := by unfold meetE; rw [if_pos hE]
      exact ⟨e, by unfold meetL; rw [e, if_neg hE]⟩
    have hne : (bodiesE L != 0) = true := by simp [hE]
    generalize bodiesE L = z at *
    go_wp2
    refine bodyPost_ret (v := .tuple #[.slice none 0 0, .int .i64 z]) (by simp [results, Try.results32, go_sem]) rfl ⟨none, 0, 0, by rw [HR.out.1], by rw [HR.out.2]; exact slI_nil _, hb1⟩
  obtain ⟨h64, hval⟩ := bodiesE_zero hE
  have HV := hid hval
  have HE1 : Hid (meetE L p = checkE p) := by show _ = _; unfold meetE; rw [if_neg (by simp [hE])]
  rw [hE]
  clear hE hval
  go_wp2_with fail
  refine (check_calls B n' c' p _ (HPW.out.below hb1)).mono ?_
  rintro e w2 ⟨rfl, hb2⟩
  have hB2 := keepBelow hb2 hb1
  clear hb2 hb1
  by_cases hE : checkE p = 0
  case neg =>
    have HR : Hid (meetL L p = []) := by show _ = _; unfold meetL; rw [HE1.out, if_neg hE]
    have hne : (checkE p != 0) = true := by simp [hE]
    generalize checkE p = z at *
    go_wp2
    refine bodyPost_ret (v := .tuple #[.slice none 0 0, .int .i64 z]) (by simp [results, Try.results32, go_sem]) rfl ⟨none, 0, 0, by rw [HE1.out], by rw [HR.out]; exact slI_nil _, hB2⟩
  have HML : Hid (meetL L p = meetTo (fun q => nmeetB q p) L L.length) := by show _ = _; unfold meetL; rw [HE1.out, if_pos hE]
  have HME : Hid (meetE L p = 0) := by show _ = _; rw [HE1.out, hE]
  have HPK := hid hE
  rw [hE]
  clear HE1 hE
  go_wp2
  go_loopw [8, 25] (fun o i wr => ∃ k : Nat, k ≤ L.length ∧ i = .int .i64 k ∧ OwnI wr w.heap.size o (meetTo (fun q => nmeetB q p) L k) ∧ Below w.heap.size w wr) (fun _ i _ => L.length - (intOf i).toNat)
  case atStart => exact ⟨0, Nat.zero_le _, rfl, OwnI.nil _ _, hB2⟩
  case round =>
    obtain ⟨k, hk, rfl, ho, hB⟩ := hrel
    obtain ⟨wo, rfl⟩ : ∃ wo : World, wo = wr := ⟨_, rfl⟩
    have HO := hid ho
    clear ho
    have HSw := hid (HS.out.below hB)
    by_cases hlt : k < L.length
    · obtain ⟨ba, off, hA, hC⟩ := HSw.out.sl.at_ (by intro h; subst h; simp at hlt)
      subst hA
      obtain ⟨x, hx⟩ : ∃ x, x = L[k] := ⟨_, rfl⟩
      have hxm : x ∈ L := by rw [hx]; exact List.getElem_mem hlt
      have HX := hid (show Sl wo x.A x.n x.c x.l from HSw.out.co x hxm)
      obtain ⟨d0, d1, d2, d3, d4, d5, d6, d7, d8, d9, d10, d11, d12⟩ := cells_bd hC hlt hx
      have hbo := hC.lt
      have hlt' : (k : Int) < (L.length : Int) := by omega
      have hkw : IntKind.i64.wrap ((k : Int) + 1) = (k : Int) + 1 := IntWalk.i64_in _ (by omega)
      have HPR : Hid (placeR x.b x.l = placeL x.b x.l) := by show _ = _; unfold placeR; rw [if_neg (by rw [HV.out x hxm]; simp)]
      have HST : Hid (meetTo (fun q => nmeetB q p) L (k + 1) = if nmeetB (placeL x.b x.l) p = true then meetTo (fun q => nmeetB q p) L k ++ [(k : Int)] else meetTo (fun q => nmeetB q p) L k) := by show _ = _; rw [meetTo_succ hlt, hx]
      have HLE := hid (meetTo_len (fun q => nmeetB q p) L k)
      clear hC hx HSw hxm
      go_wp2_with fail
      have HX2 := hid (HX.out.alloc (.cells #[.int .i64 x.b.px, .int .i64 x.b.py, .int .i64 x.b.vx, .int .i64 x.b.vy, .int .i64 x.b.ang, .int .i64 x.b.spin, .int .i64 x.b.mass, .int .i64 x.b.iner, .int .i64 x.b.bounce, .int .i64 x.b.rub, .slice x.A x.n x.c, .bool x.b.asleep, .int .i64 x.b.calm] 27))
      have HO2 := hid (HO.out.alloc (.cells #[.int .i64 x.b.px, .int .i64 x.b.py, .int .i64 x.b.vx, .int .i64 x.b.vy, .int .i64 x.b.ang, .int .i64 x.b.spin, .int .i64 x.b.mass, .int .i64 x.b.iner, .int .i64 x.b.bounce, .int .i64 x.b.rub, .slice x.A x.n x.c, .bool x.b.asleep, .int .i64 x.b.calm] 27))
      refine (bplace_calls x.b x.A x.n x.c x.l _ HX2.out).mono ?_
      rintro e w3 ⟨A1, n1, c1', rfl, hs1, -, -, hb1⟩
      rw [HPR.out] at hs1
      have HO3 := hid (HO2.out.below hb1)
      have hB1 : Below w.heap.size w w3 := keepBelow hb1 (hB.alloc hB.size _)
      have HNM := hid (nmeet_calls A1 B n1 c1' n' c' (placeL x.b x.l) p w3 hs1 (HPW.out.below hB1))
      clear hb1 HX HX2 HO HO2 hB hs1 HPR d0 d1 d2 d3 d4 d5 d6 d7 d8 d9 d10 d11 d12 hbo
      generalize placeL x.b x.l = pl at *
      generalize bothE pl p = er at *
      generalize meetTo (fun q => nmeetB q p) L k = o0 at *
      go_wp2_with fail
      refine HNM.out.mono ?_
      rintro e w4 ⟨rfl, hb2⟩
      have hB2' := keepBelow hb2 hB1
      have HO4 := hid (HO3.out.below hb2)
      clear hb2 hB1 HO3 HNM
      cases hh : nmeetB pl p with
      | true =>
        rw [hh, if_pos rfl] at HST
        go_wp2_with (at_builtin; refine Hid.out ?_)
        refine hid ?_
        refine wpList_append_int rfl _ _ rfl w.heap.size _ _ rfl (HO4.out.alloc _) w4.heap.size 1 1 k ?c3 ?c4 ?c5 ?c6 ?c7
        case c3 => rfl
        case c4 => go_simp
        case c5 => have := HLE.out; omega
        case c6 => have := hB2'.size; simp; omega
        case c7 =>
          intro v' w7 ho1 hg1 hat
          have HO7 := hid ho1
          have hB7 : Below w.heap.size w w7 := (hB2'.alloc hB2'.size (.cells #[.int .i64 (k : Int)] 3)).grown hg1 (by have := hB2'.size; simp; omega) (fun k2 hk2 => (World.ownsRow.lt (OwnI.alloc HO4.out (.cells #[.int .i64 (k : Int)] 3)) k2 hk2).1)
          clear ho1 hg1 hat
          go_wp2
          go_roundw
          case rel => exact ⟨k + 1, by omega, by go_num, by rw [HST.out]; exact HO7.out, hB7⟩
          case measure => simp [intOf] <;> omega
      | false =>
        rw [hh, if_neg (by simp)] at HST
        go_wp2
        go_roundw
        case rel => exact ⟨k + 1, by omega, by go_num, by rw [HST.out]; exact HO4.out, hB2'⟩
        case measure => simp [intOf] <;> omega
    · have hkn : k = L.length := by omega
      subst hkn
      obtain ⟨A2, n2, c2, rfl, hs2⟩ := HO.out.sl
      clear HSw HO
      go_wp2
      refine bodyPost_ret (v := .tuple #[.slice A2 n2 c2, .int .i64 0]) (by simp [results, Try.results32, go_sem]) rfl ⟨A2, n2, c2, by rw [HME.out], by unfold meetL; rw [HME.out, if_pos rfl]; exact hs2, hB⟩
end
end Go.Proofs.Ytienmhgbildhhaa
