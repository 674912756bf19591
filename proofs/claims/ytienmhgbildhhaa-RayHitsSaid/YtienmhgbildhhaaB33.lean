/- Parts of a proof: contracts and laws. -/
import Derived.Test.YtienmhgbildhhaaB16
import Derived.Test.YtienmhgbildhhaaB28
import Derived.Test.YtienmhgbildhhaaB32
namespace Go.Proofs.Ytienmhgbildhhaa
section
set_option linter.unusedVariables false
set_option linter.unusedSimpArgs false
open Go.RowKit
def frStep (k : Nat) (h : Option Int) (o : Option (Nat × Int)) : Option (Nat × Int) :=
  match h with
  | none => o
  | some t => match o with
    | none => some (k, t)
    | some (a, b) => if t < b then some (k, t) else some (a, b)

def frTo (hit : List V → Option Int) (L : List BE) : Nat → Option (Nat × Int)
  | 0 => none
  | k + 1 => match L[k]? with
    | none => frTo hit L k
    | some x => frStep k (hit (placeL x.b x.l)) (frTo hit L k)
theorem frTo_succ {hit : List V → Option Int} {L : List BE} {k : Nat} (hk : k < L.length) : frTo hit L (k + 1) = frStep k (hit (placeL L[k].b L[k].l)) (frTo hit L k) := by
  rw [frTo, List.getElem?_eq_getElem hk]
def atZ : Option (Nat × Int) → Int
  | none => -1
  | some (a, _) => a
def beZ : Option (Nat × Int) → Int
  | none => 0
  | some (_, b) => b
def frI : Option (Nat × Int) → Int
  | none => 0
  | some (a, _) => a
def frE : Option (Nat × Int) → Int
  | none => 4
  | some _ => 0
def frV (o : Option (Nat × Int)) : Value := .tuple #[.int .i64 (frI o), .int .i64 (beZ o), .int .i64 (frE o)]


def FrOk (h : Nat → Option Int) (p : Nat → Prop) : Option (Nat × Int) → Prop
  | none => ∀ j, p j → h j = none
  | some (a, b) => p a ∧ h a = some b ∧ ∀ j t, p j → h j = some t → b ≤ t ∧ (j < a → b < t)
def hitAt (hit : List V → Option Int) (L : List BE) (j : Nat) : Option Int := match L[j]? with | some x => hit (placeL x.b x.l) | none => none
theorem hitAt_lt {hit : List V → Option Int} {L : List BE} {j : Nat} (hj : j < L.length) : hitAt hit L j = hit (placeL L[j].b L[j].l) := by unfold hitAt; rw [List.getElem?_eq_getElem hj]
theorem frTo_ok (hit : List V → Option Int) (L : List BE) : ∀ k, k ≤ L.length → FrOk (hitAt hit L) (· < k) (frTo hit L k)
  | 0, _ => fun j hj => by omega
  | k + 1, hk => by
    have ih := frTo_ok hit L k (by omega)
    rw [frTo_succ (by omega), ← hitAt_lt (hit := hit) (L := L) (j := k) (by omega)]
    cases hh : hitAt hit L k with
    | none =>
      match hf : frTo hit L k, ih with
      | none, ih =>
        intro j hj
        rcases Nat.lt_or_ge j k with g | g
        · exact ih j g
        · rw [show j = k by omega]; exact hh
      | some (a, b), ih =>
        refine ⟨by have := ih.1; omega, ih.2.1, fun j t hj ht => ?_⟩
        rcases Nat.lt_or_ge j k with g | g
        · exact ih.2.2 j t g ht
        · rw [show j = k by omega, hh] at ht; cases ht
    | some t =>
      match hf : frTo hit L k, ih with
      | none, ih =>
        refine ⟨by show k < k + 1; omega, hh, fun j u hj hu => ?_⟩
        rcases Nat.lt_or_ge j k with g | g
        · rw [ih j g] at hu; cases hu
        · rw [show j = k by omega, hh] at hu; cases hu; omega
      | some (a, b), ih =>
        show FrOk _ _ (if t < b then some (k, t) else some (a, b))
        by_cases hl : t < b
        · rw [if_pos hl]
          refine ⟨by show k < k + 1; omega, hh, fun j u hj hu => ?_⟩
          rcases Nat.lt_or_ge j k with g | g
          · have := (ih.2.2 j u g hu).1; omega
          · rw [show j = k by omega, hh] at hu; cases hu; omega
        · rw [if_neg hl]
          refine ⟨by have := ih.1; omega, ih.2.1, fun j u hj hu => ?_⟩
          rcases Nat.lt_or_ge j k with g | g
          · exact ih.2.2 j u g hu
          · rw [show j = k by omega, hh] at hu; cases hu; have := ih.1; omega
set_option maxRecDepth 100000 in
set_option maxHeartbeats 4000000 in
theorem rayfirst_calls (F : Nat) (c1 c2 : Value) (hcf : ∀ (args : Array Value) (w : World), (callFunc F args).run Try.prog w = .ok (.enter F args) w) (hit : List V → Option Int) (A : Option Addr) (n c : Nat) (L : List BE) (w : World) (hS : SlB w A n c L) (hv : ∀ x ∈ L, bodyE x.b x.l = 0) (h64 : L.length ≤ 64)
    (HH0 : ∀ x ∈ L, ∀ A n c w', Below w.heap.size w w' → Sl w' A n c (placeL x.b x.l) → Calls Try.prog F #[.slice A n c, c1, c2] w' (Ret (.tuple #[.int .i64 ((hit (placeL x.b x.l)).getD 0), .bool (hit (placeL x.b x.l)).isSome]) w')) :
    Calls Try.prog 99 #[.slice A n c, .func (.func F) #[] #[c1, c2]] w (Ret (frV (frTo hit L L.length)) w) := by
  have hn := hS.sl.len
  have hcap := hS.sl.cap
  have hbig := hS.sl.big
  subst hn
  have HS := hid hS
  have HV := hid hv
  have HH := hid HH0
  clear hS hv HH0
  go_enter Try.func99, Try.ntmps99
  go_wp2
  go_loopw [7, 8, 15] (fun a b i wr => ∃ (k : Nat) (o : Option (Nat × Int)), k ≤ L.length ∧ i = .int .i64 k ∧ a = .int .i64 (atZ o) ∧ b = .int .i64 (beZ o) ∧ frTo hit L k = o ∧ Below w.heap.size w wr) (fun _ _ i _ => L.length - (intOf i).toNat)
  case atStart => exact ⟨0, none, Nat.zero_le _, rfl, rfl, rfl, rfl, Below.refl _ _⟩
  case round =>
    obtain ⟨k, o, hk, rfl, rfl, rfl, ho, hB⟩ := hrel
    obtain ⟨wo, rfl⟩ : ∃ wo : World, wo = wr := ⟨_, rfl⟩
    have HSw := hid (HS.out.below hB)
    have HO := hid ho
    clear ho
    by_cases hlt : k < L.length
    · obtain ⟨ba, off, hA, hC⟩ := HSw.out.sl.at_ (by intro h; subst h; simp at hlt)
      subst hA
      obtain ⟨x, hx⟩ : ∃ x, x = L[k] := ⟨_, rfl⟩
      have hxm : x ∈ L := by rw [hx]; exact List.getElem_mem hlt
      have HX := hid (show Sl wo x.A x.n x.c x.l from HSw.out.co x hxm)
      obtain ⟨d0, d1, d2, d3, d4, d5, d6, d7, d8, d9, d10, d11, d12⟩ := cells_bd hC hlt hx
      have hbo := hC.lt
      have hlt' : (k : Int) < (L.length : Int) := by omega
      have hkw : IntKind.i64.wrap ((k : Int) + 1) = (k : Int) + 1 := IntWalk.i64_in _ (by omega)
      have HPR : Hid (placeR x.b x.l = placeL x.b x.l) := by show _ = _; unfold placeR; rw [if_neg (by rw [HV.out x hxm]; simp)]
      have HST : Hid (frTo hit L (k + 1) = frStep k (hit (placeL x.b x.l)) o) := by show _ = _; rw [frTo_succ hlt, HO.out, hx]
      have HF := hid (HH.out x hxm)
      clear hC hx HSw HO hxm
      go_wp2_with fail
      have HX2 := hid (HX.out.alloc (.cells #[.int .i64 x.b.px, .int .i64 x.b.py, .int .i64 x.b.vx, .int .i64 x.b.vy, .int .i64 x.b.ang, .int .i64 x.b.spin, .int .i64 x.b.mass, .int .i64 x.b.iner, .int .i64 x.b.bounce, .int .i64 x.b.rub, .slice x.A x.n x.c, .bool x.b.asleep, .int .i64 x.b.calm] 27))
      refine (bplace_calls x.b x.A x.n x.c x.l _ HX2.out).mono ?_
      rintro e w1 ⟨A1, n1, c1', rfl, hs1, -, -, hb1⟩
      rw [HPR.out] at hs1
      have HS1 := hid hs1
      have hB1 : Below w.heap.size w w1 := keepBelow hb1 (hB.alloc hB.size _)
      clear hb1 HX HX2 hB hs1 HPR d0 d1 d2 d3 d4 d5 d6 d7 d8 d9 d10 d11 d12 hbo
      generalize placeL x.b x.l = pl at *
      go_wp2_with fail
      refine (HF.out _ _ _ _ hB1 HS1.out).mono ?_
      rintro e w2 ⟨rfl, hb2⟩
      have hB2 := keepBelow hb2 hB1
      clear hb2 hB1 HS1 HF
      cases hh : hit pl with
      | none =>
        have HN : Hid (frTo hit L (k + 1) = o) := by show _ = _; rw [HST.out, hh]; rfl
        clear HST hh
        simp only [Option.getD_none, Option.isSome_none]
        go_wp2
        go_roundw
        case rel => exact ⟨k + 1, o, by omega, by go_num, rfl, rfl, HN.out, hB2⟩
        case measure => simp [intOf] <;> omega
      | some t =>
        simp only [Option.getD_some, Option.isSome_some]
        cases o with
        | none =>
          have HN : Hid (frTo hit L (k + 1) = some (k, t)) := by show _ = _; rw [HST.out, hh]; rfl
          clear HST hh
          simp only [atZ, beZ]
          go_wp2
          go_roundw
          case rel => exact ⟨k + 1, some (k, t), by omega, by go_num, rfl, rfl, HN.out, hB2⟩
          case measure => simp [intOf] <;> omega
        | some ab =>
          obtain ⟨a, b⟩ := ab
          have hna : ¬ ((a : Int) < 0) := by omega
          simp only [atZ, beZ]
          by_cases hl : t < b
          · have HN : Hid (frTo hit L (k + 1) = some (k, t)) := by show _ = _; rw [HST.out, hh]; show (if t < b then some (k, t) else some (a, b)) = _; rw [if_pos hl]
            clear HST hh
            go_wp2
            go_roundw
            case rel => exact ⟨k + 1, some (k, t), by omega, by go_num, rfl, rfl, HN.out, hB2⟩
            case measure => simp [intOf] <;> omega
          · have HN : Hid (frTo hit L (k + 1) = some (a, b)) := by show _ = _; rw [HST.out, hh]; show (if t < b then some (k, t) else some (a, b)) = _; rw [if_neg hl]
            clear HST hh
            go_wp2
            go_roundw
            case rel => exact ⟨k + 1, some (a, b), by omega, by go_num, rfl, rfl, HN.out, hB2⟩
            case measure => simp [intOf] <;> omega
    · have hkn : k = L.length := by omega
      subst hkn
      clear HSw HH HV
      cases o with
      | none =>
        simp only [atZ, beZ]
        go_wp2
        refine bodyPost_ret (v := .tuple #[.int .i64 0, .int .i64 0, .int .i64 4]) (by simp [results, Try.results99, go_sem]) rfl ⟨by rw [HO.out]; rfl, hB⟩
      | some ab =>
        obtain ⟨a, b⟩ := ab
        have hna : ¬ ((a : Int) < 0) := by omega
        simp only [atZ, beZ]
        go_wp2
        refine bodyPost_ret (v := .tuple #[.int .i64 a, .int .i64 b, .int .i64 0]) (by simp [results, Try.results99, go_sem]) rfl ⟨by rw [HO.out]; rfl, hB⟩
set_option maxRecDepth 100000 in
set_option maxHeartbeats 4000000 in
end
end Go.Proofs.Ytienmhgbildhhaa
