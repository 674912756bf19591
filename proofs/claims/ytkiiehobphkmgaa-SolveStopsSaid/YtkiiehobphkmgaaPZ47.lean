/- Parts of a proof: contracts and laws. -/
import Derived.Test.YtkiiehobphkmgaaPZ42
import Derived.Test.YtkiiehobphkmgaaPZ41
import Derived.Test.YtkiiehobphkmgaaPZ44
import Derived.Test.YtkiiehobphkmgaaPZ46
import Derived.Test.YtkiiehobphkmgaaPZ43
import Derived.Test.YtkiiehobphkmgaaPZ14
namespace Go.Proofs.Ytkiiehobphkmgaa
section
set_option linter.unusedVariables false
set_option linter.unusedSimpArgs false
open Go.RowKit
theorem solveQ_okay {L : List BE} {C : List Ct} (hc : contactsE L C = 0) (hC : ∀ c ∈ C, c.push = 0 ∧ c.sli = 0) (st : Int) (n : Nat) : Okay (L.map valB) C.length (solveQ (L.map valB) C st n) := by
  obtain ⟨hB, -, hok⟩ := contactsE_zero hc
  obtain ⟨-, hv⟩ := bodiesE_zero hB
  have hR : ∀ r ∈ rowsQ (L.map valB) C st, 0 ≤ r.bound := fun r hr => by
    unfold rowsQ at hr
    obtain ⟨x, hx, rfl⟩ := List.mem_map.1 hr
    exact row_bound hv (hok x hx) st
  have h0 : Okay (L.map valB) C.length (warmTo (L.map valB) C (rowsQ (L.map valB) C st) C.length, C) := ⟨by rw [warmTo_zero hv hC]; exact LikeL.refl _, rfl, fun x hx => by rw [List.length_map]; exact hok x hx⟩
  exact iterQ_okay hR h0 C.length (n * C.length)
theorem wall_ok : bodyE (bdK 0 (-20) 0) (sqK 0 0 1) = 0 := by kernel_rfl

def bd00 (b : Bd) : Bd := { b with px := 0, py := 0, bounce := 0, rub := 0 }
theorem made00 {b : Bd} (h : MadeB b) : MadeB (bd00 b) := ⟨by simp [bd00], by simp [bd00], h.ang, by simp [bd00], by simp [bd00], h.asleep, h.calm, h.kind⟩
theorem stops_end {b : Bd} {l : List V} (hb : MadeB b) (hl : Made l) (A1 A2 : Option Addr) (n1 n2 c1 c2 : Nat) {p q : Int} (hp : -131072 ≤ p ∧ p ≤ 131072) (hq : -131072 ≤ q ∧ q ≤ 131072) :
    srunE [⟨bdK 0 (-20) 0, A2, n2, c2, sqK 0 0 1⟩, ⟨bd00 b, A1, n1, c1, l⟩] [stopC p q] 4096 1 = 0 ∧
    (srunS [⟨bdK 0 (-20) 0, A2, n2, c2, sqK 0 0 1⟩, ⟨bd00 b, A1, n1, c1, l⟩] [stopC p q] 4096 1).2.length = 1 ∧
    ∀ L' : List BE, L'.map valB = (srunS [⟨bdK 0 (-20) 0, A2, n2, c2, sqK 0 0 1⟩, ⟨bd00 b, A1, n1, c1, l⟩] [stopC p q] 4096 1).1 → L'.length = 2 ∧ ∀ y, L'[1]? = some y → b.mass ≠ 0 → -512 ≤ atY y.b y.l p q := by
  obtain ⟨L, hL⟩ : ∃ L : List BE, L = [⟨bdK 0 (-20) 0, A2, n2, c2, sqK 0 0 1⟩, ⟨bd00 b, A1, n1, c1, l⟩] := ⟨_, rfl⟩
  rw [← hL]
  have hm := made00 hb
  have hv : ∀ x ∈ L, bodyE x.b x.l = 0 := fun x hx => by
    rw [hL] at hx
    rcases List.mem_cons.1 hx with rfl | hx
    · exact wall_ok
    · rw [List.mem_singleton.1 hx]; exact madeB_ok hm hl
  have hlen : L.length = 2 := by rw [hL]; rfl
  have hBE : bodiesE L = 0 := bodiesE_okJ (by omega) hv
  have hCE : contactsE L [stopC p q] = 0 := contactsE_ok hBE (by simp) (fun x hx => by
    rw [List.mem_singleton.1 hx, hlen]
    unfold CtOk stopC
    simp only
    omega)
  obtain ⟨e1, e2⟩ := srun_ok (r := 1) hCE (show (1 : Int) ≤ 4096 ∧ (4096 : Int) ≤ 65536 by omega) (by omega)
  have e2 : srunS L [stopC p q] 4096 1 = solveQ (L.map valB) [stopC p q] 4096 1 := e2
  have hok := solveQ_okay hCE (fun c hc => by rw [List.mem_singleton.1 hc]; exact ⟨rfl, rfl⟩) 4096 1
  rw [e2]
  refine ⟨e1, hok.len, fun L' h' => ?_⟩
  have hl2 : L'.length = 2 := by
    have h1 := congrArg List.length h'
    rw [hok.like.len, List.length_map, List.length_map] at h1
    omega
  refine ⟨hl2, fun y hy hmm => ?_⟩
  rcases hb.kind with k | ⟨k1, k2, k3, k4, k5⟩
  · exact absurd k.2.2.2.1 hmm
  · obtain ⟨z, hz, hz2, hz3⟩ := stops_law (L := L) (bw := bdK 0 (-20) 0) (b := bd00 b) (lw := sqK 0 0 1) (l := l) (by rw [hL]; rfl) hv rfl rfl rfl rfl (by show (0 : Int) ≤ 0; omega) rfl rfl rfl rfl hm.asleep k2 k3 k4 k5 hp hq
    rw [← h', List.getElem?_map, hy] at hz
    cases hz
    show -512 ≤ (if bodyE y.b y.l ≠ 0 then 0 else addF y.b.vy (mulF (mulF y.b.spin 411775) (subF p y.b.px)))
    split
    · omega
    · exact hz3
theorem BdAt.set00 {w : World} {g : Nat} {b : Bd} {A : Option Addr} {n c : Nat} (h : BdAt w g b A n c) : BdAt ((((w.setCell ⟨g, 0, none⟩ (.int .i64 0)).setCell ⟨g, 1, none⟩ (.int .i64 0)).setCell ⟨g, 8, none⟩ (.int .i64 0)).setCell ⟨g, 9, none⟩ (.int .i64 0)) g (bd00 b) A n c := by
  have ne : ∀ {w : World} {o o' : Nat} {v u : Value}, w.cell? ⟨g, o', none⟩ = some u → o ≠ o' → (w.setCell ⟨g, o, none⟩ v).cell? ⟨g, o', none⟩ = some u := fun h hne => cell_set_ne h hne
  obtain ⟨c0, c1, c2, c3, c4, c5, c6, c7, c8, c9, c10, c11, c12, hf⟩ := h
  exact ⟨ne (ne (ne (cell_set_eq c0) (by omega)) (by omega)) (by omega), ne (ne (cell_set_eq (ne c1 (by omega))) (by omega)) (by omega), ne (ne (ne (ne c2 (by omega)) (by omega)) (by omega)) (by omega), ne (ne (ne (ne c3 (by omega)) (by omega)) (by omega)) (by omega), ne (ne (ne (ne c4 (by omega)) (by omega)) (by omega)) (by omega), ne (ne (ne (ne c5 (by omega)) (by omega)) (by omega)) (by omega), ne (ne (ne (ne c6 (by omega)) (by omega)) (by omega)) (by omega), ne (ne (ne (ne c7 (by omega)) (by omega)) (by omega)) (by omega), ne (cell_set_eq (ne (ne c8 (by omega)) (by omega))) (by omega), cell_set_eq (ne (ne (ne c9 (by omega)) (by omega)) (by omega)), ne (ne (ne (ne c10 (by omega)) (by omega)) (by omega)) (by omega), ne (ne (ne (ne c11 (by omega)) (by omega)) (by omega)) (by omega), ne (ne (ne (ne c12 (by omega)) (by omega)) (by omega)) (by omega), fun j => by rw [World.frozen?_setCell, World.frozen?_setCell, World.frozen?_setCell, World.frozen?_setCell]; exact hf j⟩
theorem cells_bd1 {w : World} {b off : Nat} {L : List BE} (h : CellsE layB w b off L) (h1 : 1 < L.length) {x : BE} (hx : x = L[1]) :
    w.cell? ⟨b, off + 13, none⟩ = some (.int .i64 x.b.px) ∧ w.cell? ⟨b, off + 14, none⟩ = some (.int .i64 x.b.py) ∧ w.cell? ⟨b, off + 15, none⟩ = some (.int .i64 x.b.vx) ∧ w.cell? ⟨b, off + 16, none⟩ = some (.int .i64 x.b.vy) ∧ w.cell? ⟨b, off + 17, none⟩ = some (.int .i64 x.b.ang) ∧ w.cell? ⟨b, off + 18, none⟩ = some (.int .i64 x.b.spin) ∧ w.cell? ⟨b, off + 19, none⟩ = some (.int .i64 x.b.mass) ∧ w.cell? ⟨b, off + 20, none⟩ = some (.int .i64 x.b.iner) ∧ w.cell? ⟨b, off + 21, none⟩ = some (.int .i64 x.b.bounce) ∧ w.cell? ⟨b, off + 22, none⟩ = some (.int .i64 x.b.rub) ∧ w.cell? ⟨b, off + 23, none⟩ = some (.slice x.A x.n x.c) ∧ w.cell? ⟨b, off + 24, none⟩ = some (.bool x.b.asleep) ∧ w.cell? ⟨b, off + 25, none⟩ = some (.int .i64 x.b.calm) :=
  cells_bd h h1 hx
end
end Go.Proofs.Ytkiiehobphkmgaa
