/- Parts of a proof: contracts and laws. -/
import Derived.Test.YtiaoandbdgdecaaPT00
namespace Go.Proofs.Ytiaoandbdgdecaa
section
set_option linter.unusedVariables false
set_option linter.unusedSimpArgs false

inductive Tr where
  | lf (id : Nat) (b : (Int × Int) × (Int × Int)) : Tr
  | nd (l r : Tr) : Tr
def Tr.ht : Tr → Nat
  | .lf _ _ => 0
  | .nd l r => 1 + max l.ht r.ht
def Tr.leaves : Tr → Nat
  | .lf _ _ => 1
  | .nd l r => l.leaves + r.leaves
def Tr.Avl : Tr → Prop
  | .lf _ _ => True
  | .nd l r => l.Avl ∧ r.Avl ∧ l.ht ≤ r.ht + 1 ∧ r.ht ≤ l.ht + 1

def liftT (low : Tr) : Tr → Tr
  | .lf i b => .nd low (.lf i b)
  | .nd p q => if q.ht > p.ht then .nd q (.nd low p) else .nd p (.nd low q)
def balT (l r : Tr) : Tr := if l.ht > r.ht then (if l.ht ≤ r.ht + 1 then .nd l r else liftT r l) else (if r.ht ≤ l.ht + 1 then .nd l r else liftT l r)
theorem lift_nd (low p q : Tr) : liftT low (.nd p q) = if q.ht > p.ht then .nd q (.nd low p) else .nd p (.nd low q) := rfl
theorem lift_ok {low high : Tr} (hl : low.Avl) (hh : high.Avl) (hd : high.ht = low.ht + 2) : (liftT low high).Avl ∧ high.ht ≤ (liftT low high).ht ∧ (liftT low high).ht ≤ 1 + high.ht := by
  cases high with
  | lf i b => simp [Tr.ht] at hd
  | nd p q =>
    obtain ⟨hp, hq, h1, h2⟩ := hh
    rw [lift_nd]
    simp only [Tr.ht] at hd ⊢
    by_cases h : q.ht > p.ht
    · rw [if_pos h]
      refine ⟨⟨hq, ⟨hl, hp, by omega, by omega⟩, ?_, ?_⟩, ?_, ?_⟩ <;> simp only [Tr.ht] <;> omega
    · rw [if_neg h]
      refine ⟨⟨hp, ⟨hl, hq, by omega, by omega⟩, ?_, ?_⟩, ?_, ?_⟩ <;> simp only [Tr.ht] <;> omega

theorem bal_ok {l r : Tr} (hl : l.Avl) (hr : r.Avl) (h1 : l.ht ≤ r.ht + 2) (h2 : r.ht ≤ l.ht + 2) : (balT l r).Avl ∧ max l.ht r.ht ≤ (balT l r).ht ∧ (balT l r).ht ≤ 1 + max l.ht r.ht ∧ (l.ht ≤ r.ht + 1 → r.ht ≤ l.ht + 1 → balT l r = .nd l r) := by
  unfold balT
  by_cases h : l.ht > r.ht
  · rw [if_pos h]
    by_cases k : l.ht ≤ r.ht + 1
    · rw [if_pos k]
      exact ⟨⟨hl, hr, k, by omega⟩, by simp only [Tr.ht]; omega, by simp only [Tr.ht]; omega, fun _ _ => rfl⟩
    · rw [if_neg k]
      obtain ⟨a, b, c⟩ := lift_ok hr hl (by omega)
      exact ⟨a, by omega, by omega, fun _ _ => by omega⟩
  · rw [if_neg h]
    by_cases k : r.ht ≤ l.ht + 1
    · rw [if_pos k]
      exact ⟨⟨hl, hr, by omega, k⟩, by simp only [Tr.ht]; omega, by simp only [Tr.ht]; omega, fun _ _ => rfl⟩
    · rw [if_neg k]
      obtain ⟨a, b, c⟩ := lift_ok hl hr (by omega)
      exact ⟨a, by omega, by omega, fun _ _ => by omega⟩

theorem bal_grown {l l' r : Tr} (hl : l'.Avl) (h : (Tr.nd l r).Avl) (h1 : l.ht ≤ l'.ht) (h2 : l'.ht ≤ l.ht + 1) : (balT l' r).Avl ∧ (Tr.nd l r).ht ≤ (balT l' r).ht ∧ (balT l' r).ht ≤ (Tr.nd l r).ht + 1 := by
  obtain ⟨_, hr, k1, k2⟩ := h
  obtain ⟨a, b, c, d⟩ := bal_ok hl hr (by omega) (by omega)
  refine ⟨a, ?_, ?_⟩ <;> simp only [Tr.ht]
  · by_cases e : l'.ht ≤ r.ht + 1 ∧ r.ht ≤ l'.ht + 1
    · rw [d e.1 e.2]; simp only [Tr.ht]; omega
    · omega
  · omega

theorem bal_shrunk {l l' r : Tr} (hl : l'.Avl) (h : (Tr.nd l r).Avl) (h1 : l'.ht ≤ l.ht) (h2 : l.ht ≤ l'.ht + 1) : (balT l' r).Avl ∧ (balT l' r).ht ≤ (Tr.nd l r).ht ∧ (Tr.nd l r).ht ≤ (balT l' r).ht + 1 := by
  obtain ⟨_, hr, k1, k2⟩ := h
  obtain ⟨a, b, c, d⟩ := bal_ok hl hr (by omega) (by omega)
  refine ⟨a, ?_, ?_⟩ <;> simp only [Tr.ht]
  · omega
  · by_cases e : l'.ht ≤ r.ht + 1 ∧ r.ht ≤ l'.ht + 1
    · rw [d e.1 e.2]; simp only [Tr.ht]; omega
    · omega
theorem bal_grownR {l r r' : Tr} (hr : r'.Avl) (h : (Tr.nd l r).Avl) (h1 : r.ht ≤ r'.ht) (h2 : r'.ht ≤ r.ht + 1) : (balT l r').Avl ∧ (Tr.nd l r).ht ≤ (balT l r').ht ∧ (balT l r').ht ≤ (Tr.nd l r).ht + 1 := by
  obtain ⟨hl, _, k1, k2⟩ := h
  obtain ⟨a, b, c, d⟩ := bal_ok hl hr (by omega) (by omega)
  refine ⟨a, ?_, ?_⟩ <;> simp only [Tr.ht]
  · by_cases e : l.ht ≤ r'.ht + 1 ∧ r'.ht ≤ l.ht + 1
    · rw [d e.1 e.2]; simp only [Tr.ht]; omega
    · omega
  · omega
theorem bal_shrunkR {l r r' : Tr} (hr : r'.Avl) (h : (Tr.nd l r).Avl) (h1 : r'.ht ≤ r.ht) (h2 : r.ht ≤ r'.ht + 1) : (balT l r').Avl ∧ (balT l r').ht ≤ (Tr.nd l r).ht ∧ (Tr.nd l r).ht ≤ (balT l r').ht + 1 := by
  obtain ⟨hl, _, k1, k2⟩ := h
  obtain ⟨a, b, c, d⟩ := bal_ok hl hr (by omega) (by omega)
  refine ⟨a, ?_, ?_⟩ <;> simp only [Tr.ht]
  · omega
  · by_cases e : l.ht ≤ r'.ht + 1 ∧ r'.ht ≤ l.ht + 1
    · rw [d e.1 e.2]; simp only [Tr.ht]; omega
    · omega


def Tr.ids : Tr → List Nat
  | .lf i _ => [i]
  | .nd l r => l.ids ++ r.ids




def minLv : Nat → Nat
  | 0 => 1
  | 1 => 2
  | n + 2 => minLv (n + 1) + minLv n
theorem minLv_mono : ∀ n, minLv n ≤ minLv (n + 1)
  | 0 => by decide
  | 1 => by decide
  | n + 2 => by
    show minLv (n + 1) + minLv n ≤ minLv (n + 2) + minLv (n + 1)
    have h1 : minLv n ≤ minLv (n + 1) := minLv_mono n
    have h2 : minLv (n + 1) ≤ minLv (n + 2) := minLv_mono (n + 1)
    omega
theorem minLv_le {m : Nat} : ∀ {n}, m ≤ n → minLv m ≤ minLv n := fun {n} h => by
  induction h with
  | refl => exact Nat.le_refl _
  | step _ ih => exact Nat.le_trans ih (minLv_mono _)
theorem leaves_min : ∀ t : Tr, t.Avl → minLv t.ht ≤ t.leaves
  | .lf _ _, _ => Nat.le_refl _
  | .nd l r, h => by
    obtain ⟨hl, hr, k1, k2⟩ := h
    have a := leaves_min l hl
    have b := leaves_min r hr
    simp only [Tr.ht, Tr.leaves]
    have two : ∀ x y : Nat, y ≤ x → x ≤ y + 1 → minLv (1 + x) ≤ minLv x + minLv y := fun x y h1 h2 => by
      cases x with
      | zero =>
        obtain rfl : y = 0 := by omega
        decide
      | succ x =>
        have h3 : minLv x ≤ minLv y := minLv_le (by omega)
        rw [show 1 + (x + 1) = x + 2 by omega]
        show minLv (x + 1) + minLv x ≤ _
        omega
    by_cases h : r.ht ≤ l.ht
    · rw [show max l.ht r.ht = l.ht by omega]
      have := two l.ht r.ht h k1
      omega
    · rw [show max l.ht r.ht = r.ht by omega]
      have := two r.ht l.ht (by omega) k2
      omega

theorem ht_low {t : Tr} (h : t.Avl) (hn : t.leaves ≤ 256) : t.ht ≤ 11 := by
  rcases Nat.lt_or_ge 11 t.ht with g | g
  · have h1 := leaves_min t h
    have h2 : minLv 12 ≤ minLv t.ht := minLv_le g
    have h3 : minLv 12 = 377 := by decide
    omega
  · exact g
end
end Go.Proofs.Ytiaoandbdgdecaa
namespace Go.Proofs.Ytiaoandbdgdecaa
section
set_option linter.unusedVariables false
set_option linter.unusedSimpArgs false
open Go.RowKit
abbrev Bx4 := (Int × Int) × (Int × Int)

structure NdAt (w : World) (g : Nat) (b : Bx4) (id ht : Int) (up k0 k1 : Option Addr) : Prop where
  c0 : w.cell? ⟨g, 0, none⟩ = some (.int .i64 b.1.1)
  c1 : w.cell? ⟨g, 1, none⟩ = some (.int .i64 b.1.2)
  c2 : w.cell? ⟨g, 2, none⟩ = some (.int .i64 b.2.1)
  c3 : w.cell? ⟨g, 3, none⟩ = some (.int .i64 b.2.2)
  c4 : w.cell? ⟨g, 4, none⟩ = some (.int .i64 id)
  c5 : w.cell? ⟨g, 5, none⟩ = some (.int .i64 ht)
  c6 : w.cell? ⟨g, 6, none⟩ = some (.pointer up)
  c7 : w.cell? ⟨g, 7, none⟩ = some (.pointer k0)
  c8 : w.cell? ⟨g, 8, none⟩ = some (.pointer k1)
  free : ∀ j, w.frozen? ⟨g, j, none⟩ = false
theorem NdAt.same {w w' : World} {g : Nat} {b : Bx4} {id ht : Int} {up k0 k1 : Option Addr} (h : NdAt w g b id ht up k0 k1) (e : w'.heap[g]? = w.heap[g]?) : NdAt w' g b id ht up k0 k1 :=
  ⟨(World.cell?_of_block e).trans h.c0, (World.cell?_of_block e).trans h.c1, (World.cell?_of_block e).trans h.c2, (World.cell?_of_block e).trans h.c3, (World.cell?_of_block e).trans h.c4, (World.cell?_of_block e).trans h.c5, (World.cell?_of_block e).trans h.c6, (World.cell?_of_block e).trans h.c7, (World.cell?_of_block e).trans h.c8, fun j => (World.frozen?_of_block e).trans (h.free j)⟩
theorem NdAt.lt {w : World} {g : Nat} {b : Bx4} {id ht : Int} {up k0 k1 : Option Addr} (h : NdAt w g b id ht up k0 k1) : g < w.heap.size := lt_of_cell h.c0

inductive TB where
  | lf (g id : Nat) (b : Bx4) : TB
  | nd (g : Nat) (l r : TB) : TB
def TB.root : TB → Nat
  | .lf g _ _ => g
  | .nd g _ _ => g
def TB.tr : TB → Tr
  | .lf _ id b => .lf id b
  | .nd _ l r => .nd l.tr r.tr
def TB.blocks : TB → List Nat
  | .lf g _ _ => [g]
  | .nd g l r => g :: (l.blocks ++ r.blocks)
def ptrN (g : Nat) : Option Addr := some ⟨g, 0, none⟩

def bxT (jn : Bx4 → Bx4 → Bx4) : Tr → Bx4
  | .lf _ b => b
  | .nd l r => jn (bxT jn l) (bxT jn r)
def TB.At (jn : Bx4 → Bx4 → Bx4) (w : World) : TB → Option Addr → Prop
  | .lf g id b, up => NdAt w g b id 0 up none none
  | .nd g l r, up => NdAt w g (bxT jn (TB.nd g l r).tr) 0 ((TB.nd g l r).tr.ht : Nat) up (ptrN l.root) (ptrN r.root) ∧ l.At jn w (ptrN g) ∧ r.At jn w (ptrN g)
theorem TB.root_mem : ∀ t : TB, t.root ∈ t.blocks
  | .lf g _ _ => by simp [TB.root, TB.blocks]
  | .nd g l r => by simp [TB.root, TB.blocks]

theorem TB.At.same {jn : Bx4 → Bx4 → Bx4} {w w' : World} : ∀ {t : TB} {up : Option Addr}, t.At jn w up → (∀ g ∈ t.blocks, w'.heap[g]? = w.heap[g]?) → t.At jn w' up
  | .lf g id b, up, h, e => NdAt.same h (e g (by simp [TB.blocks]))
  | .nd g l r, up, h, e => by
    obtain ⟨h1, h2, h3⟩ := h
    exact ⟨h1.same (e g (by simp [TB.blocks])), TB.At.same h2 (fun k hk => e k (by simp [TB.blocks, hk])), TB.At.same h3 (fun k hk => e k (by simp [TB.blocks, hk]))⟩
theorem TB.At.below {jn : Bx4 → Bx4 → Bx4} {w : World} : ∀ {t : TB} {up : Option Addr}, t.At jn w up → ∀ g ∈ t.blocks, g < w.heap.size
  | .lf g id b, up, h, k, hk => by
    have : k = g := by simpa [TB.blocks] using hk
    rw [this]; exact NdAt.lt h
  | .nd g l r, up, h, k, hk => by
    obtain ⟨h1, h2, h3⟩ := h
    simp only [TB.blocks, List.mem_cons, List.mem_append] at hk
    rcases hk with hk | hk | hk
    · rw [hk]; exact h1.lt
    · exact TB.At.below h2 k hk
    · exact TB.At.below h3 k hk
end
end Go.Proofs.Ytiaoandbdgdecaa
