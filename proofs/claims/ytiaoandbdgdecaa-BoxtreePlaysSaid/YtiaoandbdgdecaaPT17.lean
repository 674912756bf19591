/- Parts of a proof: contracts and laws. -/
import Derived.Test.YtiaoandbdgdecaaPT16
namespace Go.Proofs.Ytiaoandbdgdecaa
section
set_option linter.unusedVariables false
set_option linter.unusedSimpArgs false
open Go.RowKit
theorem TS.adopt_n (s : TS) (n a b : Nat) (rn ra rb : NR) : (s.adopt n a b rn ra rb).nd n = some ⟨joinB ra.bx rb.bx, rn.id, 1 + max ra.ht rb.ht, rn.up, pA a, pA b⟩ := TS.set_eq _ _ _
theorem TS.adopt_b (s : TS) {n a b : Nat} (rn ra rb : NR) (nb : b ≠ n) : (s.adopt n a b rn ra rb).nd b = some { rb with up := pA n } := by
  unfold TS.adopt
  rw [TS.set_ne _ _ nb, TS.set_eq]
theorem TS.adopt_a (s : TS) {n a b : Nat} (rn ra rb : NR) (na : a ≠ n) (nab : b ≠ a) : (s.adopt n a b rn ra rb).nd a = some { ra with up := pA n } := by
  unfold TS.adopt
  rw [TS.set_ne _ _ na, TS.set_ne _ _ (fun q => nab q.symm), TS.set_eq]
theorem TS.adopt_ne (s : TS) {n a b k : Nat} (rn ra rb : NR) (h1 : k ≠ n) (h2 : k ≠ a) (h3 : k ≠ b) : (s.adopt n a b rn ra rb).nd k = s.nd k := by
  unfold TS.adopt
  rw [TS.set_ne _ _ h1, TS.set_ne _ _ h3, TS.set_ne _ _ h2, TS.set_ne _ _ h1]
def liftTB (u : Nat) (low : TB) : TB → TB
  | .lf i id b => .nd u low (.lf i id b)
  | .nd h p q => if q.tr.ht > p.tr.ht then .nd h q (.nd u low p) else .nd h p (.nd u low q)
def balTB (u : Nat) (l r : TB) : TB := if l.tr.ht > r.tr.ht then (if l.tr.ht ≤ r.tr.ht + 1 then .nd u l r else liftTB u r l) else (if r.tr.ht ≤ l.tr.ht + 1 then .nd u l r else liftTB u l r)
theorem liftTB_tr (u : Nat) (low high : TB) : (liftTB u low high).tr = liftT low.tr high.tr := by
  cases high with
  | lf i id b => rfl
  | nd h p q =>
    show (if q.tr.ht > p.tr.ht then TB.nd h q (.nd u low p) else TB.nd h p (.nd u low q)).tr = liftT low.tr (.nd p.tr q.tr)
    rw [lift_nd]
    split <;> rfl
theorem balTB_tr (u : Nat) (l r : TB) : (balTB u l r).tr = balT l.tr r.tr := by
  unfold balTB balT
  by_cases h : l.tr.ht > r.tr.ht
  · rw [if_pos h, if_pos h]
    by_cases k : l.tr.ht ≤ r.tr.ht + 1
    · rw [if_pos k, if_pos k]; rfl
    · rw [if_neg k, if_neg k, liftTB_tr]
  · rw [if_neg h, if_neg h]
    by_cases k : r.tr.ht ≤ l.tr.ht + 1
    · rw [if_pos k, if_pos k]; rfl
    · rw [if_neg k, if_neg k, liftTB_tr]
theorem liftTB_blocks (u : Nat) (low high : TB) : (liftTB u low high).blocks.Perm (u :: (low.blocks ++ high.blocks)) := by
  cases high with
  | lf i id b => exact List.Perm.refl _
  | nd h p q =>
    have e : (liftTB u low (.nd h p q)).blocks = h :: (if q.tr.ht > p.tr.ht then q.blocks ++ (u :: (low.blocks ++ p.blocks)) else p.blocks ++ (u :: (low.blocks ++ q.blocks))) := by
      show (if q.tr.ht > p.tr.ht then TB.nd h q (.nd u low p) else TB.nd h p (.nd u low q)).blocks = _
      split <;> rfl
    rw [e]
    show List.Perm _ (u :: (low.blocks ++ (h :: (p.blocks ++ q.blocks))))
    refine List.perm_iff_count.2 fun a => ?_
    split <;> simp only [List.count_cons, List.count_append] <;> omega
theorem balTB_blocks (u : Nat) (l r : TB) : (balTB u l r).blocks.Perm (u :: (l.blocks ++ r.blocks)) := by
  unfold balTB
  split
  · split
    · exact List.Perm.refl _
    · refine (liftTB_blocks u r l).trans ?_
      refine List.perm_iff_count.2 fun a => ?_
      simp only [List.count_cons, List.count_append]; omega
  · split
    · exact List.Perm.refl _
    · exact liftTB_blocks u l r
theorem bx_nd (g : Nat) (l r : TB) : bxB (TB.nd g l r) = joinB (bxB l) (bxB r) := rfl
theorem ht_nd (g : Nat) (l r : TB) : htB (TB.nd g l r) = 1 + max (htB l) (htB r) := by
  show ((1 + max l.tr.ht r.tr.ht : Nat) : Int) = 1 + max ((l.tr.ht : Nat) : Int) ((r.tr.ht : Nat) : Int)
  omega

theorem lift_state {s : TS} {u q : Nat} {low stay moves : TB} {ru rq ra rb rc : NR} {up ul us um : Option Addr} (hu : s.nd u = some ru) (hq : s.nd q = some rq) (iu : ru.id = 0) (iq : rq.id = 0) (uq : rq.up = up)
    (hl : low.Rp s ul) (hs : stay.Rp s us) (hm : moves.Rp s um) (hd : (u :: q :: (low.blocks ++ (stay.blocks ++ moves.blocks))).Nodup)
    (ha : s.nd low.root = some ra) (hb : s.nd moves.root = some rb) (hc : s.nd stay.root = some rc) :
    (TB.nd q stay (TB.nd u low moves)).Rp ((s.adopt u low.root moves.root ru ra rb).adopt q stay.root u rq rc ⟨joinB ra.bx rb.bx, ru.id, 1 + max ra.ht rb.ht, ru.up, pA low.root, pA moves.root⟩) up ∧
    (∀ k, k ∉ (u :: q :: (low.blocks ++ (stay.blocks ++ moves.blocks))) → ((s.adopt u low.root moves.root ru ra rb).adopt q stay.root u rq rc ⟨joinB ra.bx rb.bx, ru.id, 1 + max ra.ht rb.ht, ru.up, pA low.root, pA moves.root⟩).nd k = s.nd k) := by
  obtain ⟨n1, hd⟩ := List.nodup_cons.1 hd
  obtain ⟨n2, hd⟩ := List.nodup_cons.1 hd
  have nuq : u ≠ q := fun e => n1 (by rw [e]; simp)
  obtain ⟨dl, dsm, dx⟩ := List.nodup_append.1 hd
  obtain ⟨dst, dmv, dy⟩ := List.nodup_append.1 dsm
  have fl : ∀ k ∈ low.blocks, k ≠ u ∧ k ≠ q ∧ k ∉ stay.blocks ∧ k ∉ moves.blocks := fun k hk => ⟨fun e => n1 (by rw [← e]; simp [hk]), fun e => n2 (by rw [← e]; simp [hk]), fun e => dx k hk k (by simp [e]) rfl, fun e => dx k hk k (by simp [e]) rfl⟩
  have fs : ∀ k ∈ stay.blocks, k ≠ u ∧ k ≠ q ∧ k ∉ low.blocks ∧ k ∉ moves.blocks := fun k hk => ⟨fun e => n1 (by rw [← e]; simp [hk]), fun e => n2 (by rw [← e]; simp [hk]), fun e => dx k e k (by simp [hk]) rfl, fun e => dy k hk k e rfl⟩
  have fm : ∀ k ∈ moves.blocks, k ≠ u ∧ k ≠ q ∧ k ∉ low.blocks ∧ k ∉ stay.blocks := fun k hk => ⟨fun e => n1 (by rw [← e]; simp [hk]), fun e => n2 (by rw [← e]; simp [hk]), fun e => dx k e k (by simp [hk]) rfl, fun e => dy k e k hk rfl⟩
  have al := fl _ low.root_mem
  have ast := fs _ stay.root_mem
  have am := fm _ moves.root_mem
  have nlm : moves.root ≠ low.root := fun e => al.2.2.2 (by rw [← e]; exact moves.root_mem)
  have nls : low.root ≠ stay.root := fun e => al.2.2.1 (by rw [e]; exact stay.root_mem)
  have nms : moves.root ≠ stay.root := fun e => am.2.2.2 (by rw [e]; exact stay.root_mem)
  obtain ⟨S2, hS2⟩ : ∃ S2, S2 = s.adopt u low.root moves.root ru ra rb := ⟨_, rfl⟩
  obtain ⟨S3, hS3⟩ : ∃ S3, S3 = S2.adopt q stay.root u rq rc ⟨joinB ra.bx rb.bx, ru.id, 1 + max ra.ht rb.ht, ru.up, pA low.root, pA moves.root⟩ := ⟨_, rfl⟩
  rw [← hS2, ← hS3]
  have g2 : ∀ k, k ≠ u → k ≠ low.root → k ≠ moves.root → S2.nd k = s.nd k := fun k a b c => by rw [hS2]; exact TS.adopt_ne s ru ra rb a b c
  have g3 : ∀ k, k ≠ q → k ≠ stay.root → k ≠ u → S3.nd k = S2.nd k := fun k a b c => by rw [hS3]; exact TS.adopt_ne S2 rq rc _ a b c
  have e3q : S3.nd q = some ⟨joinB rc.bx (joinB ra.bx rb.bx), rq.id, 1 + max rc.ht (1 + max ra.ht rb.ht), rq.up, pA stay.root, pA u⟩ := by rw [hS3]; exact TS.adopt_n S2 q stay.root u rq rc _
  have e3u : S3.nd u = some ⟨joinB ra.bx rb.bx, ru.id, 1 + max ra.ht rb.ht, pA q, pA low.root, pA moves.root⟩ := by rw [hS3]; exact TS.adopt_b S2 rq rc _ nuq
  have e3s : S3.nd stay.root = some { rc with up := pA q } := by rw [hS3]; exact TS.adopt_a S2 rq rc _ ast.2.1 (fun e => ast.1 e.symm)
  have e3l : S3.nd low.root = some { ra with up := pA u } := by rw [g3 _ al.2.1 nls al.1, hS2]; exact TS.adopt_a s ru ra rb al.1 nlm
  have e3m : S3.nd moves.root = some { rb with up := pA u } := by rw [g3 _ am.2.1 nms am.1, hS2]; exact TS.adopt_b s ru ra rb am.1
  obtain ⟨ra', qa, -, ba, ta⟩ := hl.top
  obtain ⟨rb', qb, -, bb, tb⟩ := hm.top
  obtain ⟨rc', qc, -, bc, tc⟩ := hs.top
  rw [ha] at qa; cases qa
  rw [hb] at qb; cases qb
  rw [hc] at qc; cases qc
  refine ⟨⟨?_, ?_, ?_, ?_, ?_⟩, fun k hk => ?_⟩
  · rw [e3q, bx_nd, bx_nd, ht_nd, ht_nd, ba, bb, bc, ta, tb, tc, iq, uq]
    rfl
  · exact TB.Rp.lift hs dst hc e3s (fun k hk hr => by
      have f := fs k hk
      rw [g3 k f.2.1 hr f.1, g2 k f.1 (fun e => f.2.2.1 (by rw [e]; exact low.root_mem)) (fun e => f.2.2.2 (by rw [e]; exact moves.root_mem))])
  · show S3.nd u = _
    rw [e3u, bx_nd, ht_nd, ba, bb, ta, tb, iu]
  · exact TB.Rp.lift hl dl ha e3l (fun k hk hr => by
      have f := fl k hk
      rw [g3 k f.2.1 (fun e => f.2.2.1 (by rw [e]; exact stay.root_mem)) f.1, g2 k f.1 hr (fun e => f.2.2.2 (by rw [e]; exact moves.root_mem))])
  · exact TB.Rp.lift hm dmv hb e3m (fun k hk hr => by
      have f := fm k hk
      rw [g3 k f.2.1 (fun e => f.2.2.2 (by rw [e]; exact stay.root_mem)) f.1, g2 k f.1 (fun e => f.2.2.1 (by rw [e]; exact low.root_mem)) hr])
  · simp only [List.mem_cons, List.mem_append, not_or] at hk
    obtain ⟨k1, k2, k3, k4, k5⟩ := hk
    rw [g3 k k2 (fun e => k4 (by rw [e]; exact stay.root_mem)) k1, g2 k k1 (fun e => k3 (by rw [e]; exact low.root_mem)) (fun e => k5 (by rw [e]; exact moves.root_mem))]
end
end Go.Proofs.Ytiaoandbdgdecaa
