/- Parts of a proof: contracts and laws. -/
import Derived.Test.YtiaoandbdgdecaaPT18
namespace Go.Proofs.Ytiaoandbdgdecaa
section
set_option linter.unusedVariables false
set_option linter.unusedSimpArgs false
open Go.RowKit
theorem TS.adopt_in {s : TS} {g n a b i : Nat} {rn ra rb rn0 ra0 rb0 : NR} (hn : s.nd n = some rn0) (ha : s.nd a = some ra0) (hb : s.nd b = some rb0) (h : (s.adopt n a b rn ra rb).In g i) : s.In g i := by
  rcases h with h | h
  · exact .inl h
  · by_cases e1 : i = n
    · rw [e1]; exact TS.in_nd hn
    · by_cases e2 : i = a
      · rw [e2]; exact TS.in_nd ha
      · by_cases e3 : i = b
        · rw [e3]; exact TS.in_nd hb
        · rw [TS.adopt_ne s rn ra rb e1 e2 e3] at h
          exact .inr h
theorem ht_bd {t : TB} (h : t.tr.ht ≤ 1000) {r : NR} (e : r.ht = htB t) : 0 ≤ r.ht ∧ r.ht ≤ 1000000 := by
  have : htB t = ((t.tr.ht : Nat) : Int) := rfl
  omega
theorem lift_tail {g : Nat} {s s1 : TS} {w w1 : World} {u q : Nat} {l r low stay moves : TB} {up : Option Addr} {C : List Fr} {ru rq : NR} (hbal : balTB u l r = TB.nd q stay (TB.nd u low moves))
    (hblk : ∀ k, k ∈ (u :: q :: (low.blocks ++ (stay.blocks ++ moves.blocks))) ↔ k ∈ (u :: (l.blocks ++ r.blocks)))
    (hu : s.nd u = some ru) (iu : ru.id = 0) (iq : rq.id = 0) {ul us um : Option Addr} (hl : low.Rp s ul) (hs : stay.Rp s us) (hm : moves.Rp s um)
    (hd : (u :: q :: (low.blocks ++ (stay.blocks ++ moves.blocks))).Nodup) (hdis : ∀ k ∈ (u :: q :: (low.blocks ++ (stay.blocks ++ moves.blocks))), k ∉ cxB C)
    (b1 : low.tr.ht ≤ 1000) (b2 : stay.tr.ht ≤ 1000) (b3 : moves.tr.ht ≤ 1000)
    (m1 : Mem w1 g s1) (o1 : Out (s.In g) w w1) (cx : CxR s1 C up q) (hq : s1.nd q = some { rq with up := up }) (pk : PlK s s1 C q) (in1 : ∀ i, s1.In g i → s.In g i) :
    Calls Try.prog 28 #[.pointer (pA u), .pointer (pA low.root), .pointer (pA moves.root)] w1 (fun e w2 => e = .returned (.tuple #[]) ∧
      Calls Try.prog 28 #[.pointer (pA q), .pointer (pA stay.root), .pointer (pA u)] w2 (fun e w3 => e = .returned (.tuple #[]) ∧ RetBal g u l r up C s w (.returned (.pointer (pA q))) w3)) := by
  have hd0 := hd
  obtain ⟨n1, hd⟩ := List.nodup_cons.1 hd
  obtain ⟨n2, hd⟩ := List.nodup_cons.1 hd
  have nuq : u ≠ q := fun e => n1 (by rw [e]; simp)
  obtain ⟨-, dsm, dx⟩ := List.nodup_append.1 hd
  obtain ⟨-, -, dy⟩ := List.nodup_append.1 dsm
  have kp : ∀ k ∈ (u :: (low.blocks ++ (stay.blocks ++ moves.blocks))), s1.nd k = s.nd k := fun k hk => by
    have hk' : k ∈ (u :: q :: (low.blocks ++ (stay.blocks ++ moves.blocks))) := by
      rcases List.mem_cons.1 hk with e | e
      · rw [e]; simp
      · exact List.mem_cons_of_mem _ (List.mem_cons_of_mem _ e)
    refine pk.out k (fun e => ?_) (hdis k hk')
    rw [e] at hk
    rcases List.mem_cons.1 hk with e | e
    · exact nuq e.symm
    · exact n2 e
  have hu1 := (kp u (by simp)).trans hu
  have hl1 := hl.same (fun k hk => kp k (by simp [hk]))
  have hs1 := hs.same (fun k hk => kp k (by simp [hk]))
  have hm1 := hm.same (fun k hk => kp k (by simp [hk]))
  obtain ⟨ra, ha, -, -, ta⟩ := hl1.top
  obtain ⟨rc, hc, -, -, tc⟩ := hs1.top
  obtain ⟨rb, hb, -, -, tb⟩ := hm1.top
  have ml := low.root_mem
  have ms := stay.root_mem
  have mm := moves.root_mem
  have nlu : low.root ≠ u := fun e => n1 (by rw [← e]; simp [ml])
  have nmu : moves.root ≠ u := fun e => n1 (by rw [← e]; simp [mm])
  have nsu : stay.root ≠ u := fun e => n1 (by rw [← e]; simp [ms])
  have nsq : stay.root ≠ q := fun e => n2 (by rw [← e]; simp [ms])
  have nlq : low.root ≠ q := fun e => n2 (by rw [← e]; simp [ml])
  have nmq : moves.root ≠ q := fun e => n2 (by rw [← e]; simp [mm])
  have nml : moves.root ≠ low.root := fun e => dx _ ml _ (by simp [mm]) e.symm
  have nsl : stay.root ≠ low.root := fun e => dx _ ml _ (by simp [ms]) e.symm
  have nsm : stay.root ≠ moves.root := fun e => dy _ ms _ mm e
  obtain ⟨L1, L2⟩ := lift_state hu1 hq iu (show ({ rq with up := up } : NR).id = 0 from iq) rfl hl1 hs1 hm1 hd0 ha hb hc
  refine (adopt_calls m1 hu1 ha hb nlu nmu nml (ht_bd b1 ta) (ht_bd b3 tb)).mono ?_
  rintro e w2 ⟨rfl, m2, o2⟩
  refine ⟨rfl, ?_⟩
  have hq2 : (s1.adopt u low.root moves.root ru ra rb).nd q = some { rq with up := up } := (TS.adopt_ne s1 ru ra rb (fun e => nuq e.symm) (fun e => nlq e.symm) (fun e => nmq e.symm)).trans hq
  have hs2 : (s1.adopt u low.root moves.root ru ra rb).nd stay.root = some rc := (TS.adopt_ne s1 ru ra rb nsu nsl nsm).trans hc
  have hu2 := TS.adopt_n s1 u low.root moves.root ru ra rb
  have hbu : 0 ≤ (1 + max ra.ht rb.ht) ∧ (1 + max ra.ht rb.ht) ≤ 1000000 := by
    have e1 : htB low = ((low.tr.ht : Nat) : Int) := rfl
    have e2 : htB moves = ((moves.tr.ht : Nat) : Int) := rfl
    omega
  refine (adopt_calls m2 hq2 hs2 hu2 nsq nuq (fun e => nsu e.symm) (ht_bd b2 tc) hbu).mono ?_
  rintro e w3 ⟨rfl, m3, o3⟩
  have i2 : ∀ i, (s1.adopt u low.root moves.root ru ra rb).In g i → s1.In g i := fun i k => TS.adopt_in hu1 ha hb k
  refine ⟨rfl, _, ?_, m3, (o1.trans o2 (fun i _ k => in1 i k)).trans o3 (fun i _ k => in1 i (i2 i k)), ?_, ?_, fun k h1 h2 => ?_, pk.lv, pk.cnt, fun i k => in1 i (i2 i (TS.adopt_in hq2 hs2 hu2 k))⟩
  · rw [hbal]; rfl
  · rw [hbal]; exact L1
  · rw [hbal]
    refine CxR.same cx (fun k hk => L2 k (fun q' => hdis k q' hk)) rfl
  · have h1' : k ∉ (u :: q :: (low.blocks ++ (stay.blocks ++ moves.blocks))) := fun q' => h1 ((hblk k).1 q')
    rw [L2 k h1']
    exact pk.out k (fun e => h1' (by rw [e]; simp)) h2
end
end Go.Proofs.Ytiaoandbdgdecaa
