/- Parts of a proof: contracts and laws. -/
import Derived.Test.YtienmhgbildhhaaA50
import Derived.Test.YtienmhgbildhhaaA36
import Derived.Test.YtienmhgbildhhaaA18
namespace Go.Proofs.Ytienmhgbildhhaa
section
set_option linter.unusedVariables false
set_option linter.unusedSimpArgs false
open Go.RowKit
theorem nmeet_req {a b : List V} (ha : checkE a = 0) (hb : checkE b = 0) : nmeetB a b = rmeetB a b := by
  rw [meet_eq ha hb, meets_nin ha hb]
  unfold nmeetB
  rw [decide_eq_true (bothE_zero.2 ⟨ha, hb⟩), Bool.true_and]
theorem meetTo_eq {L : List BE} {p : List V} (hL : bodiesE L = 0) (hp : checkE p = 0) : ∀ k, k ≤ L.length → meetTo (fun q => nmeetB q p) L k = meetTo (fun q => rmeetB q p) L k
  | 0, _ => rfl
  | k + 1, hk => by
    obtain ⟨h64, hval⟩ := bodiesE_zero hL
    have e : nmeetB (placeL L[k].b L[k].l) p = rmeetB (placeL L[k].b L[k].l) p := nmeet_req (placed_ok (hval _ (List.getElem_mem (by omega)))) hp
    rw [meetTo_succ (by omega), meetTo_succ (by omega), meetTo_eq hL hp k (by omega), e]
end
end Go.Proofs.Ytienmhgbildhhaa
