/- Projections of relations: spec.l8At, l13Project, ProjectRelation, ReverseRelation and impl's: the same answers. Proved for this program; conditions: lengths below 2^42. -/
import Derived.Test.YtodlpdedldhebaaRelOf
import Derived.Test.YtodlpdedldhebaaRowFn
namespace Go.Proofs.Ytodlpdedldhebaa
open Go Go.Proofs
set_option linter.unusedVariables false
theorem rel_many {n a : Int} {xs : List (List Int)} (h : relOk n a xs = true) : xs.length ≤ 512 := by
  obtain ⟨hn, hB⟩ := relOk_rel' h
  have ha := relB_ar hB
  rw [relB, Bool.and_eq_true] at hB
  have h1 := relB_len (by omega) (by omega) hB.2
  have h2 := pw_512' n hn.1 hn.2 a.toNat (by omega)
  omega
end Go.Proofs.Ytodlpdedldhebaa
