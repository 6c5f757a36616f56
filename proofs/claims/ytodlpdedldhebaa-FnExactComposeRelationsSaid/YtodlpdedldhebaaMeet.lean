/- The meet of two relations: spec.MeetRelations, impl.MeetRelations: the same answer. Proved for this program; conditions: lengths below 2^42. -/
import Derived.Test.YtodlpdedldhebaaHas
import Derived.Test.YtodlpdedldhebaaKeys
import Derived.Test.YtodlpdedldhebaaOwn
namespace Go.Proofs.Ytodlpdedldhebaa
open Go Go.Proofs
set_option linter.unusedVariables false

theorem relOk_rel' {n a : Int} {xs : List (List Int)} (h : relOk n a xs = true) : (1 ≤ n ∧ n ≤ 8) ∧ relB n a xs = true := by simp only [relOk, Bool.and_eq_true, decide_eq_true_eq] at h; exact h
end Go.Proofs.Ytodlpdedldhebaa
