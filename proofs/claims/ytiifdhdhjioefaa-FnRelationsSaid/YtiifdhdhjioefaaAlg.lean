/- Valid algebras: spec.l2Good, impl.IsAlgebra: the same answer. Proved for this program; conditions: lengths below 2^62. -/
import Derived.Test.YtiifdhdhjioefaaOps
namespace Go.Proofs.Ytiifdhdhjioefaa
open Go Go.Proofs
set_option linter.unusedVariables false

def algB (n : Int) (os : List (Int × List Int)) : Bool := decide (1 ≤ n ∧ n ≤ 8) && decide ((os.length : Int) ≤ 4) && os.all fun f => opB n f.1 f.2
theorem algB_at {n : Int} {os : List (Int × List Int)} (h : algB n os = true) : 1 ≤ n ∧ n ≤ 8 ∧ os.length ≤ 4 ∧ ∀ f ∈ os, opB n f.1 f.2 = true := by
  simp only [algB, Bool.and_eq_true, decide_eq_true_eq, List.all_eq_true] at h
  exact ⟨h.1.1.1, h.1.1.2, by omega, h.2⟩
end Go.Proofs.Ytiifdhdhjioefaa
