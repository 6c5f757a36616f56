/- Rows that show that no term function obeys a condition: spec.IsRefutation, impl.isClosedRows, IsRefutation: the same answer. Proved for this program; conditions: lengths below 2^62. -/
import Derived.Test.YtiifdhdhjioefaaMalO
namespace Go.Proofs.Ytiifdhdhjioefaa
open Go Go.Proofs
set_option linter.unusedVariables false
theorem low_in {K k i : Nat} (hK : 1 ≤ K) : ∀ x ∈ lowd (i : Int) (K : Int) k, 0 ≤ x ∧ x.toNat < K := fun x hx => by
  have := lowd_range' (i : Int) (K : Int) (by omega) (by omega) _ x hx
  omega
end Go.Proofs.Ytiifdhdhjioefaa
