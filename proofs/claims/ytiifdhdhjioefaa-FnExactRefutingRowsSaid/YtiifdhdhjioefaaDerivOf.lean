/- The derivation of a term function: spec.l12Copy, DerivationOf, impl.DerivationOf: the same answer. Proved for this program; conditions: lengths below 2^62. -/
import Derived.Test.YtiifdhdhjioefaaTermFn
namespace Go.Proofs.Ytiifdhdhjioefaa
open Go Go.Proofs
set_option linter.unusedVariables false

abbrev Stp := Int × List Int
/-- the steps of a clone have few arguments -/
def StpOk (c : CS) : Prop := ∀ s ∈ c.2, s.2.length ≤ 3
end Go.Proofs.Ytiifdhdhjioefaa
