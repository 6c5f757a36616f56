/- The patterns of a condition: spec.l12Place, l15Patterns, PatternsOf, impl.patternAt, patternsOf, PatternsOf: the same answer. Proved for this program; conditions: lengths below 2^46. -/
import Derived.Test.YtiifdhdhjioefaaCond
import Derived.Test.YtiifdhdhjioefaaTup
import Derived.Test.YtiifdhdhjioefaaOwn
namespace Go.Proofs.Ytiifdhdhjioefaa
open Go Go.Proofs
set_option linter.unusedVariables false

end Go.Proofs.Ytiifdhdhjioefaa
