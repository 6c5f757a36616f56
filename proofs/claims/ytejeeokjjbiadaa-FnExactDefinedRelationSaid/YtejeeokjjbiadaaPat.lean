/- The patterns of a condition: spec.l12Place, l15Patterns, PatternsOf, impl.patternAt, patternsOf, PatternsOf: the same answer. Proved for this program; conditions: lengths below 2^46. -/
import Derived.Test.YtejeeokjjbiadaaCond
import Derived.Test.YtejeeokjjbiadaaTup
import Derived.Test.YtejeeokjjbiadaaOwn
namespace Go.Proofs.Ytejeeokjjbiadaa
open Go Go.Proofs
set_option linter.unusedVariables false

end Go.Proofs.Ytejeeokjjbiadaa
