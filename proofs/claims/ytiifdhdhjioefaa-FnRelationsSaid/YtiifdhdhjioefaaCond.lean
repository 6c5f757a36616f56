/- Conditions: spec.l15Variables, l15Good, IsCondition, impl.areVars, IsCondition: the same answer. Proved for this program; conditions: lengths below 2^62. -/
import Derived.Test.YtiifdhdhjioefaaElem
namespace Go.Proofs.Ytiifdhdhjioefaa
open Go Go.Proofs
set_option linter.unusedVariables false

end Go.Proofs.Ytiifdhdhjioefaa
