/- Valid relations: spec.l13Good, l13Takes, IsRelation, impl.isRelation, hasRelation, IsRelation: the same answer. Proved for this program; conditions: lengths below 2^62. -/
import Derived.Test.YtiifdhdhjioefaaTup
namespace Go.Proofs.Ytiifdhdhjioefaa
open Go Go.Proofs
set_option linter.unusedVariables false

theorem lenOf {b : Bool} {x y : Int} (h : (decide (x = y) && b) = true) : x = y := by simp at h; exact h.1

end Go.Proofs.Ytiifdhdhjioefaa
