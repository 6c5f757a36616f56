/- Valid relations: spec.l13Good, l13Takes, IsRelation, impl.isRelation, hasRelation, IsRelation: the same answer. Proved for this program; conditions: lengths below 2^62. -/
import Derived.Test.YtemfpennomelaaaTup
namespace Go.Proofs.Ytemfpennomelaaa
open Go Go.Proofs
set_option linter.unusedVariables false

/-- the number of a tuple in base n -/
def num (n : Int) : List Int → Int
  | [] => 0
  | x :: t => x * pw n t.length + num n t
theorem lenOf {b : Bool} {x y : Int} (h : (decide (x = y) && b) = true) : x = y := by simp at h; exact h.1

end Go.Proofs.Ytemfpennomelaaa
