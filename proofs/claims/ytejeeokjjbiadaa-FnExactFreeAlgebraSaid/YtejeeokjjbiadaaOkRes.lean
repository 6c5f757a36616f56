/- Answers that are a list of rows or nothing. Proved for every program; no conditions. -/
import Derived.Test.YtejeeokjjbiadaaTypes
namespace Go.Proofs.Ytejeeokjjbiadaa
open Go Go.Proofs
set_option linter.unusedVariables false
/-- the answer: a list of rows, or nothing -/
def okRows (ok : Bool) (xs : List (List Int)) : List (List Int) := if ok then xs else []
end Go.Proofs.Ytejeeokjjbiadaa
