/- Conditions: spec.l15Variables, l15Good, IsCondition, impl.areVars, IsCondition: the same answer. Proved for this program; conditions: lengths below 2^62. -/
import Derived.Test.YtihgkbhgpajklaaElem
namespace Go.Proofs.Ytihgkbhgpajklaa
open Go Go.Proofs
set_option linter.unusedVariables false

def varB (k : Int) (l : List Int) : Bool := decide ((l.length : Int) = k) && elB 2 l
def ruleB (a : Int) (y : List Int × List Int) : Bool := varB a y.1 && (varB a y.2 || varB 1 y.2)
def condB (a : Int) (rs : List (List Int × List Int)) : Bool := decide (2 ≤ a ∧ a ≤ 3) && (decide (1 ≤ (rs.length : Int) ∧ (rs.length : Int) ≤ 6) && rs.all (ruleB a))

end Go.Proofs.Ytihgkbhgpajklaa
