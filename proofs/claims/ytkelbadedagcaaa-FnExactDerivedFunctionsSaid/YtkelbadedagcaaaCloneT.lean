/- Clones: spec.l12Rounds, l12First, l12Clone. Proved for this program; conditions: 1 to 8 elements, up to 3 arguments, up to 27 positions, valid operations. -/
import Derived.Test.YtkelbadedagcaaaCloneS
namespace Go.Proofs.Ytkelbadedagcaaa
open Go Go.Proofs
set_option linter.unusedVariables false

def firstL (n : Int) (k size : Nat) (m : Nat) : List (List Int) := (List.range m).map fun (p : Nat) => projL n k p size
theorem firstL_length (n : Int) (k size m : Nat) : (firstL n k size m).length = m := by simp [firstL]
theorem firstL_at (n : Int) (k size m i : Nat) (h : i < (firstL n k size m).length) : (firstL n k size m)[i] = projL n k i size := by simp [firstL]
theorem firstL_succ (n : Int) (k size m : Nat) : firstL n k size (m + 1) = firstL n k size m ++ [projL n k m size] := by simp [firstL, List.range_succ]
end Go.Proofs.Ytkelbadedagcaaa
