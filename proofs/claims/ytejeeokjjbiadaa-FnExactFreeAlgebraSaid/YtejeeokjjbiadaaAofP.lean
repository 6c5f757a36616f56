/- The algebra of a subpower in plain terms. No program in sight. -/
import Derived.Test.YtejeeokjjbiadaaSubT
namespace Go.Proofs.Ytejeeokjjbiadaa
open Go Go.Proofs
set_option linter.unusedVariables false
/-- the table of an operation on the tuples -/
def opTab (n : Int) (k : Nat) (X : List (List Int)) (f : Int × List Int) (m : Nat) : List Int := (List.range m).map fun i => (placeOf X (opV n k f X i) : Int)
theorem opTab_succ (n : Int) (k : Nat) (X : List (List Int)) (f : Int × List Int) (m : Nat) : opTab n k X f (m + 1) = opTab n k X f m ++ [(placeOf X (opV n k f X m) : Int)] := by
  simp [opTab, List.range_succ]
def algOps (n : Int) (k : Nat) (X : List (List Int)) (os : List (Int × List Int)) : List (Int × List Int) := os.map fun f => (f.1, opTab n k X f (opN f X))
theorem algOps_succ {n : Int} {k : Nat} {X : List (List Int)} {os : List (Int × List Int)} {j : Nat} (h : j < os.length) : algOps n k X (os.take (j + 1)) = algOps n k X (os.take j) ++ [(os[j].1, opTab n k X os[j] (opN os[j] X))] := by
  rw [algOps, List.take_add_one, List.getElem?_eq_getElem h, List.map_append]; rfl
end Go.Proofs.Ytejeeokjjbiadaa
