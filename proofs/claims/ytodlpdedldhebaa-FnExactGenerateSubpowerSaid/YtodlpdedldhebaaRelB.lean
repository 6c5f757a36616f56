/- The digits of a number: impl.argsAt, spec.l2Args. Proved for this program; conditions: no number below 0, a base of at least 1, up to 2^20 digits. -/
import Derived.Test.YtodlpdedldhebaaRelA
namespace Go.Proofs.Ytodlpdedldhebaa
open Go Go.Proofs

def dv (i n : Int) : Nat → Int
  | 0 => i
  | m + 1 => dv i n m / n
def lowd (i n : Int) : Nat → List Int
  | 0 => []
  | m + 1 => (dv i n m % n) :: lowd i n m
theorem lowd_length (i n : Int) (m : Nat) : (lowd i n m).length = m := by induction m <;> simp_all [lowd]
end Go.Proofs.Ytodlpdedldhebaa
