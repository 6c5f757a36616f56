/- Relations of rows: impl.cloneRows, sortedTuples, makeRelation; spec.RelationOf, impl.RelationOf: the same answer. Proved for this program; conditions: lengths below 2^42. -/
import Derived.Test.YtodlpdedldhebaaRelW
import Derived.Test.YtodlpdedldhebaaMeet
namespace Go.Proofs.Ytodlpdedldhebaa
open Go Go.Proofs
set_option linter.unusedVariables false
theorem putF_snoc {ts : List (List Int)} {m : Nat} (h : m < ts.length) : putF (ts.take (m + 1)) = putL (putF (ts.take m)) ts[m] := by
  rw [List.take_add_one, List.getElem?_eq_getElem h, putF, putF, List.foldl_append]; rfl
theorem putF_len {k : Nat} {ts : List (List Int)} (ht : ∀ u ∈ ts, u.length = k) : ∀ u ∈ putF ts, u.length = k := fun u hu => ht u (((putF_str ht).2 u).1 hu)

end Go.Proofs.Ytodlpdedldhebaa
