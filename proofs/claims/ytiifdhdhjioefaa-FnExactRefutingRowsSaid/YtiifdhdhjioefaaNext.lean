/- The next list of numbers below a bound, rows chosen by numbers: spec.l8Next, l8Choose. Proved for this program; conditions: lengths below 2^20, numbers in range. -/
import Derived.Test.YtiifdhdhjioefaaRelB
import Derived.Test.YtiifdhdhjioefaaOwn
namespace Go.Proofs.Ytiifdhdhjioefaa
open Go Go.Proofs
set_option linter.unusedVariables false

theorem take_snoc (l : List Int) (j : Nat) (h : j < l.length) : l.take (j + 1) = l.take j ++ [l[j]] := by
  rw [List.take_add_one, List.getElem?_eq_getElem h]; rfl

theorem lowd_range' (i n : Int) (h0 : 0 ≤ i) (hn : 1 ≤ n) : ∀ m, ∀ x ∈ lowd i n m, 0 ≤ x ∧ x < n
  | 0, x, h => by cases h
  | m + 1, x, h => by
    rcases List.mem_cons.1 h with rfl | h
    · exact ⟨Int.emod_nonneg _ (by omega), Int.emod_lt_of_pos _ (by omega)⟩
    · exact lowd_range' i n h0 hn m x h
end Go.Proofs.Ytiifdhdhjioefaa
