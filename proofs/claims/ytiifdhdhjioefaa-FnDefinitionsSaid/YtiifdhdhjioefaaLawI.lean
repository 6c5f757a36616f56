/- The laws' helpers on lists of numbers: eqIntS, markIntS, heldIntS. Proved for this program; conditions: lengths and marks below 2^62. -/
import Derived.Test.YtiifdhdhjioefaaTypes
namespace Go.Proofs.Ytiifdhdhjioefaa
open Go Go.Proofs

theorem take_succ_eq {α : Type} {xs ys : List α} {j : Nat} (h1 : j < xs.length) (h2 : j < ys.length) (h : xs.take j = ys.take j) (he : xs[j] = ys[j]) : xs.take (j + 1) = ys.take (j + 1) := by
  rw [List.take_add_one, List.take_add_one, h, List.getElem?_eq_getElem h1, List.getElem?_eq_getElem h2, he]
theorem eq_of_take {α : Type} {xs ys : List α} {j : Nat} (h1 : xs.length ≤ j) (h2 : ys.length ≤ j) (h : xs.take j = ys.take j) : xs = ys := by
  rwa [List.take_of_length_le h1, List.take_of_length_le h2] at h

theorem copy_set (xs : List Int) (j : Nat) (h : j < xs.length) : (xs.take j ++ List.replicate (xs.length - j) (0 : Int)).set j xs[j] = xs.take (j + 1) ++ List.replicate (xs.length - (j + 1)) 0 := by
  have e : xs.length - j = (xs.length - (j + 1)) + 1 := by omega
  rw [List.set_append_right _ _ (by simp; omega), List.length_take, Nat.min_eq_left (by omega), Nat.sub_self, e, List.replicate_succ, List.set_cons_zero, show xs.take (j + 1) = xs.take j ++ [xs[j]] from by rw [List.take_add_one, List.getElem?_eq_getElem h]; rfl, List.append_assoc]
  rfl

end Go.Proofs.Ytiifdhdhjioefaa
