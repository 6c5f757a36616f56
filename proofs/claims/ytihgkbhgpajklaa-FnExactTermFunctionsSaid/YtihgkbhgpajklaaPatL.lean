/- The patterns of a condition: spec.l15Patterns, PatternsOf, impl.patternsOf, PatternsOf: the same answer. Proved for this program; conditions: a valid condition for l15Patterns and patternsOf; lengths below 2^42. -/
import Derived.Test.YtihgkbhgpajklaaPat
namespace Go.Proofs.Ytihgkbhgpajklaa
open Go Go.Proofs
set_option linter.unusedVariables false

theorem addP_yes {l : List (List Int)} {p : List Int} (h : placeAt l p < 0) : addP l p = l ++ [p] := if_pos h
theorem addP_no {l : List (List Int)} {p : List Int} (h : ¬ placeAt l p < 0) : addP l p = l := if_neg h
theorem patStep_yes {l : List (List Int)} {y : List Int × List Int} (h : 1 < (y.2.length : Int)) : patStep l y = addP (addP l y.1) y.2 := if_pos h
theorem patStep_no {l : List (List Int)} {y : List Int × List Int} (h : ¬ 1 < (y.2.length : Int)) : patStep l y = addP l y.1 := if_neg h

def addI (a : Int) (l : List (List Int)) (p : List Int) : List (List Int) := if (p.length : Int) = a ∧ placeAt l p < 0 then l ++ [p] else l
theorem addI_yes {a : Int} {l : List (List Int)} {p : List Int} (h : (p.length : Int) = a) : addI a l p = addP l p := by
  unfold addI addP; by_cases h2 : placeAt l p < 0
  · rw [if_pos ⟨h, h2⟩, if_pos h2]
  · rw [if_neg (fun h => h2 h.2), if_neg h2]
theorem addI_no {a : Int} {l : List (List Int)} {p : List Int} (h : ¬ (p.length : Int) = a) : addI a l p = l := if_neg (fun h2 => h h2.1)
theorem addI_step {a : Int} (ha : 2 ≤ a) (l : List (List Int)) (y : List Int × List Int) (h1 : (y.1.length : Int) = a) (h2 : (y.2.length : Int) = a ∨ y.2.length = 1) : addI a (addI a l y.1) y.2 = patStep l y := by
  rw [addI_yes h1]
  rcases h2 with h2 | h2
  · rw [addI_yes h2, patStep_yes (by omega)]
  · rw [addI_no (by omega), patStep_no (by omega)]
theorem addI_len {a : Int} {l : List (List Int)} {p : List Int} (h : PatLen l) (hp : p.length ≤ 3) : PatLen (addI a l p) ∧ (addI a l p).length ≤ l.length + 1 := by
  by_cases h1 : (p.length : Int) = a
  · rw [addI_yes h1]; exact ⟨addP_len h hp, addP_le _ _⟩
  · rw [addI_no h1]; exact ⟨h, by omega⟩

end Go.Proofs.Ytihgkbhgpajklaa
