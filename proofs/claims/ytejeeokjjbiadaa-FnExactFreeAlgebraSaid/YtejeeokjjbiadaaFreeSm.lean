/- Sizes of answers about free algebras. Proved for this program; no conditions. -/
import Derived.Test.YtejeeokjjbiadaaFreeP
import Derived.Test.YtejeeokjjbiadaaSubSm
namespace Go.Proofs.Ytejeeokjjbiadaa
open Go Go.Proofs
set_option linter.unusedVariables false
theorem free_few {n : Int} {os : List (Int × List Int)} {k : Int} {o : Option (List (List Int))} (h : FreeIs n os k o) : ∀ X, genO (rankB n os k) o = some X → X.length ≤ 300 ∧ ∀ t ∈ X, t.length ≤ 64 := fun X hX => by
  cases hg : rankB n os k with
  | false => rw [hg] at hX; cases hX
  | true =>
    rw [hg] at hX
    have hX : o = some X := hX
    subst hX
    have hF := free_ok hg h
    obtain ⟨_, _, hf64⟩ := fLen_at hg
    exact ⟨hF.few, fun t ht => by rw [(hF.tup t ht).1]; exact hf64⟩
theorem free_small {n : Int} {os : List (Int × List Int)} {k : Int} {o : Option (List (List Int))} (h : FreeIs n os k o) : ((genO (rankB n os k) o).getD []).length + sm (((genO (rankB n os k) o).getD []).map fun y : List Int => y.length) ≤ 134217728 := by
  cases hX : genO (rankB n os k) o with
  | none => simp [sm]
  | some X =>
    obtain ⟨h1, h2⟩ := free_few h X hX
    exact okRows_small (ok := true) (xs := X) (fun _ => ⟨by omega, fun t ht => by have := h2 t ht; omega⟩)
end Go.Proofs.Ytejeeokjjbiadaa
