/- Clones: spec.l12Add, l12Round, l12Rounds, l12First, l12Clone. Proved for this program; conditions: 1 to 8 elements, up to 3 arguments, up to 27 positions, valid operations. -/
import Derived.Test.YtiifdhdhjioefaaCloneI
import Derived.Test.YtiifdhdhjioefaaPat
namespace Go.Proofs.Ytiifdhdhjioefaa
open Go Go.Proofs
set_option linter.unusedVariables false

theorem placeAt_lt {xs : List (List Int)} {t : List Int} : placeAt xs t < 0 ↔ t ∉ xs := by
  induction xs with
  | nil => simp [placeAt]
  | cons x xs ih =>
    have h := placeAt_le xs t
    simp only [placeAt, List.mem_cons, not_or]
    split
    · rename_i e; simp [e]
    · rename_i e
      split
      · rename_i h1
        exact ⟨fun _ => ⟨fun h => e h.symm, ih.1 h1⟩, fun _ => by decide⟩
      · rename_i h1
        exact ⟨fun h2 => by omega, fun h2 => absurd (ih.2 h2.2) h1⟩
theorem chosen_take (xs : List (List Int)) (ns : List Int) (q : Nat) (hq : q < ns.length) (hx : (ns[q]).toNat < xs.length) : chosen xs (ns.take (q + 1)) = chosen xs (ns.take q) ++ [xs[(ns[q]).toNat]] := by
  rw [chosen, chosen, take_snoc ns q hq, List.map_append, List.map_singleton, List.getD_eq_getElem?_getD, List.getElem?_eq_getElem hx]; rfl
end Go.Proofs.Ytiifdhdhjioefaa
