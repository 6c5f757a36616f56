/- Functions derived step by step: impl.derived. Proved for this program; conditions: valid algebras, sizes in range. -/
import Derived.Test.YtiifdhdhjioefaaPolySize
import Derived.Test.YtiifdhdhjioefaaTermFns
namespace Go.Proofs.Ytiifdhdhjioefaa
open Go Go.Proofs
set_option linter.unusedVariables false

abbrev Row := List Int
/-- the rows of a derivation -/
structure DInv (n : Int) (size : Nat) (ts : List Row) : Prop where
  row : ∀ t ∈ ts, t.length = size ∧ elB n t = true
theorem DInv.add {n : Int} {size : Nat} {ts : List Row} (h : DInv n size ts) {t : Row} (h1 : t.length = size) (h2 : elB n t = true) : DInv n size (ts ++ [t]) := ⟨fun u hu => by
  rcases List.mem_append.1 hu with hu | hu
  · exact h.row u hu
  · rw [List.mem_singleton.1 hu]; exact ⟨h1, h2⟩⟩
theorem elB_mem {n : Int} {l : List Int} (h : elB n l = true) : ∀ x ∈ l, 0 ≤ x ∧ x < n := fun x hx => by
  rw [elB, List.all_eq_true] at h
  simpa using h x hx
end Go.Proofs.Ytiifdhdhjioefaa
