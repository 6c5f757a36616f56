/- Clones: impl.cloneOf, termFunctions. Proved for this program; conditions: 1 to 8 elements, up to 3 arguments, up to 27 positions, valid operations. -/
import Derived.Test.YtiifdhdhjioefaaClone
import Derived.Test.YtiifdhdhjioefaaAlg
namespace Go.Proofs.Ytiifdhdhjioefaa
open Go Go.Proofs
set_option linter.unusedVariables false

/-- functions of so many positions, each with its step -/
structure CInv (n : Int) (size : Nat) (c : CS) : Prop where
  row : ∀ t ∈ c.1, t.length = size ∧ elB n t = true
  stp : c.2.length = c.1.length
theorem CInv.nil (n : Int) (size : Nat) : CInv n size ([], []) := ⟨fun t h => (by cases h), rfl⟩
theorem CInv.add {n : Int} {size : Nat} {c : CS} (h : CInv n size c) {t : List Int} {st : Int × List Int} (ht : t.length = size) (he : elB n t = true) : CInv n size (addC c t st) := by
  rw [addC]
  split
  · exact h
  · exact ⟨fun u hu => by
      rcases List.mem_append.1 hu with hu | hu
      · exact h.row u hu
      · rw [List.mem_singleton.1 hu]; exact ⟨ht, he⟩, by simp [h.stp]⟩
theorem elB_bytes {n : Int} {t : List Int} (h8 : n ≤ 8) (h : elB n t = true) : ∀ x ∈ t, 0 ≤ x ∧ x < 65536 := fun x hx => by
  rw [elB, List.all_eq_true] at h
  have := h x hx
  simp only [decide_eq_true_eq] at this
  omega
theorem CInv.key {n : Int} {size : Nat} {c : CS} (h : CInv n size c) (h8 : n ≤ 8) {t : List Int} (ht : elB n t = true) : keyS t ∈ List.map keyS c.1 ↔ t ∈ c.1 :=
  keyS_mem (elB_bytes h8 ht) (fun u hu => elB_bytes h8 (h.row u hu).2)
end Go.Proofs.Ytiifdhdhjioefaa
