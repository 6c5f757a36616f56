/- Clones: impl.cloneOf, termFunctions. Proved for this program; conditions: 1 to 8 elements, up to 3 arguments, up to 27 positions, valid operations. -/
import Derived.Test.YtkelbadedagcaaaClone
import Derived.Test.YtkelbadedagcaaaAlg
namespace Go.Proofs.Ytkelbadedagcaaa
open Go Go.Proofs
set_option linter.unusedVariables false

def initC (n : Int) (k size : Nat) : Nat → CS
  | 0 => ([], [])
  | p + 1 => addC (initC n k size p) (projL n k p size) (-1, [(p : Int)])
/-- functions of so many positions, each with its step -/
structure CInv (n : Int) (size : Nat) (c : CS) : Prop where
  row : ∀ t ∈ c.1, t.length = size ∧ elB n t = true
  stp : c.2.length = c.1.length
theorem CInv.nil (n : Int) (size : Nat) : CInv n size ([], []) := ⟨fun t h => (by cases h), rfl⟩
theorem CInv.add {n : Int} {size : Nat} {c : CS} (h : CInv n size c) {t : List Int} {st : Int × List Int} (ht : t.length = size) (he : elB n t = true) : CInv n size (addC c t st) := by
  rw [addC]
  split
  · exact h
  · exact ⟨fun u hu => by
      rcases List.mem_append.1 hu with hu | hu
      · exact h.row u hu
      · rw [List.mem_singleton.1 hu]; exact ⟨ht, he⟩, by simp [h.stp]⟩
theorem elB_bytes {n : Int} {t : List Int} (h8 : n ≤ 8) (h : elB n t = true) : ∀ x ∈ t, 0 ≤ x ∧ x < 65536 := fun x hx => by
  rw [elB, List.all_eq_true] at h
  have := h x hx
  simp only [decide_eq_true_eq] at this
  omega
theorem CInv.key {n : Int} {size : Nat} {c : CS} (h : CInv n size c) (h8 : n ≤ 8) {t : List Int} (ht : elB n t = true) : keyS t ∈ List.map keyS c.1 ↔ t ∈ c.1 :=
  keyS_mem (elB_bytes h8 ht) (fun u hu => elB_bytes h8 (h.row u hu).2)
def cloneV (n : Int) (os : List (Int × List Int)) (k : Int) : Option CS := if algB n os && rangeB n k then cloneR n (pw n k.toNat).toNat os 62 (initC n k.toNat (pw n k.toNat).toNat k.toNat) (-1) else none
theorem cloneV_at {n : Int} {os : List (Int × List Int)} {k : Int} (ha : algB n os = true) (hr : rangeB n k = true) : ∃ m size : Nat, k = m ∧ 1 ≤ m ∧ m ≤ 3 ∧ pw n m = size ∧ size ≤ 27 ∧ cloneV n os k = cloneR n size os 62 (initC n m size m) (-1) := by
  have hr2 := hr
  simp only [rangeB, Bool.and_eq_true, decide_eq_true_eq] at hr
  obtain ⟨m, rfl⟩ : ∃ m : Nat, k = m := ⟨k.toNat, by omega⟩
  have h0 := pw_nonneg n (by have := algB_at ha; omega) m
  refine ⟨m, (pw n m).toNat, rfl, by omega, by omega, by omega, by simp at hr; omega, ?_⟩
  rw [cloneV, ha, hr2]; rfl
end Go.Proofs.Ytkelbadedagcaaa
