/- Clones: impl.cloneOf, termFunctions. Proved for this program; conditions: 1 to 8 elements, up to 3 arguments, up to 27 positions, valid operations. -/
import Derived.Test.YtiifdhdhjioefaaClone
import Derived.Test.YtiifdhdhjioefaaAlg
namespace Go.Proofs.Ytiifdhdhjioefaa
open Go Go.Proofs
set_option linter.unusedVariables false

/-- functions of so many positions, each with its step -/
structure CInv (n : Int) (size : Nat) (c : CS) : Prop where
  row : ∀ t ∈ c.1, t.length = size ∧ elB n t = true
  stp : c.2.length = c.1.length
theorem CInv.nil (n : Int) (size : Nat) : CInv n size ([], []) := ⟨fun t h => (by cases h), rfl⟩
theorem CInv.add {n : Int} {size : Nat} {c : CS} (h : CInv n size c) {t : List Int} {st : Int × List Int} (ht : t.length = size) (he : elB n t = true) : CInv n size (addC c t st) := by
  rw [addC]
  split
  · exact h
  · exact ⟨fun u hu => by
      rcases List.mem_append.1 hu with hu | hu
      · exact h.row u hu
      · rw [List.mem_singleton.1 hu]; exact ⟨ht, he⟩, by simp [h.stp]⟩
theorem elB_bytes {n : Int} {t : List Int} (h8 : n ≤ 8) (h : elB n t = true) : ∀ x ∈ t, 0 ≤ x ∧ x < 65536 := fun x hx => by
  rw [elB, List.all_eq_true] at h
  have := h x hx
  simp only [decide_eq_true_eq] at this
  omega
theorem CInv.key {n : Int} {size : Nat} {c : CS} (h : CInv n size c) (h8 : n ≤ 8) {t : List Int} (ht : elB n t = true) : keyS t ∈ List.map keyS c.1 ↔ t ∈ c.1 :=
  keyS_mem (elB_bytes h8 ht) (fun u hu => elB_bytes h8 (h.row u hu).2)
theorem chosen_put {xs : List (List Int)} {ns : List Int} {A : List (List Int)} {q : Nat} (hq : q < ns.length) (hA : A.length = ns.length) (hx : (ns[q]).toNat < xs.length) :
    ((chosen xs ns).take q ++ A.drop q).set q (xs[(ns[q]).toNat]) = (chosen xs ns).take (q + 1) ++ A.drop (q + 1) := by
  have hcl : (chosen xs ns).length = ns.length := by simp [chosen]
  have hl : ((chosen xs ns).take q).length = q := by simp [hcl]; omega
  have e : (chosen xs ns)[q]'(by omega) = xs[(ns[q]).toNat] := by simp [chosen, hx]
  rw [List.set_append_right _ _ (by omega), hl, Nat.sub_self, List.drop_eq_getElem_cons (by omega), List.set_cons_zero, List.take_add_one, List.getElem?_eq_getElem (by omega : q < (chosen xs ns).length), e, List.append_assoc]
  rfl


end Go.Proofs.Ytiifdhdhjioefaa
