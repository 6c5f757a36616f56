/- Subdirect subpowers: spec.IsSubdirect, impl.IsSubdirect: the same answer. Proved for this program; conditions: lengths below 2^42. -/
import Derived.Test.YtejeeokjjbiadaaSubT
import Derived.Test.YtejeeokjjbiadaaPutI
import Derived.Test.YtejeeokjjbiadaaMarks
namespace Go.Proofs.Ytejeeokjjbiadaa
open Go Go.Proofs
set_option linter.unusedVariables false
theorem trueAt_set {N : Nat} {ls : List Int} (h : ∀ x ∈ ls, 0 ≤ x ∧ x < N) : trueAt (mkB N ls) = setI ls := by
  obtain ⟨h1, h2⟩ := setI_str ls
  refine strI_ext ?_ h1 fun t => ?_
  · show StrI (trueTo (mkB N ls) (mkB N ls).length)
    rw [StrI, trueTo, List.pairwise_map]
    exact ((List.pairwise_lt_range (n := _)).filter _).imp fun {a b} h => Int.ofNat_lt.2 h
  · rw [h2]
    show t ∈ trueTo (mkB N ls) (mkB N ls).length ↔ _
    simp only [trueTo, List.mem_map, List.mem_filter, List.mem_range, mkB_length]
    constructor
    · rintro ⟨i, ⟨hi, hb⟩, rfl⟩
      rw [List.getD_eq_getElem?_getD, List.getElem?_eq_getElem (by rw [mkB_length]; exact hi), Option.getD_some, mkB_at] at hb
      simpa using hb
    · intro ht
      obtain ⟨h3, h4⟩ := h t ht
      refine ⟨t.toNat, ⟨by omega, ?_⟩, by omega⟩
      rw [List.getD_eq_getElem?_getD, List.getElem?_eq_getElem (by rw [mkB_length]; omega), Option.getD_some, mkB_at, Int.toNat_of_nonneg h3]
      simpa using ht
def colV (X : List (List Int)) (p : Nat) : List Int := X.map fun t => t.getD p 0
theorem colV_in {n : Int} {k : Nat} {X : List (List Int)} (h : ∀ t ∈ X, TupOk n k t) {p : Nat} (hp : p < k) : ∀ x ∈ colV X p, 0 ≤ x ∧ x < n := fun x hx => by
  obtain ⟨t, ht, rfl⟩ := List.mem_map.1 hx
  obtain ⟨h1, h2⟩ := h t ht
  rw [getD_g _ _ _ (by omega)]
  exact elB_at h2 (by omega)
theorem setI_few {n : Int} {ls : List Int} (h : ∀ x ∈ ls, 0 ≤ x ∧ x < n) (h0 : 0 ≤ n) : ((setI ls).length : Int) ≤ n := by
  obtain ⟨N, rfl⟩ : ∃ N : Nat, n = N := ⟨n.toNat, by omega⟩
  rw [← trueAt_set h]
  have := trueTo_le (mkB N ls) (mkB N ls).length
  rw [mkB_length] at this
  show ((trueTo (mkB N ls) (mkB N ls).length).length : Int) ≤ N
  rw [mkB_length]; omega
theorem mkB_nil2 (N : Nat) : List.replicate N false = mkB N [] := by
  apply List.ext_getElem
  · simp [mkB]
  · intro i h1 h2
    simp [mkB]
end Go.Proofs.Ytejeeokjjbiadaa
