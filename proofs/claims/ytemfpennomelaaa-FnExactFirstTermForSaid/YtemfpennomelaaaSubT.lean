/- Whether a list of tuples is a subpower: spec.l8Is. Proved for this program; conditions: a valid algebra, tuples of length 1 to 64. -/
import Derived.Test.YtemfpennomelaaaSubI
namespace Go.Proofs.Ytemfpennomelaaa
open Go Go.Proofs
set_option linter.unusedVariables false
theorem next_at (c k : Nat) {i : Nat} (hi : (i : Int) < pw (c : Int) k) :
    (nextL (c : Int) (lowd (i : Int) (c : Int) k)).2 = decide ((i : Int) + 1 < pw (c : Int) k) ∧ ((i : Int) + 1 < pw (c : Int) k → (nextL (c : Int) (lowd (i : Int) (c : Int) k)).1 = lowd ((i + 1 : Nat) : Int) (c : Int) k) := by
  rcases Nat.eq_zero_or_pos c with rfl | e
  · cases k with
    | zero =>
      have : i = 0 := by simp [pw] at hi; omega
      subst this
      exact ⟨rfl, fun h => by simp [pw] at h⟩
    | succ k => simp [pw] at hi; omega
  · exact nextL_lowd (c : Int) (by omega) k (i : Int) (by omega) hi
theorem more_iff (c k : Nat) : k = 0 ∨ 0 < c ↔ (0 : Int) < pw (c : Int) k := by
  rcases Nat.eq_zero_or_pos k with rfl | e
  · simp [pw]
  · rcases Nat.eq_zero_or_pos c with e2 | e2
    · obtain ⟨k, rfl⟩ := Nat.exists_eq_succ_of_ne_zero (by omega : k ≠ 0)
      simp [e2, pw]
    · have : ∀ k, 0 < pw (c : Int) k := fun k => by
        induction k with
        | zero => show (0 : Int) < 1; decide
        | succ k ih => exact Int.mul_pos ih (by omega)
      simp [this k]; omega
theorem low_at {c k i : Nat} (hi : (i : Int) < pw (c : Int) k) : ∀ x ∈ lowd (i : Int) (c : Int) k, 0 ≤ x ∧ x.toNat < c := by
  rcases Nat.eq_zero_or_pos c with rfl | e
  · cases k with
    | zero => intro x hx; cases hx
    | succ k => simp [pw] at hi; omega
  · intro x hx
    have := lowd_range' (i : Int) (c : Int) (by omega) (by omega) _ x hx
    omega
end Go.Proofs.Ytemfpennomelaaa
/- Subpowers: spec.IsSubpower, l8Takes, impl.IsSubpower, hasSubpower: the same answers. Proved for this program; conditions: lengths below 2^42. -/
namespace Go.Proofs.Ytemfpennomelaaa
open Go Go.Proofs
set_option linter.unusedVariables false
def subOk (n : Int) (os : List (Int × List Int)) (k : Int) : Bool := algB n os && decide (1 ≤ k ∧ k ≤ 64)
theorem subOk_at {n : Int} {os : List (Int × List Int)} {k : Int} (h : subOk n os k = true) : algB n os = true ∧ 1 ≤ k ∧ k ≤ 64 := by
  simp only [subOk, Bool.and_eq_true, decide_eq_true_eq] at h; exact h
end Go.Proofs.Ytemfpennomelaaa
