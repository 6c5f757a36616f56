/- The first tuples for which an operation leaves a relation: spec.l13Break, impl.firstBreak. Proved for this program; conditions: a valid relation and operation, tables of up to 2^30 lists of tuples. -/
import Derived.Test.YtemfpennomelaaaAppl
import Derived.Test.YtemfpennomelaaaNext
import Derived.Test.YtemfpennomelaaaHas
import Derived.Test.YtemfpennomelaaaKeys
import Derived.Test.YtemfpennomelaaaOps
namespace Go.Proofs.Ytemfpennomelaaa
open Go Go.Proofs
set_option linter.unusedVariables false

theorem lowd_range (i n : Int) (h0 : 0 ≤ i) (hn : 1 ≤ n) : ∀ m, ∀ x ∈ lowd i n m, 0 ≤ x ∧ x < n
  | 0, x, h => by cases h
  | m + 1, x, h => by
    rcases List.mem_cons.1 h with rfl | h
    · exact ⟨Int.emod_nonneg _ (by omega), Int.emod_lt_of_pos _ (by omega)⟩
    · exact lowd_range i n h0 hn m x h
/-- what the search needs -/
structure BrOk (n : Int) (k : Nat) (tb : List Int) (ar : Nat) (xs : List (List Int)) : Prop where
  n1 : 1 ≤ n
  n8 : n ≤ 8
  k3 : k ≤ 3
  tab : (tb.length : Int) = pw n k
  tel : elB n tb = true
  ar3 : ar ≤ 3
  row : ∀ t ∈ xs, t.length = ar ∧ elB n t = true
  few : xs.length ≤ 1048576
  all : pw (xs.length : Int) k ≤ 1073741824
  srt : Sorted xs
theorem BrOk.num {n : Int} {k : Nat} {tb : List Int} {ar : Nat} {xs : List (List Int)} (h : BrOk n k tb ar xs) {i : Nat} (hi : (i : Int) < pw (xs.length : Int) k) : ∀ x ∈ lowd (i : Int) (xs.length : Int) k, 0 ≤ x ∧ x.toNat < xs.length := by
  intro x hx
  rcases Nat.eq_zero_or_pos xs.length with e | e
  · rw [e] at hi hx
    cases k with
    | zero => cases hx
    | succ k => simp [pw] at hi; omega
  · have := lowd_range (i : Int) (xs.length : Int) (by omega) (by omega) k x hx
    omega
theorem lowd_zero (n : Int) : ∀ m, lowd 0 n m = List.replicate m 0
  | 0 => rfl
  | m + 1 => by
    have : ∀ m, dv 0 n m = 0 := fun m => by
      induction m with
      | zero => rfl
      | succ m ih => rw [dv, ih]; simp
    rw [lowd, lowd_zero n m, this]; simp [List.replicate_succ]

theorem BrOk.next {n : Int} {k : Nat} {tb : List Int} {ar : Nat} {xs : List (List Int)} (h : BrOk n k tb ar xs) {i : Nat} (hi : (i : Int) < pw (xs.length : Int) k) :
    (nextL (xs.length : Int) (lowd (i : Int) (xs.length : Int) k)).2 = decide ((i : Int) + 1 < pw (xs.length : Int) k) ∧ ((i : Int) + 1 < pw (xs.length : Int) k → (nextL (xs.length : Int) (lowd (i : Int) (xs.length : Int) k)).1 = lowd ((i + 1 : Nat) : Int) (xs.length : Int) k) := by
  rcases Nat.eq_zero_or_pos xs.length with e | e
  · rw [e] at hi ⊢
    cases k with
    | zero =>
      have : i = 0 := by simp [pw] at hi; omega
      subst this
      exact ⟨rfl, fun h => by simp [pw] at h⟩
    | succ k => simp [pw] at hi; omega
  · exact nextL_lowd (xs.length : Int) (by omega) k (i : Int) (by omega) hi

end Go.Proofs.Ytemfpennomelaaa
