/- Conditions: spec.l15Variables, l15Good, IsCondition, impl.areVars, IsCondition: the same answer. Proved for this program; conditions: lengths below 2^62. -/
import Derived.Test.YtemfpennomelaaaElem
import Derived.Test.YtemfpennomelaaaTup
import Derived.Test.YtemfpennomelaaaRelOf
import Derived.Test.YtemfpennomelaaaOps
namespace Go.Proofs.Ytemfpennomelaaa
open Go Go.Proofs
set_option linter.unusedVariables false

end Go.Proofs.Ytemfpennomelaaa
/- The patterns of a condition: spec.l12Place, l15Patterns, PatternsOf, impl.patternAt, patternsOf, PatternsOf: the same answer. Proved for this program; conditions: lengths below 2^46. -/
namespace Go.Proofs.Ytemfpennomelaaa
open Go Go.Proofs
set_option linter.unusedVariables false

end Go.Proofs.Ytemfpennomelaaa
/- The patterns of a condition: spec.l15Patterns, PatternsOf, impl.patternsOf, PatternsOf: the same answer. Proved for this program; conditions: a valid condition for l15Patterns and patternsOf; lengths below 2^42. -/
namespace Go.Proofs.Ytemfpennomelaaa
open Go Go.Proofs
set_option linter.unusedVariables false

end Go.Proofs.Ytemfpennomelaaa
/- The index of arguments in a table, a list composed with another: impl.indexOf, compose. Proved for this program; conditions: up to 3 arguments below a base of up to 8; indices in range. -/
namespace Go.Proofs.Ytemfpennomelaaa
open Go Go.Proofs
set_option linter.unusedVariables false

def hor (n : Int) (l : List Int) : Int := l.foldl (fun acc x => acc * n + x) 0
theorem hor_snoc (n : Int) (l : List Int) (x : Int) : hor n (l ++ [x]) = hor n l * n + x := by simp [hor]
theorem hor_succ (n : Int) (l : List Int) (j : Nat) (h : j < l.length) : hor n (l.take (j + 1)) = hor n (l.take j) * n + l[j] := by
  rw [List.take_add_one, List.getElem?_eq_getElem h]; exact hor_snoc _ _ _
theorem hor_bound (n : Int) (h0 : 0 ≤ n) (l : List Int) (h : elB n l = true) : ∀ j, j ≤ l.length → 0 ≤ hor n (l.take j) ∧ hor n (l.take j) < pw n j
  | 0, _ => by simp [hor, pw]
  | j + 1, hj => by
    obtain ⟨h1, h2⟩ := hor_bound n h0 l h j (by omega)
    have hx := List.getElem_mem (show j < l.length by omega)
    rw [elB, List.all_eq_true] at h
    have h3 := h _ hx
    simp only [decide_eq_true_eq] at h3
    rw [hor_succ n l j (by omega)]
    have h4 : 0 ≤ hor n (l.take j) * n := Int.mul_nonneg h1 h0
    have h5 : (hor n (l.take j) + 1) * n ≤ pw n j * n := Int.mul_le_mul_of_nonneg_right (by omega) h0
    rw [Int.add_mul] at h5
    simp only [pw]; omega

theorem pw_512' (n : Int) (h0 : 1 ≤ n) (h8 : n ≤ 8) (k : Nat) (hk : k ≤ 3) : pw n k ≤ 512 := by
  have h1 : pw n 1 = n := by simp [pw]
  have h2 : pw n 2 ≤ 8 * 8 := Int.mul_le_mul (by omega : pw n 1 ≤ 8) h8 (by omega) (by decide)
  have h3 : pw n 3 ≤ 64 * 8 := Int.mul_le_mul h2 h8 (by omega) (by decide)
  match k, hk with
  | 0, _ => simp [pw]
  | 1, _ => omega
  | 2, _ => omega
  | 3, _ => omega

def comp (f g : List Int) : List Int := f.map fun v => g.getD v.toNat 0
end Go.Proofs.Ytemfpennomelaaa
