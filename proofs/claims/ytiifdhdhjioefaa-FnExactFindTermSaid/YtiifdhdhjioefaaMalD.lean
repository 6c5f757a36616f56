/- Derivations over the rows of a condition: impl.derivedRows, spec.l15Step, ObeyedBy on both sides: the same answer. Proved for this program; conditions: lengths below 2^62. -/
import Derived.Test.YtiifdhdhjioefaaMalA
namespace Go.Proofs.Ytiifdhdhjioefaa
open Go Go.Proofs
set_option linter.unusedVariables false
theorem pw_64 (n : Int) (h0 : 1 ≤ n) (h4 : n ≤ 4) (k : Nat) (hk : k ≤ 3) : pw n k ≤ 64 := by
  have h1 : pw n 1 = n := by simp [pw]
  have h2 : pw n 2 ≤ 4 * 4 := Int.mul_le_mul (by omega : pw n 1 ≤ 4) h4 (by omega) (by decide)
  have h3 : pw n 3 ≤ 16 * 4 := Int.mul_le_mul h2 h4 (by omega) (by decide)
  match k, hk with
  | 0, _ => simp [pw]
  | 1, _ => omega
  | 2, _ => omega
  | 3, _ => omega
end Go.Proofs.Ytiifdhdhjioefaa
