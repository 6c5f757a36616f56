/- The index of arguments in a table, a list composed with another: impl.indexOf, compose. Proved for this program; conditions: up to 3 arguments below a base of up to 8; indices in range. -/
import Derived.Test.YtodlpdedldhebaaPatL
import Derived.Test.YtodlpdedldhebaaOps
namespace Go.Proofs.Ytodlpdedldhebaa
open Go Go.Proofs
set_option linter.unusedVariables false

theorem pw_512' (n : Int) (h0 : 1 ≤ n) (h8 : n ≤ 8) (k : Nat) (hk : k ≤ 3) : pw n k ≤ 512 := by
  have h1 : pw n 1 = n := by simp [pw]
  have h2 : pw n 2 ≤ 8 * 8 := Int.mul_le_mul (by omega : pw n 1 ≤ 8) h8 (by omega) (by decide)
  have h3 : pw n 3 ≤ 64 * 8 := Int.mul_le_mul h2 h8 (by omega) (by decide)
  match k, hk with
  | 0, _ => simp [pw]
  | 1, _ => omega
  | 2, _ => omega
  | 3, _ => omega

end Go.Proofs.Ytodlpdedldhebaa
