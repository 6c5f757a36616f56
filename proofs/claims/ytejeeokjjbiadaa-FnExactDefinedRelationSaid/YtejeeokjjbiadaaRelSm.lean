/- Sizes of relations that are answers. Proved for this program; conditions: told. -/
import Derived.Test.YtejeeokjjbiadaaRelOf
import Derived.Test.YtejeeokjjbiadaaLawX
namespace Go.Proofs.Ytejeeokjjbiadaa
open Go Go.Proofs
set_option linter.unusedVariables false

theorem relRows_small {ok : Bool} {xs : List (List Int)} (h : ok = true → xs.length ≤ 1048576 ∧ ∀ t ∈ xs, t.length ≤ 4) : ((relRows ok xs).length + sm ((relRows ok xs).map (fun y : List Int => y.length))) ≤ 8388608 := by
  cases ok with
  | true =>
    obtain ⟨h1, h2⟩ := h rfl
    have h6 := sm_le_mul (fun y : List Int => y.length) xs 4 h2
    show xs.length + sm (xs.map fun y : List Int => y.length) ≤ 8388608
    omega
  | false => simp [relRows, sm]
theorem putF_small {ts : List (List Int)} {k : Nat} (h1 : ts.length ≤ 1048576) (hk : k ≤ 4) (h : ∀ u ∈ ts, u.length = k) : (putF ts).length ≤ 1048576 ∧ ∀ t ∈ putF ts, t.length ≤ 4 :=
  ⟨Nat.le_trans (putF_le ts) h1, fun t ht => by have := putF_len h t ht; omega⟩
end Go.Proofs.Ytejeeokjjbiadaa
