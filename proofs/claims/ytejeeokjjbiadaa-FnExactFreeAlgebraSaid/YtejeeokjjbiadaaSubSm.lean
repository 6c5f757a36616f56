/- Sizes of answers that are lists of rows. Proved for this program; conditions: told. -/
import Derived.Test.YtejeeokjjbiadaaOkRes
import Derived.Test.YtejeeokjjbiadaaLawX
import Derived.Test.YtejeeokjjbiadaaAlg
namespace Go.Proofs.Ytejeeokjjbiadaa
open Go Go.Proofs
set_option linter.unusedVariables false

theorem opsLen_of {os : List (Int × List Int)} (h : os.length + sm (List.map (fun y : Int × List Int => y.2.length) os) ≤ 1048576) : OpsLen os := fun f hf => by
  have h1 := sm_mem (fun y : Int × List Int => y.2.length) os f hf
  (try dsimp only at h1); omega
theorem okRows_small {ok : Bool} {xs : List (List Int)} (h : ok = true → xs.length ≤ 1048576 ∧ ∀ t ∈ xs, t.length ≤ 64) : ((okRows ok xs).length + sm ((okRows ok xs).map (fun y : List Int => y.length))) ≤ 134217728 := by
  cases ok with
  | true =>
    obtain ⟨h1, h2⟩ := h rfl
    have h6 : sm (xs.map (fun y : List Int => y.length)) ≤ xs.length * 64 := by
      clear h h1
      induction xs with
      | nil => simp [sm]
      | cons t xs ih =>
        have h3 := h2 t (by simp)
        have h4 := ih fun u hu => h2 u (by simp [hu])
        simp only [List.map_cons, sm, List.length_cons, Nat.succ_mul]; omega
    show xs.length + sm (xs.map fun y : List Int => y.length) ≤ 134217728
    omega
  | false => simp [okRows, sm]
end Go.Proofs.Ytejeeokjjbiadaa
