/- The last row of a derivation obeys a condition: spec.ObeyedBy, impl.ObeyedBy: the same answer. Proved for this program; conditions: lengths below 2^62. -/
import Derived.Test.YtiifdhdhjioefaaMalD
namespace Go.Proofs.Ytiifdhdhjioefaa
open Go Go.Proofs
set_option linter.unusedVariables false
/-- what is known where there is an answer -/
structure MalOk (N k0 size : Nat) (os : List (Int × List Int)) (rs : List (List Int × List Int)) : Prop where
  alg : algB (N : Int) os = true
  n1 : 1 ≤ N
  n4 : N ≤ 4
  cond : condB (k0 : Int) rs = true
  pw : pw (N : Int) k0 = size
  few : size ≤ 64
  k2 : 2 ≤ k0
  k3 : k0 ≤ 3
theorem mal_ok {n : Int} {os : List (Int × List Int)} {a : Int} {rs : List (List Int × List Int)} (h : mayB n os a rs = true) : ∃ N k0 size : Nat, n = N ∧ a = k0 ∧ MalOk N k0 size os rs ∧ fstN n a rs = fstR N k0 size (pats rs) k0 := by
  obtain ⟨h1, h2, h3, h4, h5⟩ := mayB_at h
  have hp := pw_64 n h2.1 h2.2 a.toNat (by omega)
  have hp0 := pw_nonneg n (by omega) a.toNat
  refine ⟨n.toNat, a.toNat, (pw n a.toNat).toNat, by omega, by omega, ⟨?_, by omega, by omega, ?_, ?_, by omega, by omega, by omega⟩, rfl⟩
  · rw [Int.toNat_of_nonneg (by omega)]; exact h1
  · rw [Int.toNat_of_nonneg (by omega)]; exact h3
  · rw [Int.toNat_of_nonneg (show 0 ≤ n by omega), Int.toNat_of_nonneg hp0]
end Go.Proofs.Ytiifdhdhjioefaa
