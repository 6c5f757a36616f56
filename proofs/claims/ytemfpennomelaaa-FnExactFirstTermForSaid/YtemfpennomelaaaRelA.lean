/- Sizes and powers: spec.l1In, l6Size, l2Pow, impl.isSize, power. Proved for this program; conditions: powers of numbers up to 2^20 with exponents up to 3. -/
import Derived.Test.YtemfpennomelaaaTypes
namespace Go.Proofs.Ytemfpennomelaaa
open Go Go.Proofs

def pw (n : Int) : Nat → Int
  | 0 => 1
  | k + 1 => pw n k * n

theorem pw_nonneg (n : Int) (h0 : 0 ≤ n) : ∀ k, 0 ≤ pw n k
  | 0 => by simp [pw]
  | k + 1 => by simp only [pw]; exact Int.mul_nonneg (pw_nonneg n h0 k) h0

theorem pw_bound (n : Int) (h0 : 0 ≤ n) (h8 : n ≤ 1048576) (k : Nat) (hk : k ≤ 3) : 0 ≤ pw n k ∧ pw n k ≤ 1152921504606846976 := by
  refine ⟨pw_nonneg n h0 k, ?_⟩
  have h1 : pw n 1 ≤ 1048576 := by simp [pw]; omega
  have g1 : 0 ≤ pw n 1 := pw_nonneg n h0 1
  have h2 : pw n 2 ≤ 1048576 * 1048576 := Int.mul_le_mul h1 h8 h0 (by decide)
  have h3 : pw n 3 ≤ 1048576 * 1048576 * 1048576 := Int.mul_le_mul h2 h8 h0 (by decide)
  match k, hk with
  | 0, _ => simp [pw]
  | 1, _ => omega
  | 2, _ => omega
  | 3, _ => omega

set_option maxRecDepth 10000 in
theorem l1In_c (x a b : Int) : Spec Try.prog 59 [vint x, vint a, vint b] [] (fun r S' => r = vbool (decide (a ≤ x ∧ x ≤ b)) ∧ S' = []) := by
  refine Spec.of_run2 (n := 15) Try.func59 rfl Try.results59 Try.ntmps59 rfl ?_
  repeat' (first | (with_reducible refine RL.done ?_) | (with_reducible refine RL.wanted ?_ ?_; exact rfl) | ((with_reducible show RH _ _ _ _ _ _ _ _); refine RH.val (hK := ?_)) | (with_reducible show RL _ _ _ (_ :: _) _ _ _; first | refine RL.guardYes rfl rfl rfl rfl ?_ | refine RL.guardNoS rfl rfl rfl rfl rfl rfl ?_ | refine RL.splitD rfl rfl rfl (fun h => ?_) (fun h => ?_)) | (with_reducible first | refine Run.seq ?_ | refine Run.region ?_ | refine Run.ret ?_) | (with_reducible refine seqN (K := Run _ _ _ _) ?_))
  all_goals (refine ⟨eA, _, [], resA, .ch .nil, ?_⟩; exact ⟨congrArg vbool (by simp [*]), rfl⟩)

set_option maxRecDepth 10000 in
theorem power_c (n : Int) (k : Nat) (h0 : 0 ≤ n) (h8 : n ≤ 1048576) (hk : k ≤ 3) : Spec Try.prog 64 [vint n, vint (k : Int)] [] (fun r S' => r = vint (pw n k) ∧ S' = []) := by
  refine Spec.of_run2 (n := 14) Try.func64 rfl Try.results64 Try.ntmps64 rfl ?_
  repeat' (first | (with_reducible refine RL.done ?_) | (with_reducible refine RL.wanted ?_ ?_; exact rfl) | ((with_reducible show RH _ _ _ _ _ _ _ _); refine RH.val (hK := ?_)) | (with_reducible first | refine Run.seq ?_ | refine Run.region ?_ | refine Run.block ?_) | (with_reducible refine seqN (K := Run _ _ _ _) ?_))
  refine Run.loop (α := Nat) (fun j => [(0, vint n), (1, vint ((k : Int) - j)), (5, vint (pw n j))]) (fun _ => []) (fun j => j ≤ k) (fun j => k - j) 0 (by omega) (Ent.of slA .refl) ?_
  intro j hj
  have hb := pw_bound n h0 h8 j (by omega)
  have hm : j < k → InR (pw n j * n) := fun h => by
    have := pw_bound n h0 h8 (j + 1) (by omega); unfold InR; simp only [pw] at this; omega
  repeat' (first | (with_reducible refine RL.done ?_) | (with_reducible refine RL.wanted ?_ ?_; exact rfl) | ((with_reducible show RH _ _ _ _ _ _ _ _); refine RH.val (hK := ?_)) | (with_reducible first | refine Run.seq ?_ | refine Run.region ?_ | refine Run.block ?_ | refine Run.skip ?_ | refine Run.exit ?_ | refine Run.ret ?_) | (with_reducible show Run _ _ (.cond _ _ _) _ _ _; refine Run.condD rfl (fun h => ?_) (fun h => ?_)) | (with_reducible first | refine seqN (K := Run _ _ _ _) ?_ | refine seqE ?_ | refine blockN ?_ | refine blockE ?_))
  · with_reducible refine seqN ?_
    exact ⟨j + 1, by omega, by omega, Ent.of slA .refl⟩
  · obtain rfl : j = k := by omega
    refine ⟨eA, _, [], resA, .ch .nil, ?_⟩; exact ⟨rfl, rfl⟩

set_option maxRecDepth 10000 in
theorem l2Pow_c (n : Int) (k : Nat) (h0 : 0 ≤ n) (h8 : n ≤ 1048576) (hk : k ≤ 3) : Spec Try.prog 67 [vint n, vint (k : Int)] [] (fun r S' => r = vint (pw n k) ∧ S' = []) := by
  refine Spec.of_run2 (n := 14) Try.func67 rfl Try.results67 Try.ntmps67 rfl ?_
  repeat' (first | (with_reducible refine RL.done ?_) | (with_reducible refine RL.wanted ?_ ?_; exact rfl) | ((with_reducible show RH _ _ _ _ _ _ _ _); refine RH.val (hK := ?_)) | (with_reducible first | refine Run.seq ?_ | refine Run.region ?_ | refine Run.block ?_) | (with_reducible refine seqN (K := Run _ _ _ _) ?_))
  refine Run.loop (α := Nat) (fun j => [(0, vint n), (1, vint ((k : Int) - j)), (5, vint (pw n j))]) (fun _ => []) (fun j => j ≤ k) (fun j => k - j) 0 (by omega) (Ent.of slA .refl) ?_
  intro j hj
  have hb := pw_bound n h0 h8 j (by omega)
  have hm : j < k → InR (pw n j * n) := fun h => by
    have := pw_bound n h0 h8 (j + 1) (by omega); unfold InR; simp only [pw] at this; omega
  repeat' (first | (with_reducible refine RL.done ?_) | (with_reducible refine RL.wanted ?_ ?_; exact rfl) | ((with_reducible show RH _ _ _ _ _ _ _ _); refine RH.val (hK := ?_)) | (with_reducible first | refine Run.seq ?_ | refine Run.region ?_ | refine Run.block ?_ | refine Run.skip ?_ | refine Run.exit ?_ | refine Run.ret ?_) | (with_reducible show Run _ _ (.cond _ _ _) _ _ _; refine Run.condD rfl (fun h => ?_) (fun h => ?_)) | (with_reducible first | refine seqN (K := Run _ _ _ _) ?_ | refine seqE ?_ | refine blockN ?_ | refine blockE ?_))
  · with_reducible refine seqN ?_
    exact ⟨j + 1, by omega, by omega, Ent.of slA .refl⟩
  · obtain rfl : j = k := by omega
    refine ⟨eA, _, [], resA, .ch .nil, ?_⟩; exact ⟨rfl, rfl⟩
end Go.Proofs.Ytemfpennomelaaa
