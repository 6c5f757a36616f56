/- Whether a list of tuples is a subpower: spec.l8Most, l8Tuples, l8Is, impl.areTuples, isLength, isSubpower: the same answer. Proved for this program; conditions: a valid algebra, tuples of length 1 to 64. -/
import Derived.Test.YtiifdhdhjioefaaSubP
import Derived.Test.YtiifdhdhjioefaaSpan
import Derived.Test.YtiifdhdhjioefaaBreak
namespace Go.Proofs.Ytiifdhdhjioefaa
open Go Go.Proofs
set_option linter.unusedVariables false
theorem l1Most_c (a b : Int) : Spec Try.prog 82 [vint a, vint b] [] (fun r S' => r = vint (max a b) ∧ S' = []) := by
  refine Spec.of_run2 (n := 10) Try.func82 rfl Try.results82 Try.ntmps82 rfl ?_
  repeat' (first | (with_reducible refine RL.done ?_) | (with_reducible refine RL.wanted ?_ ?_; exact rfl) | ((with_reducible show RH _ _ _ _ _ _ _ _); refine RH.val (hK := ?_)) | (with_reducible first | refine Run.seq ?_ | refine Run.region ?_ | refine Run.skip ?_ | refine Run.ret ?_) | (with_reducible show Run _ _ (.cond _ _ _) _ _ _; refine Run.condD rfl (fun h => ?_) (fun h => ?_)) | (with_reducible first | refine seqN (K := Run _ _ _ _) ?_ | refine seqR ?_))
  all_goals
    refine ⟨eA, _, [], resA, .ch .nil, ?_⟩
    refine ⟨congrArg vint ?_, rfl⟩
    omega
set_option maxRecDepth 10000 in
set_option maxHeartbeats 1000000 in
theorem l8Most_c (n : Int) (os : List (Int × List Int)) (hl : os.length ≤ 1048576) :
    Spec Try.prog 142 [vagg [vint n, vsl 2 (fun y : Int × (List Int) => [vint y.1, vsl 1 (fun x : Int => [vint x]) y.2]) os]] [] (fun r S' => r = vint (mostV os : Int) ∧ S' = []) := by
  refine Spec.of_run2 (n := 25) Try.func142 rfl Try.results142 Try.ntmps142 rfl ?_
  repeat' (first | (with_reducible refine RL.done ?_) | (with_reducible refine RL.wanted ?_ ?_; exact rfl) | ((with_reducible show RH _ _ _ ⟨some 1, .box _ _, _, _, _, _⟩ _ _ _ _); (refine RH.boxAgg rfl rfl ?_; rintro _ _ ⟨b1, rfl, rfl⟩)) | ((with_reducible show RH _ _ _ _ _ _ _ _); refine RH.val (hK := ?_)) | (with_reducible first | refine Run.seq ?_ | refine Run.region ?_ | refine Run.block ?_) | (with_reducible refine seqN (K := Run _ _ _ _) ?_))
  refine Run.loop (α := Nat) (fun j => [(1, vptr b1 0), (3, vint (maxA (os.take j) 0)), (4, vint (j : Int))]) (fun j => [hcells b1 [vint n, vsl 2 (fun y : Int × (List Int) => [vint y.1, vsl 1 (fun x : Int => [vint x]) y.2]) os]]) (fun j => j ≤ os.length) (fun j => os.length - j) 0 (Nat.zero_le _) (Ent.of (by (repeat (first | exact Sl.nil | refine Sl.cons rfl rfl ?_ | refine Sl.cons rfl (congrArg (fun z => vlit (Value.int .i64 z)) (by omega)) ?_ | refine Sl.cons rfl (by simp [maxA]) ?_))) chA) ?_
  intro j hj
  rcases Nat.lt_or_eq_of_le hj with h9 | h9
  · have hs := maxA_take (m := 0) h9
    repeat' (first | (with_reducible first | refine RL.done ?_ | refine RL.app0 ?_) | (with_reducible refine RL.wanted ?_ ?_; exact rfl) | ((with_reducible show RH _ _ _ ⟨_, .call ⟨.value (.func 82), _, _⟩, _, _, _, _⟩ _ _ _ _); refine RH.cP Try.call82 ?_; refine ⟨_, l1Most_c _ _, ?_⟩; rintro _ _ ⟨rfl, rfl⟩) | ((with_reducible show RH _ _ _ _ _ _ _ _); refine RH.val (hK := ?_)) | (with_reducible first | refine Run.seq ?_ | refine Run.region ?_ | refine Run.block ?_ | refine Run.skip ?_ | refine Run.exit ?_ | refine Run.ret ?_) | (with_reducible show Run _ _ (.cond _ _ _) _ _ _; refine Run.condD rfl (fun h => ?_) (fun h => ?_)) | (with_reducible first | refine seqN (K := Run _ _ _ _) ?_ | refine seqE ?_ | refine seqR ?_ | refine blockN ?_ | refine blockR ?_ | refine blockE ?_))
    all_goals first
      | (exfalso; omega)
      | (with_reducible refine seqN ?_
         exact ⟨j + 1, by omega, by omega, Ent.of (by rw [hs]; exact slA) chA⟩)
  · subst h9
    rw [List.take_length]
    repeat' (first | (with_reducible refine RL.done ?_) | (with_reducible refine RL.wanted ?_ ?_; exact rfl) | ((with_reducible show RH _ _ _ _ _ _ _ _); refine RH.val (hK := ?_)) | (with_reducible first | refine Run.seq ?_ | refine Run.region ?_ | refine Run.block ?_ | refine Run.skip ?_ | refine Run.exit ?_ | refine Run.ret ?_) | (with_reducible show Run _ _ (.cond _ _ _) _ _ _; refine Run.condD rfl (fun h => ?_) (fun h => ?_)) | (with_reducible first | refine seqN (K := Run _ _ _ _) ?_ | refine seqE ?_ | refine seqR ?_ | refine blockN ?_ | refine blockR ?_ | refine blockE ?_))
    all_goals first
      | (exfalso; omega)
      | (refine ⟨eA, _, [], resA, .ch .nil, ?_⟩
         refine ⟨?_, rfl⟩
         rw [mostV]
         first
           | (rw [if_pos (by assumption)]; rfl)
           | (rw [if_neg (by assumption), if_pos (by assumption)]; rfl)
           | (rw [if_neg (by assumption), if_neg (by assumption)]; rfl))
end Go.Proofs.Ytiifdhdhjioefaa
/- Whether a list of tuples is a subpower: spec.l8Is. Proved for this program; conditions: a valid algebra, tuples of length 1 to 64. -/
namespace Go.Proofs.Ytiifdhdhjioefaa
open Go Go.Proofs
set_option linter.unusedVariables false
theorem next_at (c k : Nat) {i : Nat} (hi : (i : Int) < pw (c : Int) k) :
    (nextL (c : Int) (lowd (i : Int) (c : Int) k)).2 = decide ((i : Int) + 1 < pw (c : Int) k) ∧ ((i : Int) + 1 < pw (c : Int) k → (nextL (c : Int) (lowd (i : Int) (c : Int) k)).1 = lowd ((i + 1 : Nat) : Int) (c : Int) k) := by
  rcases Nat.eq_zero_or_pos c with rfl | e
  · cases k with
    | zero =>
      have : i = 0 := by simp [pw] at hi; omega
      subst this
      exact ⟨rfl, fun h => by simp [pw] at h⟩
    | succ k => simp [pw] at hi; omega
  · exact nextL_lowd (c : Int) (by omega) k (i : Int) (by omega) hi
theorem more_iff (c k : Nat) : k = 0 ∨ 0 < c ↔ (0 : Int) < pw (c : Int) k := by
  rcases Nat.eq_zero_or_pos k with rfl | e
  · simp [pw]
  · rcases Nat.eq_zero_or_pos c with e2 | e2
    · obtain ⟨k, rfl⟩ := Nat.exists_eq_succ_of_ne_zero (by omega : k ≠ 0)
      simp [e2, pw]
    · have : ∀ k, 0 < pw (c : Int) k := fun k => by
        induction k with
        | zero => show (0 : Int) < 1; decide
        | succ k ih => exact Int.mul_pos ih (by omega)
      simp [this k]; omega
theorem low_at {c k i : Nat} (hi : (i : Int) < pw (c : Int) k) : ∀ x ∈ lowd (i : Int) (c : Int) k, 0 ≤ x ∧ x.toNat < c := by
  rcases Nat.eq_zero_or_pos c with rfl | e
  · cases k with
    | zero => intro x hx; cases hx
    | succ k => simp [pw] at hi; omega
  · intro x hx
    have := lowd_range' (i : Int) (c : Int) (by omega) (by omega) _ x hx
    omega
end Go.Proofs.Ytiifdhdhjioefaa
