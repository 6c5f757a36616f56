/- Whether a list of tuples is a subpower: spec.l8Most, l8Tuples, l8Is, impl.areTuples, isLength, isSubpower: the same answer. Proved for this program; conditions: a valid algebra, tuples of length 1 to 64. -/
import Derived.Test.YtejeeokjjbiadaaSubP
import Derived.Test.YtejeeokjjbiadaaSpan
import Derived.Test.YtejeeokjjbiadaaBreak
namespace Go.Proofs.Ytejeeokjjbiadaa
open Go Go.Proofs
set_option linter.unusedVariables false
theorem l1Most_c (a b : Int) : Spec Try.prog 210 [vint a, vint b] [] (fun r S' => r = vint (max a b) ∧ S' = []) := by
  refine Spec.of_run2 (n := 10) Try.func210 rfl Try.results210 Try.ntmps210 rfl ?_
  repeat' (first | (with_reducible refine RL.done ?_) | (with_reducible refine RL.wanted ?_ ?_; exact rfl) | ((with_reducible show RH _ _ _ _ _ _ _ _); refine RH.val (hK := ?_)) | (with_reducible first | refine Run.seq ?_ | refine Run.region ?_ | refine Run.skip ?_ | refine Run.ret ?_) | (with_reducible show Run _ _ (.cond _ _ _) _ _ _; refine Run.condD rfl (fun h => ?_) (fun h => ?_)) | (with_reducible first | refine seqN (K := Run _ _ _ _) ?_ | refine seqR ?_))
  all_goals
    refine ⟨eA, _, [], resA, .ch .nil, ?_⟩
    refine ⟨congrArg vint ?_, rfl⟩
    omega
set_option maxRecDepth 10000 in
set_option maxHeartbeats 1000000 in
theorem l8Most_c (n : Int) (os : List (Int × List Int)) (hl : os.length ≤ 1048576) :
    Spec Try.prog 189 [vagg [vint n, vsl 2 (fun y : Int × (List Int) => [vint y.1, vsl 1 (fun x : Int => [vint x]) y.2]) os]] [] (fun r S' => r = vint (mostV os : Int) ∧ S' = []) := by
  refine Spec.of_run2 (n := 25) Try.func189 rfl Try.results189 Try.ntmps189 rfl ?_
  repeat' (first | (with_reducible refine RL.done ?_) | (with_reducible refine RL.wanted ?_ ?_; exact rfl) | ((with_reducible show RH _ _ _ ⟨some 1, .box _ _, _, _, _, _⟩ _ _ _ _); (refine RH.boxAgg rfl rfl ?_; rintro _ _ ⟨b1, rfl, rfl⟩)) | ((with_reducible show RH _ _ _ _ _ _ _ _); refine RH.val (hK := ?_)) | (with_reducible first | refine Run.seq ?_ | refine Run.region ?_ | refine Run.block ?_) | (with_reducible refine seqN (K := Run _ _ _ _) ?_))
  refine Run.loop (α := Nat) (fun j => [(1, vptr b1 0), (3, vint (maxA (os.take j) 0)), (4, vint (j : Int))]) (fun j => [hcells b1 [vint n, vsl 2 (fun y : Int × (List Int) => [vint y.1, vsl 1 (fun x : Int => [vint x]) y.2]) os]]) (fun j => j ≤ os.length) (fun j => os.length - j) 0 (Nat.zero_le _) (Ent.of (by (repeat (first | exact Sl.nil | refine Sl.cons rfl rfl ?_ | refine Sl.cons rfl (congrArg (fun z => vlit (Value.int .i64 z)) (by omega)) ?_ | refine Sl.cons rfl (by simp [maxA]) ?_))) chA) ?_
  intro j hj
  rcases Nat.lt_or_eq_of_le hj with h9 | h9
  · have hs := maxA_take (m := 0) h9
    repeat' (first | (with_reducible first | refine RL.done ?_ | refine RL.app0 ?_) | (with_reducible refine RL.wanted ?_ ?_; exact rfl) | ((with_reducible show RH _ _ _ ⟨_, .call ⟨.value (.func 210), _, _⟩, _, _, _, _⟩ _ _ _ _); refine RH.cP Try.call210 ?_; refine ⟨_, l1Most_c _ _, ?_⟩; rintro _ _ ⟨rfl, rfl⟩) | ((with_reducible show RH _ _ _ _ _ _ _ _); refine RH.val (hK := ?_)) | (with_reducible first | refine Run.seq ?_ | refine Run.region ?_ | refine Run.block ?_ | refine Run.skip ?_ | refine Run.exit ?_ | refine Run.ret ?_) | (with_reducible show Run _ _ (.cond _ _ _) _ _ _; refine Run.condD rfl (fun h => ?_) (fun h => ?_)) | (with_reducible first | refine seqN (K := Run _ _ _ _) ?_ | refine seqE ?_ | refine seqR ?_ | refine blockN ?_ | refine blockR ?_ | refine blockE ?_))
    all_goals first
      | (exfalso; omega)
      | (with_reducible refine seqN ?_
         exact ⟨j + 1, by omega, by omega, Ent.of (by rw [hs]; exact slA) chA⟩)
  · subst h9
    rw [List.take_length]
    repeat' (first | (with_reducible refine RL.done ?_) | (with_reducible refine RL.wanted ?_ ?_; exact rfl) | ((with_reducible show RH _ _ _ _ _ _ _ _); refine RH.val (hK := ?_)) | (with_reducible first | refine Run.seq ?_ | refine Run.region ?_ | refine Run.block ?_ | refine Run.skip ?_ | refine Run.exit ?_ | refine Run.ret ?_) | (with_reducible show Run _ _ (.cond _ _ _) _ _ _; refine Run.condD rfl (fun h => ?_) (fun h => ?_)) | (with_reducible first | refine seqN (K := Run _ _ _ _) ?_ | refine seqE ?_ | refine seqR ?_ | refine blockN ?_ | refine blockR ?_ | refine blockE ?_))
    all_goals first
      | (exfalso; omega)
      | (refine ⟨eA, _, [], resA, .ch .nil, ?_⟩
         refine ⟨?_, rfl⟩
         rw [mostV]
         first
           | (rw [if_pos (by assumption)]; rfl)
           | (rw [if_neg (by assumption), if_pos (by assumption)]; rfl)
           | (rw [if_neg (by assumption), if_neg (by assumption)]; rfl))
end Go.Proofs.Ytejeeokjjbiadaa
