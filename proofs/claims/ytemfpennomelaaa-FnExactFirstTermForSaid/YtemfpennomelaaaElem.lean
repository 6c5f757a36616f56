/- Lists all of whose elements are in range: spec.l2Elements, l8Tuple, impl.inSize. Proved for this program; conditions: sizes below 2^62. -/
import Derived.Test.YtemfpennomelaaaRelA
namespace Go.Proofs.Ytemfpennomelaaa
open Go Go.Proofs
set_option linter.unusedVariables false

theorem all_no {α : Type} {p : α → Bool} (xs : List α) (j : Nat) (h : j < xs.length) (hp : p xs[j] = false) : xs.all p = false := by
  rw [List.all_eq_false]; exact ⟨xs[j], List.getElem_mem h, by simp [hp]⟩
theorem all_step {α : Type} {p : α → Bool} {xs : List α} {j : Nat} (ht : (xs.take j).all p = true) (h : j < xs.length) (hp : p xs[j] = true) : (xs.take (j + 1)).all p = true := by
  rw [List.take_add_one, List.getElem?_eq_getElem h, List.all_append, ht]; simp [hp]
theorem all_end {α : Type} {p : α → Bool} {xs : List α} {j : Nat} (ht : (xs.take j).all p = true) (h : xs.length ≤ j) : xs.all p = true := by
  rwa [List.take_of_length_le h] at ht

/-- all elements are at least 0 and below n -/
def elB (n : Int) (l : List Int) : Bool := l.all fun x => decide (0 ≤ x ∧ x < n)

set_option maxRecDepth 10000 in
theorem l2Elements_c (n : Int) (l : List Int) (hn : -1048576 ≤ n ∧ n ≤ 4611686018427387904) (hl : l.length ≤ 4611686018427387904) :
    Spec Try.prog 37 [vint n, vsl 1 (fun x : Int => [vint x]) l] [] (fun r S' => r = vbool (elB n l) ∧ S' = []) := by
  refine Spec.of_run2 (n := 20) Try.func37 rfl Try.results37 Try.ntmps37 rfl ?_
  repeat' (first | (with_reducible refine RL.done ?_) | (with_reducible refine RL.wanted ?_ ?_; exact rfl) | ((with_reducible show RH _ _ _ _ _ _ _ _); refine RH.val (hK := ?_)) | (with_reducible first | refine Run.seq ?_ | refine Run.region ?_ | refine Run.block ?_) | (with_reducible refine seqN (K := Run _ _ _ _) ?_))
  refine Run.loop (α := Nat) (fun j => [(0, vint n), (1, vsl 1 (fun x : Int => [vint x]) l), (5, vint (j : Int))]) (fun _ => []) (fun j => j ≤ l.length ∧ elB n (l.take j) = true) (fun j => l.length - j) 0 (by simp [elB]) (Ent.of slA .refl) ?_
  rintro j ⟨hj, ht⟩
  repeat' (first | (with_reducible first | refine RL.done ?_ | refine RL.app0 ?_) | (with_reducible refine RL.wanted ?_ ?_; exact rfl) | ((with_reducible show RH _ _ _ ⟨_, .call ⟨.value (.func 59), _, _⟩, _, _, _, _⟩ _ _ _ _); refine RH.cP Try.call59 ?_; refine ⟨_, l1In_c _ _ _, ?_⟩; rintro _ _ ⟨rfl, rfl⟩) | ((with_reducible show RH _ _ _ _ _ _ _ _); refine RH.val (hK := ?_)) | (with_reducible first | refine Run.seq ?_ | refine Run.region ?_ | refine Run.block ?_ | refine Run.skip ?_ | refine Run.exit ?_ | refine Run.ret ?_) | (with_reducible show Run _ _ (.cond _ _ _) _ _ _; first | refine Run.condD rfl (fun h => ?_) (fun h => ?_) | refine Run.condND rfl (fun h => ?_) (fun h => ?_)) | (with_reducible first | refine seqN (K := Run _ _ _ _) ?_ | refine seqE ?_ | refine seqR ?_ | refine blockN ?_ | refine blockR ?_ | refine blockE ?_))
  · refine ⟨eA, _, [], resA, .ch .nil, ?_⟩
    exact ⟨congrArg vbool (all_no l j (by omega) (decide_eq_false (by omega))).symm, rfl⟩
  · with_reducible refine seqN ?_
    exact ⟨j + 1, ⟨by omega, all_step ht (by omega) (decide_eq_true (by omega))⟩, by omega, Ent.of slA .refl⟩
  · refine ⟨eA, _, [], resA, .ch .nil, ?_⟩
    exact ⟨congrArg vbool (all_end ht (by omega)).symm, rfl⟩

set_option maxRecDepth 10000 in
theorem inSize_c (n : Int) (l : List Int) (hl : l.length ≤ 4611686018427387904) :
    Spec Try.prog 51 [vsl 1 (fun x : Int => [vint x]) l, vint n] [] (fun r S' => r = vbool (elB n l) ∧ S' = []) := by
  refine Spec.of_run2 (n := 21) Try.func51 rfl Try.results51 Try.ntmps51 rfl ?_
  repeat' (first | (with_reducible refine RL.done ?_) | (with_reducible refine RL.wanted ?_ ?_; exact rfl) | ((with_reducible show RH _ _ _ _ _ _ _ _); refine RH.val (hK := ?_)) | (with_reducible first | refine Run.seq ?_ | refine Run.region ?_ | refine Run.block ?_) | (with_reducible refine seqN (K := Run _ _ _ _) ?_))
  refine Run.loop (α := Nat) (fun j => [(1, vint n), (7, vsl 1 (fun x : Int => [vint x]) l), (8, vint (l.length : Int)), (9, vint (j : Int))]) (fun _ => []) (fun j => j ≤ l.length ∧ elB n (l.take j) = true) (fun j => l.length - j) 0 (by simp [elB]) (Ent.of slA .refl) ?_
  rintro j ⟨hj, ht⟩
  repeat' (first | (with_reducible refine RL.done ?_) | (with_reducible refine RL.wanted ?_ ?_; exact rfl) | ((with_reducible show RH _ _ _ _ _ _ _ _); refine RH.val (hK := ?_)) | (with_reducible show RL _ _ _ (_ :: _) _ _ _; first | refine RL.guardYes rfl rfl rfl rfl ?_ | refine RL.guardNoS rfl rfl rfl rfl rfl rfl ?_ | refine RL.splitD rfl rfl rfl (fun h => ?_) (fun h => ?_)) | (with_reducible first | refine Run.seq ?_ | refine Run.region ?_ | refine Run.block ?_ | refine Run.skip ?_ | refine Run.exit ?_ | refine Run.ret ?_) | (with_reducible show Run _ _ (.cond _ _ _) _ _ _; first | refine Run.condT rfl ?_ | refine Run.condD rfl (fun h => ?_) (fun h => ?_)) | (with_reducible first | refine seqN (K := Run _ _ _ _) ?_ | refine seqE ?_ | refine seqR ?_ | refine blockN ?_ | refine blockR ?_ | refine blockE ?_))
  · refine ⟨eA, _, [], resA, .ch .nil, ?_⟩
    exact ⟨congrArg vbool (all_no l j (by omega) (decide_eq_false (by omega))).symm, rfl⟩
  · refine ⟨eA, _, [], resA, .ch .nil, ?_⟩
    exact ⟨congrArg vbool (all_no l j (by omega) (decide_eq_false (by omega))).symm, rfl⟩
  · with_reducible refine seqN ?_
    exact ⟨j + 1, ⟨by omega, all_step ht (by omega) (decide_eq_true (by omega))⟩, by omega, Ent.of slA .refl⟩
  · refine ⟨eA, _, [], resA, .ch .nil, ?_⟩
    exact ⟨congrArg vbool (all_end ht (by omega)).symm, rfl⟩
set_option maxRecDepth 10000 in
theorem l8Tuple_c (n k : Int) (l : List Int) (hn : -1048576 ≤ n ∧ n ≤ 4611686018427387904) (hl : l.length ≤ 4611686018427387904) :
    Spec Try.prog 21 [vint n, vint k, vsl 1 (fun x : Int => [vint x]) l] [] (fun r S' => r = vbool (decide ((l.length : Int) = k) && elB n l) ∧ S' = []) := by
  refine Spec.of_run2 (n := 16) Try.func21 rfl Try.results21 Try.ntmps21 rfl ?_
  repeat' (first | (with_reducible first | refine RL.done ?_ | refine RL.app0 ?_) | (with_reducible refine RL.wanted ?_ ?_; exact rfl) | ((with_reducible show RH _ _ _ ⟨_, .call ⟨.value (.func 37), _, _⟩, _, _, _, _⟩ _ _ _ _); refine RH.cP Try.call37 ?_; refine ⟨_, l2Elements_c _ _ hn hl, ?_⟩; rintro _ _ ⟨rfl, rfl⟩) | ((with_reducible show RH _ _ _ _ _ _ _ _); refine RH.val (hK := ?_)) | (with_reducible show RL _ _ _ (_ :: _) _ _ _; first | refine RL.guardYes rfl rfl rfl rfl ?_ | refine RL.guardNoS rfl rfl rfl rfl rfl rfl ?_ | refine RL.splitD rfl rfl rfl (fun h => ?_) (fun h => ?_)) | (with_reducible first | refine Run.seq ?_ | refine Run.region ?_ | refine Run.ret ?_) | (with_reducible refine seqN (K := Run _ _ _ _) ?_))
  all_goals (refine ⟨eA, _, [], resA, .ch .nil, ?_⟩; exact ⟨congrArg vbool (by simp_all), rfl⟩)
end Go.Proofs.Ytemfpennomelaaa
