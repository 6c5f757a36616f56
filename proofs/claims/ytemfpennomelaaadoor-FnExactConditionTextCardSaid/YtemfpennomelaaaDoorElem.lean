/- Lists all of whose elements are in range: spec.l2Elements, l8Tuple, impl.inSize. Proved for this program; conditions: sizes below 2^62. -/
import Derived.Test.YtemfpennomelaaaDoorRelA
namespace Go.Proofs.YtemfpennomelaaaDoor
open Go Go.Proofs
set_option linter.unusedVariables false

theorem all_no {α : Type} {p : α → Bool} (xs : List α) (j : Nat) (h : j < xs.length) (hp : p xs[j] = false) : xs.all p = false := by
  rw [List.all_eq_false]; exact ⟨xs[j], List.getElem_mem h, by simp [hp]⟩
theorem all_step {α : Type} {p : α → Bool} {xs : List α} {j : Nat} (ht : (xs.take j).all p = true) (h : j < xs.length) (hp : p xs[j] = true) : (xs.take (j + 1)).all p = true := by
  rw [List.take_add_one, List.getElem?_eq_getElem h, List.all_append, ht]; simp [hp]
theorem all_end {α : Type} {p : α → Bool} {xs : List α} {j : Nat} (ht : (xs.take j).all p = true) (h : xs.length ≤ j) : xs.all p = true := by
  rwa [List.take_of_length_le h] at ht

/-- all elements are at least 0 and below n -/
def elB (n : Int) (l : List Int) : Bool := l.all fun x => decide (0 ≤ x ∧ x < n)

set_option maxRecDepth 10000 in
theorem l2Elements_c (n : Int) (l : List Int) (hn : -1048576 ≤ n ∧ n ≤ 4611686018427387904) (hl : l.length ≤ 4611686018427387904) :
    Spec Tryd.prog 51 [vint n, vsl 1 (fun x : Int => [vint x]) l] [] (fun r S' => r = vbool (elB n l) ∧ S' = []) := by
  refine Spec.of_run2 (n := 20) Tryd.func51 rfl Tryd.results51 Tryd.ntmps51 rfl ?_
  repeat' (first | (with_reducible first | refine RL.done ?_ | refine RL.app0 ?_ | refine RL.app1 ?_ | refine RL.app2 ?_ | refine RL.app3 ?_ | refine RL.app4 ?_) | (with_reducible refine RL.wanted ?_ ?_; exact rfl) | ((with_reducible show RH _ _ _ _ _ _ _ _); first | refine RH.val (hK := ?_) | refine RH.upd (hK := ?_) | (refine RH.lr (h := ?_); intro u)) | (with_reducible first | refine Run.seq ?_ | refine Run.region ?_ | refine Run.block ?_ | refine Run.skip ?_ | refine Run.exit ?_ | refine Run.ret ?_) | (with_reducible show Run _ _ (.cond _ _ _) _ _ _; first | refine Run.condT rfl ?_ | refine Run.condF rfl ?_ | refine Run.condD rfl (fun h => ?_) (fun h => ?_) | refine Run.condND rfl (fun h => ?_) (fun h => ?_) | refine Run.condNB rfl (fun h => ?_) (fun h => ?_) | refine Run.cond rfl (fun h => ?_) (fun h => ?_)) | (with_reducible first | refine seqN (K := Run _ _ _ _) ?_ | refine seqE ?_ | refine seqR ?_ | refine blockN ?_ | refine blockR ?_ | refine blockE ?_) | (with_reducible refine blockX ?_ ?_; exact rfl))
  refine Run.loop (α := Nat) (fun j => [(0, vint n), (1, vsl 1 (fun x : Int => [vint x]) l), (5, vint (j : Int))]) (fun _ => []) (fun j => j ≤ l.length ∧ elB n (l.take j) = true) (fun j => l.length - j) 0 (by simp [elB]) (Ent.of slA .refl) ?_
  rintro j ⟨hj, ht⟩
  repeat' (first | (with_reducible first | refine RL.done ?_ | refine RL.app0 ?_ | refine RL.app1 ?_ | refine RL.app2 ?_ | refine RL.app3 ?_ | refine RL.app4 ?_) | (with_reducible refine RL.wanted ?_ ?_; exact rfl) | ((with_reducible show RH _ _ _ ⟨_, .call ⟨.value (.func 37), _, _⟩, _, _, _, _⟩ _ _ _ _); refine RH.cP Tryd.call37 ?_; refine ⟨_, l1In_c _ _ _, ?_⟩; rintro _ _ ⟨rfl, rfl⟩) | ((with_reducible show RH _ _ _ _ _ _ _ _); first | refine RH.val (hK := ?_) | refine RH.upd (hK := ?_) | (refine RH.lr (h := ?_); intro u)) | (with_reducible first | refine Run.seq ?_ | refine Run.region ?_ | refine Run.block ?_ | refine Run.skip ?_ | refine Run.exit ?_ | refine Run.ret ?_) | (with_reducible show Run _ _ (.cond _ _ _) _ _ _; first | refine Run.condT rfl ?_ | refine Run.condF rfl ?_ | refine Run.condD rfl (fun h => ?_) (fun h => ?_) | refine Run.condND rfl (fun h => ?_) (fun h => ?_) | refine Run.condNB rfl (fun h => ?_) (fun h => ?_) | refine Run.cond rfl (fun h => ?_) (fun h => ?_)) | (with_reducible first | refine seqN (K := Run _ _ _ _) ?_ | refine seqE ?_ | refine seqR ?_ | refine blockN ?_ | refine blockR ?_ | refine blockE ?_) | (with_reducible refine blockX ?_ ?_; exact rfl))
  · refine ⟨eA, _, [], resA, .ch .nil, ?_⟩
    exact ⟨congrArg vbool (all_no l j (by omega) (decide_eq_false (by omega))).symm, rfl⟩
  · with_reducible refine seqN ?_
    exact ⟨j + 1, ⟨by omega, all_step ht (by omega) (decide_eq_true (by omega))⟩, by omega, Ent.of slA .refl⟩
  · refine ⟨eA, _, [], resA, .ch .nil, ?_⟩
    exact ⟨congrArg vbool (all_end ht (by omega)).symm, rfl⟩

set_option maxRecDepth 10000 in
theorem inSize_c (n : Int) (l : List Int) (hl : l.length ≤ 4611686018427387904) :
    Spec Tryd.prog 53 [vsl 1 (fun x : Int => [vint x]) l, vint n] [] (fun r S' => r = vbool (elB n l) ∧ S' = []) := by
  refine Spec.of_run2 (n := 21) Tryd.func53 rfl Tryd.results53 Tryd.ntmps53 rfl ?_
  repeat' (first | (with_reducible first | refine RL.done ?_ | refine RL.app0 ?_ | refine RL.app1 ?_ | refine RL.app2 ?_ | refine RL.app3 ?_ | refine RL.app4 ?_) | (with_reducible refine RL.wanted ?_ ?_; exact rfl) | ((with_reducible show RH _ _ _ _ _ _ _ _); first | refine RH.val (hK := ?_) | refine RH.upd (hK := ?_) | (refine RH.lr (h := ?_); intro u)) | (with_reducible show RL _ _ _ (_ :: _) _ _ _; first | refine RL.guardYes rfl rfl rfl rfl ?_ | refine RL.guardNoS rfl rfl rfl rfl rfl rfl ?_ | refine RL.guardNo0 rfl rfl rfl rfl rfl rfl ?_ | refine RL.splitD rfl rfl rfl (fun h => ?_) (fun h => ?_) | refine RL.splitND rfl rfl rfl (fun h => ?_) (fun h => ?_) | refine RL.splitNB rfl rfl rfl (fun h => ?_) (fun h => ?_) | refine RL.split rfl rfl rfl (fun h => ?_) (fun h => ?_)) | (with_reducible first | refine Run.seq ?_ | refine Run.region ?_ | refine Run.block ?_ | refine Run.skip ?_ | refine Run.exit ?_ | refine Run.ret ?_) | (with_reducible show Run _ _ (.cond _ _ _) _ _ _; first | refine Run.condT rfl ?_ | refine Run.condF rfl ?_ | refine Run.condD rfl (fun h => ?_) (fun h => ?_) | refine Run.condND rfl (fun h => ?_) (fun h => ?_) | refine Run.condNB rfl (fun h => ?_) (fun h => ?_) | refine Run.cond rfl (fun h => ?_) (fun h => ?_)) | (with_reducible first | refine seqN (K := Run _ _ _ _) ?_ | refine seqE ?_ | refine seqR ?_ | refine blockN ?_ | refine blockR ?_ | refine blockE ?_) | (with_reducible refine blockX ?_ ?_; exact rfl))
  refine Run.loop (α := Nat) (fun j => [(1, vint n), (7, vsl 1 (fun x : Int => [vint x]) l), (8, vint (l.length : Int)), (9, vint (j : Int))]) (fun _ => []) (fun j => j ≤ l.length ∧ elB n (l.take j) = true) (fun j => l.length - j) 0 (by simp [elB]) (Ent.of slA .refl) ?_
  rintro j ⟨hj, ht⟩
  repeat' (first | (with_reducible first | refine RL.done ?_ | refine RL.app0 ?_ | refine RL.app1 ?_ | refine RL.app2 ?_ | refine RL.app3 ?_ | refine RL.app4 ?_) | (with_reducible refine RL.wanted ?_ ?_; exact rfl) | ((with_reducible show RH _ _ _ _ _ _ _ _); first | refine RH.val (hK := ?_) | refine RH.upd (hK := ?_) | (refine RH.lr (h := ?_); intro u)) | (with_reducible show RL _ _ _ (_ :: _) _ _ _; first | refine RL.guardYes rfl rfl rfl rfl ?_ | refine RL.guardNoS rfl rfl rfl rfl rfl rfl ?_ | refine RL.guardNo0 rfl rfl rfl rfl rfl rfl ?_ | refine RL.splitD rfl rfl rfl (fun h => ?_) (fun h => ?_) | refine RL.splitND rfl rfl rfl (fun h => ?_) (fun h => ?_) | refine RL.splitNB rfl rfl rfl (fun h => ?_) (fun h => ?_) | refine RL.split rfl rfl rfl (fun h => ?_) (fun h => ?_)) | (with_reducible first | refine Run.seq ?_ | refine Run.region ?_ | refine Run.block ?_ | refine Run.skip ?_ | refine Run.exit ?_ | refine Run.ret ?_) | (with_reducible show Run _ _ (.cond _ _ _) _ _ _; first | refine Run.condT rfl ?_ | refine Run.condF rfl ?_ | refine Run.condD rfl (fun h => ?_) (fun h => ?_) | refine Run.condND rfl (fun h => ?_) (fun h => ?_) | refine Run.condNB rfl (fun h => ?_) (fun h => ?_) | refine Run.cond rfl (fun h => ?_) (fun h => ?_)) | (with_reducible first | refine seqN (K := Run _ _ _ _) ?_ | refine seqE ?_ | refine seqR ?_ | refine blockN ?_ | refine blockR ?_ | refine blockE ?_) | (with_reducible refine blockX ?_ ?_; exact rfl))
  · refine ⟨eA, _, [], resA, .ch .nil, ?_⟩
    exact ⟨congrArg vbool (all_no l j (by omega) (decide_eq_false (by omega))).symm, rfl⟩
  · refine ⟨eA, _, [], resA, .ch .nil, ?_⟩
    exact ⟨congrArg vbool (all_no l j (by omega) (decide_eq_false (by omega))).symm, rfl⟩
  · with_reducible refine seqN ?_
    exact ⟨j + 1, ⟨by omega, all_step ht (by omega) (decide_eq_true (by omega))⟩, by omega, Ent.of slA .refl⟩
  · refine ⟨eA, _, [], resA, .ch .nil, ?_⟩
    exact ⟨congrArg vbool (all_end ht (by omega)).symm, rfl⟩
end Go.Proofs.YtemfpennomelaaaDoor
