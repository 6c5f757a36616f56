/- Conditions: spec.l15Variables, l15Good, IsCondition, impl.areVars, IsCondition: the same answer. Proved for this program; conditions: lengths below 2^62. -/
import Derived.Test.YtiifdhdhjioefaaElem
namespace Go.Proofs.Ytiifdhdhjioefaa
open Go Go.Proofs
set_option linter.unusedVariables false

def varB (k : Int) (l : List Int) : Bool := decide ((l.length : Int) = k) && elB 2 l
def ruleB (a : Int) (y : List Int × List Int) : Bool := varB a y.1 && (varB a y.2 || varB 1 y.2)
def condB (a : Int) (rs : List (List Int × List Int)) : Bool := decide (2 ≤ a ∧ a ≤ 3) && (decide (1 ≤ (rs.length : Int) ∧ (rs.length : Int) ≤ 6) && rs.all (ruleB a))

set_option maxRecDepth 10000 in
theorem l15Variables_c (k : Int) (l : List Int) (hl : l.length ≤ 4611686018427387904) :
    Spec Try.prog 183 [vsl 1 (fun x : Int => [vint x]) l, vint k] [] (fun r S' => r = vbool (varB k l) ∧ S' = []) := by
  refine Spec.of_run2 (n := 13) Try.func183 rfl Try.results183 Try.ntmps183 rfl ?_
  repeat' (first | (with_reducible first | refine RL.done ?_ | refine RL.app0 ?_) | (with_reducible refine RL.wanted ?_ ?_; exact rfl) | ((with_reducible show RH _ _ _ ⟨_, .call ⟨.value (.func 95), _, _⟩, _, _, _, _⟩ _ _ _ _); refine RH.cP Try.call95 ?_; refine ⟨_, l2Elements_c _ _ (by omega) hl, ?_⟩; rintro _ _ ⟨rfl, rfl⟩) | ((with_reducible show RH _ _ _ _ _ _ _ _); refine RH.val (hK := ?_)) | (with_reducible show RL _ _ _ (_ :: _) _ _ _; first | refine RL.guardYes rfl rfl rfl rfl ?_ | refine RL.guardNoS rfl rfl rfl rfl rfl rfl ?_ | refine RL.splitD rfl rfl rfl (fun h => ?_) (fun h => ?_)) | (with_reducible first | refine Run.seq ?_ | refine Run.region ?_ | refine Run.ret ?_) | (with_reducible refine seqN (K := Run _ _ _ _) ?_))
  all_goals (refine ⟨eA, _, [], resA, .ch .nil, ?_⟩; exact ⟨congrArg vbool (by simp_all [varB]), rfl⟩)

set_option maxRecDepth 10000 in
theorem areVars_c (l : List Int) (hl : l.length ≤ 4611686018427387904) :
    Spec Try.prog 188 [vsl 1 (fun x : Int => [vint x]) l] [] (fun r S' => r = vbool (elB 2 l) ∧ S' = []) := by
  refine Spec.of_run2 (n := 5) Try.func188 rfl Try.results188 Try.ntmps188 rfl ?_
  repeat' (first | (with_reducible first | refine RL.done ?_ | refine RL.app0 ?_) | (with_reducible refine RL.wanted ?_ ?_; exact rfl) | ((with_reducible show RH _ _ _ ⟨_, .call ⟨.value (.func 87), _, _⟩, _, _, _, _⟩ _ _ _ _); refine RH.cP Try.call87 ?_; refine ⟨_, inSize_c _ _ hl, ?_⟩; rintro _ _ ⟨rfl, rfl⟩) | ((with_reducible show RH _ _ _ _ _ _ _ _); refine RH.val (hK := ?_)) | (with_reducible first | refine Run.seq ?_ | refine Run.region ?_ | refine Run.ret ?_) | (with_reducible refine seqN (K := Run _ _ _ _) ?_))
  all_goals (refine ⟨eA, _, [], resA, .ch .nil, ?_⟩; exact ⟨rfl, rfl⟩)

set_option maxRecDepth 10000 in
theorem l15Good_c (a : Int) (rs : List (List Int × List Int)) (hl : rs.length ≤ 4611686018427387904) (hr : ∀ y ∈ rs, y.1.length ≤ 4611686018427387904 ∧ y.2.length ≤ 4611686018427387904) :
    Spec Try.prog 163 [vagg [vint a, vsl 2 (fun y : (List Int) × (List Int) => [vsl 1 (fun x : Int => [vint x]) y.1, vsl 1 (fun x : Int => [vint x]) y.2]) rs]] [] (fun r S' => r = vbool (condB a rs) ∧ S' = []) := by
  refine Spec.of_run2 (n := 48) Try.func163 rfl Try.results163 Try.ntmps163 rfl ?_
  repeat' (first | (with_reducible first | refine RL.done ?_ | refine RL.app0 ?_) | (with_reducible refine RL.wanted ?_ ?_; exact rfl) | ((with_reducible show RH _ _ _ ⟨some 1, .box _ _, _, _, _, _⟩ _ _ _ _); (refine RH.boxAgg rfl rfl ?_; rintro _ _ ⟨b1, rfl, rfl⟩)) | ((with_reducible show RH _ _ _ ⟨_, .call ⟨.value (.func 85), _, _⟩, _, _, _, _⟩ _ _ _ _); refine RH.cP Try.call85 ?_; refine ⟨_, l1In_c _ _ _, ?_⟩; rintro _ _ ⟨rfl, rfl⟩) | ((with_reducible show RH _ _ _ _ _ _ _ _); refine RH.val (hK := ?_)) | (with_reducible show RL _ _ _ (_ :: _) _ _ _; first | refine RL.guardYes rfl rfl rfl rfl ?_ | refine RL.guardNoS rfl rfl rfl rfl rfl rfl ?_ | refine RL.splitND rfl rfl rfl (fun h => ?_) (fun h => ?_)) | (with_reducible first | refine Run.seq ?_ | refine Run.region ?_ | refine Run.block ?_ | refine Run.skip ?_ | refine Run.ret ?_) | (with_reducible show Run _ _ (.cond _ _ _) _ _ _; first | refine Run.condT rfl ?_ | refine Run.condND rfl (fun h => ?_) (fun h => ?_)) | (with_reducible first | refine seqN (K := Run _ _ _ _) ?_ | refine seqR ?_))
  · refine ⟨eA, _, [], resA, .ch .nil, ?_⟩
    exact ⟨congrArg vbool (by rw [condB, decide_eq_false (by assumption)]; rfl), rfl⟩
  · refine ⟨eA, _, [], resA, .ch .nil, ?_⟩
    exact ⟨congrArg vbool (by rw [condB, decide_eq_false (show ¬ (1 ≤ (rs.length : Int) ∧ (rs.length : Int) ≤ 6) by assumption), Bool.false_and, Bool.and_false]), rfl⟩
  · refine Run.loop (α := Nat) (fun j => [(1, vptr b1 0), (3, vint (j : Int))]) (fun _ => [hcells b1 [vint a, vsl 2 (fun y : (List Int) × (List Int) => [vsl 1 (fun x : Int => [vint x]) y.1, vsl 1 (fun x : Int => [vint x]) y.2]) rs]]) (fun j => j ≤ rs.length ∧ (rs.take j).all (ruleB a) = true) (fun j => rs.length - j) 0 (by simp) (Ent.of slA chA) ?_
    rintro j ⟨hj, ht⟩
    repeat' (first | (with_reducible first | refine RL.done ?_ | refine RL.app0 ?_) | (with_reducible refine RL.wanted ?_ ?_; exact rfl) | ((with_reducible show RH _ _ _ ⟨some 4, .alloc _, _, _, _, _⟩ _ _ _ _); refine RH.alloc rfl ?_; rintro _ _ ⟨b4, rfl, rfl⟩) | ((with_reducible show RH _ _ _ ⟨_, .call ⟨.value (.func 183), _, _⟩, _, _, _, _⟩ _ _ _ _); refine RH.cP Try.call183 ?_; refine ⟨_, l15Variables_c _ _ (by first | exact (hr _ (List.getElem_mem _)).1 | exact (hr _ (List.getElem_mem _)).2), ?_⟩; rintro _ _ ⟨rfl, rfl⟩) | ((with_reducible show RH _ _ _ _ _ _ _ _); first | refine RH.val (hK := ?_) | refine RH.upd (hK := ?_)) | (with_reducible show RL _ _ _ (_ :: _) _ _ _; first | refine RL.guardYes rfl rfl rfl rfl ?_ | refine RL.guardNoS rfl rfl rfl rfl rfl rfl ?_ | refine RL.splitNB rfl rfl rfl (fun h => ?_) (fun h => ?_)) | (with_reducible first | refine Run.seq ?_ | refine Run.region ?_ | refine Run.block ?_ | refine Run.skip ?_ | refine Run.exit ?_ | refine Run.ret ?_) | (with_reducible show Run _ _ (.cond _ _ _) _ _ _; first | refine Run.condT rfl ?_ | refine Run.condF rfl ?_ | refine Run.condD rfl (fun h => ?_) (fun h => ?_) | refine Run.condNB rfl (fun h => ?_) (fun h => ?_)) | (with_reducible first | refine seqN (K := Run _ _ _ _) ?_ | refine seqE ?_ | refine seqR ?_ | refine blockN ?_ | refine blockR ?_ | refine blockE ?_))
    all_goals first
      | (refine ⟨eA, _, [], resA, .ch .nil, ?_⟩; exact ⟨congrArg vbool (by rw [condB, all_no rs j (by omega) (by simp_all [ruleB]), Bool.and_false, Bool.and_false]), rfl⟩)
      | (with_reducible refine seqN ?_; exact ⟨j + 1, ⟨by omega, all_step ht (by omega) (by simp_all [ruleB])⟩, by omega, Ent.of slA chA⟩)
      | (refine ⟨eA, _, [], resA, .ch .nil, ?_⟩; exact ⟨congrArg vbool (by rw [condB, all_end ht (by omega), decide_eq_true (by assumption), decide_eq_true (by assumption)]; rfl), rfl⟩)

set_option maxRecDepth 10000 in
theorem implIsCondition_c (a : Int) (rs : List (List Int × List Int)) (hl : rs.length ≤ 4611686018427387904) (hr : ∀ y ∈ rs, y.1.length ≤ 4611686018427387904 ∧ y.2.length ≤ 4611686018427387904) :
    Spec Try.prog 170 [vagg [vint a, vsl 2 (fun y : (List Int) × (List Int) => [vsl 1 (fun x : Int => [vint x]) y.1, vsl 1 (fun x : Int => [vint x]) y.2]) rs]] [] (fun r S' => r = vbool (condB a rs) ∧ S' = []) := by
  refine Spec.of_run2 (n := 65) Try.func170 rfl Try.results170 Try.ntmps170 rfl ?_
  repeat' (first | (with_reducible refine RL.done ?_) | (with_reducible refine RL.wanted ?_ ?_; exact rfl) | ((with_reducible show RH _ _ _ ⟨some 1, .box _ _, _, _, _, _⟩ _ _ _ _); (refine RH.boxAgg rfl rfl ?_; rintro _ _ ⟨b1, rfl, rfl⟩)) | ((with_reducible show RH _ _ _ _ _ _ _ _); refine RH.val (hK := ?_)) | (with_reducible show RL _ _ _ (_ :: _) _ _ _; first | refine RL.guardYes rfl rfl rfl rfl ?_ | refine RL.guardNoS rfl rfl rfl rfl rfl rfl ?_ | refine RL.splitD rfl rfl rfl (fun h => ?_) (fun h => ?_)) | (with_reducible first | refine Run.seq ?_ | refine Run.region ?_ | refine Run.block ?_ | refine Run.skip ?_ | refine Run.ret ?_) | (with_reducible show Run _ _ (.cond _ _ _) _ _ _; first | refine Run.condT rfl ?_ | refine Run.condD rfl (fun h => ?_) (fun h => ?_)) | (with_reducible first | refine seqN (K := Run _ _ _ _) ?_ | refine seqR ?_))
  rotate_right
  · have h1 : 2 ≤ a ∧ a ≤ 3 := by omega
    have h2 : 1 ≤ (rs.length : Int) ∧ (rs.length : Int) ≤ 6 := by omega
    refine Run.loop (α := Nat) (fun j => [(1, vptr b1 0), (26, vsl 2 (fun y : (List Int) × (List Int) => [vsl 1 (fun x : Int => [vint x]) y.1, vsl 1 (fun x : Int => [vint x]) y.2]) rs), (27, vint (rs.length : Int)), (28, vint (j : Int))]) (fun _ => [hcells b1 [vint a, vsl 2 (fun y : (List Int) × (List Int) => [vsl 1 (fun x : Int => [vint x]) y.1, vsl 1 (fun x : Int => [vint x]) y.2]) rs]]) (fun j => j ≤ rs.length ∧ (rs.take j).all (ruleB a) = true) (fun j => rs.length - j) 0 (by simp) (Ent.of slA chA) ?_
    rintro j ⟨hj, ht⟩
    repeat' (first | (with_reducible first | refine RL.done ?_ | refine RL.app0 ?_) | (with_reducible refine RL.wanted ?_ ?_; exact rfl) | ((with_reducible show RH _ _ _ ⟨some 4, .alloc _, _, _, _, _⟩ _ _ _ _); refine RH.alloc rfl ?_; rintro _ _ ⟨b4, rfl, rfl⟩) | ((with_reducible show RH _ _ _ ⟨_, .call ⟨.value (.func 188), _, _⟩, _, _, _, _⟩ _ _ _ _); refine RH.cP Try.call188 ?_; refine ⟨_, areVars_c _ (by first | exact (hr _ (List.getElem_mem _)).1 | exact (hr _ (List.getElem_mem _)).2), ?_⟩; rintro _ _ ⟨rfl, rfl⟩) | ((with_reducible show RH _ _ _ _ _ _ _ _); first | refine RH.val (hK := ?_) | refine RH.upd (hK := ?_)) | (with_reducible show RL _ _ _ (_ :: _) _ _ _; first | refine RL.guardYes rfl rfl rfl rfl ?_ | refine RL.guardNoS rfl rfl rfl rfl rfl rfl ?_ | refine RL.splitD rfl rfl rfl (fun h => ?_) (fun h => ?_) | refine RL.splitNB rfl rfl rfl (fun h => ?_) (fun h => ?_)) | (with_reducible first | refine Run.seq ?_ | refine Run.region ?_ | refine Run.block ?_ | refine Run.skip ?_ | refine Run.exit ?_ | refine Run.ret ?_) | (with_reducible show Run _ _ (.cond _ _ _) _ _ _; first | refine Run.condT rfl ?_ | refine Run.condD rfl (fun h => ?_) (fun h => ?_) | refine Run.condNB rfl (fun h => ?_) (fun h => ?_)) | (with_reducible first | refine seqN (K := Run _ _ _ _) ?_ | refine seqE ?_ | refine seqR ?_ | refine blockN ?_ | refine blockR ?_ | refine blockE ?_))
    all_goals first
      | (refine ⟨eA, _, [], resA, .ch .nil, ?_⟩; exact ⟨congrArg vbool (by rw [condB, all_no rs j (by omega) (by simp_all [ruleB, varB]), Bool.and_false, Bool.and_false]), rfl⟩)
      | (with_reducible refine seqN ?_; exact ⟨j + 1, ⟨by omega, all_step ht (by omega) (by simp_all [ruleB, varB])⟩, by omega, Ent.of slA chA⟩)
      | (refine ⟨eA, _, [], resA, .ch .nil, ?_⟩; exact ⟨congrArg vbool (by rw [condB, all_end ht (by omega), decide_eq_true h1, decide_eq_true h2]; rfl), rfl⟩)
  all_goals (refine ⟨eA, _, [], resA, .ch .nil, ?_⟩; exact ⟨congrArg vbool (by rw [condB]; simp; omega), rfl⟩)
end Go.Proofs.Ytiifdhdhjioefaa
