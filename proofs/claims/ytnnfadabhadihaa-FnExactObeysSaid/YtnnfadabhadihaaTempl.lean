/- Templates: spec.l14Rels, IsTemplate, impl.isTemplate, IsTemplate: the same answer. Proved for this program; conditions: lengths below 2^62. -/
import Derived.Test.YtnnfadabhadihaaRelV
namespace Go.Proofs.Ytnnfadabhadihaa
open Go Go.Proofs
set_option linter.unusedVariables false

def relsB (n : Int) (rs : List (Int × List (List Int))) : Bool := decide ((rs.length : Int) ≤ 4) && rs.all fun y => relB n y.1 y.2

set_option maxRecDepth 10000 in
theorem isTemplateSize_c (n : Int) : Spec Try.prog 33 [vint n] [] (fun r S' => r = vbool (decide (1 ≤ n ∧ n ≤ 4)) ∧ S' = []) := by
  refine Spec.of_run2 (n := 9) Try.func33 rfl Try.results33 Try.ntmps33 rfl ?_
  repeat' (first | (with_reducible refine RL.done ?_) | (with_reducible refine RL.app0 ?_) | (with_reducible refine RL.app1 ?_) | (with_reducible refine RL.app2 ?_) | (with_reducible refine RL.wanted ?_ ?_; exact rfl) | ((with_reducible show RH _ _ _ _ _ _ _ _); first | refine RH.val (hK := ?_) | refine RH.upd (hK := ?_) | (refine RH.lr (h := ?_); intro u)) | (with_reducible show RL _ _ _ (_ :: _) _ _ _; first | refine RL.guardYes rfl rfl rfl rfl ?_ | refine RL.guardNoS rfl rfl rfl rfl rfl rfl ?_ | refine RL.guardNo0 rfl rfl rfl rfl rfl rfl ?_ | refine RL.splitD rfl rfl rfl (fun h => ?_) (fun h => ?_) | refine RL.splitND rfl rfl rfl (fun h => ?_) (fun h => ?_) | refine RL.splitNB rfl rfl rfl (fun h => ?_) (fun h => ?_) | refine RL.split rfl rfl rfl (fun h => ?_) (fun h => ?_)) | (with_reducible refine Run.seq ?_) | (with_reducible refine Run.region ?_) | (with_reducible refine Run.block ?_) | (with_reducible refine Run.skip ?_) | (with_reducible refine Run.exit ?_) | (with_reducible refine Run.ret ?_) | (with_reducible show Run _ _ (.cond _ _ _) _ _ _; first | refine Run.condT rfl ?_ | refine Run.condF rfl ?_ | refine Run.condD rfl (fun h => ?_) (fun h => ?_) | refine Run.condND rfl (fun h => ?_) (fun h => ?_) | refine Run.condNB rfl (fun h => ?_) (fun h => ?_) | refine Run.cond rfl (fun h => ?_) (fun h => ?_)) | (with_reducible refine seqN (K := Run _ _ _ _) ?_) | (with_reducible refine seqE ?_) | (with_reducible refine seqR ?_) | (with_reducible refine blockN ?_) | (with_reducible refine blockR ?_) | (with_reducible refine blockE ?_) | (with_reducible refine blockX ?_ ?_; exact rfl))
  all_goals (refine ⟨eA, _, [], resA, .ch .nil, ?_⟩; exact ⟨congrArg vbool (by simp [*]), rfl⟩)

abbrev templAns (n : Int) (rs : List (Int × List (List Int))) : VP := vtup [vbool (decide (1 ≤ n ∧ n ≤ 4) && relsB n rs), vbool (decide (1 ≤ n ∧ n ≤ 4))]
theorem templAns_no {n : Int} {rs : List (Int × List (List Int))} (h : ¬ (1 ≤ n ∧ n ≤ 4)) : templAns n rs = vtup [vbool false, vbool false] := by rw [templAns, decide_eq_false h]; rfl
theorem templAns_yes {n : Int} {rs : List (Int × List (List Int))} (h : 1 ≤ n ∧ n ≤ 4) : templAns n rs = vtup [vbool (relsB n rs), vbool true] := by rw [templAns, decide_eq_true h]; rfl
end Go.Proofs.Ytnnfadabhadihaa
