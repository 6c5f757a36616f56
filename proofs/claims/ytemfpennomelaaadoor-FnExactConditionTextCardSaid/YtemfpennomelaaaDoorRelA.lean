/- Sizes and powers: spec.l1In, l6Size, l2Pow, impl.isSize, power. Proved for this program; conditions: powers of numbers up to 2^20 with exponents up to 3. -/
import Derived.Test.YtemfpennomelaaaDoorTypes
namespace Go.Proofs.YtemfpennomelaaaDoor
open Go Go.Proofs

set_option maxRecDepth 10000 in
theorem l1In_c (x a b : Int) : Spec Tryd.prog 37 [vint x, vint a, vint b] [] (fun r S' => r = vbool (decide (a ≤ x ∧ x ≤ b)) ∧ S' = []) := by
  refine Spec.of_run2 (n := 15) Tryd.func37 rfl Tryd.results37 Tryd.ntmps37 rfl ?_
  repeat' (first | (with_reducible first | refine RL.done ?_ | refine RL.app0 ?_ | refine RL.app1 ?_ | refine RL.app2 ?_ | refine RL.app3 ?_ | refine RL.app4 ?_) | (with_reducible refine RL.wanted ?_ ?_; exact rfl) | ((with_reducible show RH _ _ _ _ _ _ _ _); first | refine RH.val (hK := ?_) | refine RH.upd (hK := ?_) | (refine RH.lr (h := ?_); intro u)) | (with_reducible show RL _ _ _ (_ :: _) _ _ _; first | refine RL.guardYes rfl rfl rfl rfl ?_ | refine RL.guardNoS rfl rfl rfl rfl rfl rfl ?_ | refine RL.guardNo0 rfl rfl rfl rfl rfl rfl ?_ | refine RL.splitD rfl rfl rfl (fun h => ?_) (fun h => ?_) | refine RL.splitND rfl rfl rfl (fun h => ?_) (fun h => ?_) | refine RL.splitNB rfl rfl rfl (fun h => ?_) (fun h => ?_) | refine RL.split rfl rfl rfl (fun h => ?_) (fun h => ?_)) | (with_reducible first | refine Run.seq ?_ | refine Run.region ?_ | refine Run.block ?_ | refine Run.skip ?_ | refine Run.exit ?_ | refine Run.ret ?_) | (with_reducible show Run _ _ (.cond _ _ _) _ _ _; first | refine Run.condT rfl ?_ | refine Run.condF rfl ?_ | refine Run.condD rfl (fun h => ?_) (fun h => ?_) | refine Run.condND rfl (fun h => ?_) (fun h => ?_) | refine Run.condNB rfl (fun h => ?_) (fun h => ?_) | refine Run.cond rfl (fun h => ?_) (fun h => ?_)) | (with_reducible first | refine seqN (K := Run _ _ _ _) ?_ | refine seqE ?_ | refine seqR ?_ | refine blockN ?_ | refine blockR ?_ | refine blockE ?_) | (with_reducible refine blockX ?_ ?_; exact rfl))
  all_goals (refine ⟨eA, _, [], resA, .ch .nil, ?_⟩; exact ⟨congrArg vbool (by simp [*]), rfl⟩)

end Go.Proofs.YtemfpennomelaaaDoor
