/- Draws for the laws of relations: spec.DrawComposeRelations, DrawMeetRelations, DrawFixPlace. Proved for this program; conditions: bytes of 0 to 255. -/
import Derived.Test.YtiifdhdhjioefaaDrC
namespace Go.Proofs.Ytiifdhdhjioefaa
open Go Go.Proofs
set_option linter.unusedVariables false
theorem size130_c (b : Nat) (code : List Int) (hc : Byts code) :
    Spec Try.prog 64 [vptr b 0] [hcur0 b code 0 0] (fun r S' => ∃ n : Int, r = vint n ∧ S' = [hcur b code 4] ∧ 0 ≤ n ∧ n ≤ 9) :=
  Spec.pre (SEnt.cur (p := 0) (m := 0) rfl (Nat.le_refl _)) (size13_c b code 0 hc (by omega))
/-- a relation that was drawn -/
abbrev DrRel (a : Int) (T : List (List Int)) : Prop := (-1 ≤ a ∧ a ≤ 4) ∧ T.length ≤ 700 ∧ ∀ t ∈ T, t.length ≤ 4
set_option maxRecDepth 10000 in
theorem l1MostD_c (a b : Int) : Spec Try.prog 82 [vint a, vint b] [] (fun r S' => ∃ x : Int, r = vint x ∧ S' = [] ∧ a ≤ x ∧ b ≤ x ∧ (x = a ∨ x = b)) := by
  refine Spec.of_run2 (n := 10) Try.func82 rfl Try.results82 Try.ntmps82 rfl ?_
  repeat' (first | (with_reducible refine RL.done ?_) | (with_reducible refine RL.wanted ?_ ?_; exact rfl) | ((with_reducible show RH _ _ _ _ _ _ _ _); refine RH.val (hK := ?_)) | (with_reducible first | refine Run.seq ?_ | refine Run.region ?_ | refine Run.skip ?_ | refine Run.ret ?_) | (with_reducible show Run _ _ (.cond _ _ _) _ _ _; refine Run.condD rfl (fun h => ?_) (fun h => ?_)) | (with_reducible first | refine seqN (K := Run _ _ _ _) ?_ | refine seqR ?_))
  all_goals first
    | (refine ⟨eA, _, [], resA, .ch .nil, ?_⟩; exact ⟨_, rfl, rfl, by omega, by omega, by omega⟩)
    | trace_state
end Go.Proofs.Ytiifdhdhjioefaa
/- Draws for the laws of relations: spec.DrawRelationOf, DrawProjectRelation. Proved for this program; conditions: bytes of 0 to 255. -/
namespace Go.Proofs.Ytiifdhdhjioefaa
open Go Go.Proofs
set_option linter.unusedVariables false
end Go.Proofs.Ytiifdhdhjioefaa
