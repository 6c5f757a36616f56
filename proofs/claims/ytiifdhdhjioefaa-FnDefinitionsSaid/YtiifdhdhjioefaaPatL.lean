/- A list of one's own: spec.l1Own, impl.clone. Proved for this program; conditions: lengths below 2^42. -/
import Derived.Test.YtiifdhdhjioefaaTypes
import Derived.Test.YtiifdhdhjioefaaHas
import Derived.Test.YtiifdhdhjioefaaKeys
import Derived.Test.YtiifdhdhjioefaaElem
import Derived.Test.YtiifdhdhjioefaaTup
namespace Go.Proofs.Ytiifdhdhjioefaa
open Go Go.Proofs
set_option linter.unusedVariables false

set_option maxRecDepth 10000 in
theorem l1Own_c (p : List Int) (hp : p.length ≤ 4398046511104) :
    Spec Try.prog 79 [vsl 1 (fun x : Int => [vint x]) p] [] (fun r S' => ∃ s : Sv, r = vlit (vsv s) ∧ S' = [hsl tInt (vsv s) p]) := by
  refine Spec.of_run2 (n := 6) Try.func79 rfl Try.results79 Try.ntmps79 rfl ?_
  repeat' (first | (with_reducible refine RL.done ?_) | (with_reducible refine RL.wanted ?_ ?_; exact rfl) | ((with_reducible show RH _ _ _ ⟨some 3, .buildSlice _ _ _, _, _, _, _⟩ _ _ _ _); refine RH.eff rfl rfl (EOpS.e (EOpS.slit (fun x : Int => [vint x]) _ (fun _ _ => rfl) (by repeat (first | exact Elts.nil | (apply Elts.cons; exact rfl; exact CellsOf.one))) rfl rfl)) ?_; rintro _ _ ⟨b3, rfl, rfl⟩) | ((with_reducible show RH _ _ _ ⟨_, .call ⟨.builtin .append, _, _⟩, _, _, _, _⟩ _ _ _ _); refine RH.appV rfl rfl rfl (by with_reducible repeat (first | exact Plc.head | apply Plc.tail)) rfl (by decide) (by first | omega | (simp; omega)) (by first | omega | (simp; omega)) ?_; rintro _ _ ⟨b9, c9, rfl, rfl⟩) | ((with_reducible show RH _ _ _ _ _ _ _ _); refine RH.val (hK := ?_)) | (with_reducible first | refine Run.seq ?_ | refine Run.region ?_ | refine Run.ret ?_) | (with_reducible refine seqN (K := Run _ _ _ _) ?_))
  refine ⟨eA, _, [hsl tInt (vsv (some ⟨b9, 0, none⟩, 0 + p.length, c9)) p], resA, ?_, ?_⟩
  · exact SEnt.pack (rv := fun x : Int => .int .i64 x) (fun _ => rfl) (Nat.zero_add _)
  · exact ⟨(some ⟨b9, 0, none⟩, 0 + p.length, c9), rfl, rfl⟩
set_option maxRecDepth 10000 in
theorem clone_c (p : List Int) (hp : p.length ≤ 4398046511104) :
    Spec Try.prog 77 [vsl 1 (fun x : Int => [vint x]) p] [] (fun r S' => ∃ s : Sv, r = vlit (vsv s) ∧ S' = [hsl tInt (vsv s) p]) := by
  refine Spec.of_run2 (n := 6) Try.func77 rfl Try.results77 Try.ntmps77 rfl ?_
  repeat' (first | (with_reducible refine RL.done ?_) | (with_reducible refine RL.wanted ?_ ?_; exact rfl) | ((with_reducible show RH _ _ _ ⟨some 3, .buildSlice _ _ _, _, _, _, _⟩ _ _ _ _); refine RH.eff rfl rfl (EOpS.e (EOpS.slit (fun x : Int => [vint x]) _ (fun _ _ => rfl) (by repeat (first | exact Elts.nil | (apply Elts.cons; exact rfl; exact CellsOf.one))) rfl rfl)) ?_; rintro _ _ ⟨b3, rfl, rfl⟩) | ((with_reducible show RH _ _ _ ⟨_, .call ⟨.builtin .append, _, _⟩, _, _, _, _⟩ _ _ _ _); refine RH.appV rfl rfl rfl (by with_reducible repeat (first | exact Plc.head | apply Plc.tail)) rfl (by decide) (by first | omega | (simp; omega)) (by first | omega | (simp; omega)) ?_; rintro _ _ ⟨b9, c9, rfl, rfl⟩) | ((with_reducible show RH _ _ _ _ _ _ _ _); refine RH.val (hK := ?_)) | (with_reducible first | refine Run.seq ?_ | refine Run.region ?_ | refine Run.ret ?_) | (with_reducible refine seqN (K := Run _ _ _ _) ?_))
  refine ⟨eA, _, [hsl tInt (vsv (some ⟨b9, 0, none⟩, 0 + p.length, c9)) p], resA, ?_, ?_⟩
  · exact SEnt.pack (rv := fun x : Int => .int .i64 x) (fun _ => rfl) (Nat.zero_add _)
  · exact ⟨(some ⟨b9, 0, none⟩, 0 + p.length, c9), rfl, rfl⟩
end Go.Proofs.Ytiifdhdhjioefaa
/- The meet of two relations: spec.MeetRelations, impl.MeetRelations: the same answer. Proved for this program; conditions: lengths below 2^42. -/
namespace Go.Proofs.Ytiifdhdhjioefaa
open Go Go.Proofs
set_option linter.unusedVariables false

theorem relOk_rel' {n a : Int} {xs : List (List Int)} (h : relOk n a xs = true) : (1 ≤ n ∧ n ≤ 8) ∧ relB n a xs = true := by simp only [relOk, Bool.and_eq_true, decide_eq_true_eq] at h; exact h
end Go.Proofs.Ytiifdhdhjioefaa
/- Conditions: spec.l15Variables, l15Good, IsCondition, impl.areVars, IsCondition: the same answer. Proved for this program; conditions: lengths below 2^62. -/
namespace Go.Proofs.Ytiifdhdhjioefaa
open Go Go.Proofs
set_option linter.unusedVariables false

end Go.Proofs.Ytiifdhdhjioefaa
/- The patterns of a condition: spec.l12Place, l15Patterns, PatternsOf, impl.patternAt, patternsOf, PatternsOf: the same answer. Proved for this program; conditions: lengths below 2^46. -/
namespace Go.Proofs.Ytiifdhdhjioefaa
open Go Go.Proofs
set_option linter.unusedVariables false

end Go.Proofs.Ytiifdhdhjioefaa
/- The patterns of a condition: spec.l15Patterns, PatternsOf, impl.patternsOf, PatternsOf: the same answer. Proved for this program; conditions: a valid condition for l15Patterns and patternsOf; lengths below 2^42. -/
namespace Go.Proofs.Ytiifdhdhjioefaa
open Go Go.Proofs
set_option linter.unusedVariables false

end Go.Proofs.Ytiifdhdhjioefaa
