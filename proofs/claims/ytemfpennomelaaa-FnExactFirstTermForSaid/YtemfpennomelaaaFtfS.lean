/- The reference's terms of tuples: spec.l3Before, spec.l8Better. Proved for this program; conditions: lists that fit memory. -/
import Derived.Test.YtemfpennomelaaaFtfD
import Derived.Test.YtemfpennomelaaaFtfC
import Derived.Test.YtemfpennomelaaaHas
import Derived.Test.YtemfpennomelaaaTup
namespace Go.Proofs.Ytemfpennomelaaa
open Go Go.Proofs
set_option linter.unusedVariables false
theorem tlt_same {a b : List Int} (h : (a.length : Int) = b.length) : tlt a b = less a b := by
  have h2 : a.length = b.length := by omega
  simp [tlt, h2]
theorem tlt_other {a b : List Int} (h : ¬ (a.length : Int) = b.length) : tlt a b = decide ((a.length : Int) < b.length) := by
  have h2 : ¬ a.length = b.length := by omega
  simp [tlt, h2]
set_option maxRecDepth 10000 in
theorem l3Before_c (a b : List Int) (ha : a.length ≤ 4611686018427387904) (hb : b.length ≤ 4611686018427387904) :
    Spec Try.prog 47 [vsl 1 (fun x : Int => [vint x]) a, vsl 1 (fun x : Int => [vint x]) b] [] (fun r S' => r = vbool (tlt a b) ∧ S' = []) := by
  by_cases he : (a.length : Int) = b.length
  · rw [tlt_same he]
    refine Spec.of_run2 (n := 18) Try.func47 rfl Try.results47 Try.ntmps47 rfl ?_
    repeat' (first | (with_reducible first | refine RL.done ?_ | refine RL.app0 ?_) | (with_reducible refine RL.wanted ?_ ?_; exact rfl) | ((with_reducible show RH _ _ _ ⟨_, .call ⟨.value (.func 44), _, _⟩, _, _, _, _⟩ _ _ _ _); refine RH.cP Try.call44 ?_; refine ⟨_, l3Less_c a b (by omega) hb, ?_⟩; rintro _ _ ⟨rfl, rfl⟩) | ((with_reducible show RH _ _ _ _ _ _ _ _); refine RH.val (hK := ?_)) | (with_reducible first | refine Run.seq ?_ | refine Run.region ?_ | refine Run.skip ?_ | refine Run.ret ?_) | (with_reducible show Run _ _ (.cond _ _ _) _ _ _; refine Run.condD rfl (fun h => ?_) (fun h => ?_)) | (with_reducible first | refine seqN (K := Run _ _ _ _) ?_ | refine seqR ?_))
    all_goals first
      | (exfalso; omega)
      | (refine ⟨eA, _, [], resA, .ch .nil, ?_⟩; exact ⟨rfl, rfl⟩)
      | trace_state
  · rw [tlt_other he]
    refine Spec.of_run2 (n := 18) Try.func47 rfl Try.results47 Try.ntmps47 rfl ?_
    repeat' (first | (with_reducible first | refine RL.done ?_ | refine RL.app0 ?_) | (with_reducible refine RL.wanted ?_ ?_; exact rfl) | ((with_reducible show RH _ _ _ ⟨_, .call ⟨.value (.func 44), _, _⟩, _, _, _, _⟩ _ _ _ _); refine RH.cP Try.call44 ?_; refine ⟨_, l3Less_c a b (by omega) hb, ?_⟩; rintro _ _ ⟨rfl, rfl⟩) | ((with_reducible show RH _ _ _ _ _ _ _ _); refine RH.val (hK := ?_)) | (with_reducible first | refine Run.seq ?_ | refine Run.region ?_ | refine Run.skip ?_ | refine Run.ret ?_) | (with_reducible show Run _ _ (.cond _ _ _) _ _ _; refine Run.condD rfl (fun h => ?_) (fun h => ?_)) | (with_reducible first | refine seqN (K := Run _ _ _ _) ?_ | refine seqR ?_))
    all_goals first
      | (exfalso; omega)
      | (refine ⟨eA, _, [], resA, .ch .nil, ?_⟩; exact ⟨rfl, rfl⟩)
      | trace_state
set_option maxRecDepth 10000 in
theorem l8Better_c (X O : List (List Int)) (s : Sv) (u t : List Int) (hX : X.length ≤ 4611686018427387904) (hu : u.length ≤ 4611686018427387904) (hr : ∀ w ∈ X, w.length = u.length) (hs : Sorted X) (hin : placeOf X u < X.length) (hO : O.length = X.length) (hOl : ∀ w ∈ O, w.length ≤ 4611686018427387904) (ht0 : t ≠ []) (ht : t.length ≤ 4611686018427387904) :
    Spec Try.prog 46 [vlit (vsv s), vsl 1 (fun t : List Int => [vsl 1 (fun x : Int => [vint x]) t]) X, vsl 1 (fun x : Int => [vint x]) u, vsl 1 (fun x : Int => [vint x]) t] [hsl tNl (vsv s) O] (fun r S' => r = vtup [] ∧ S' = [hsl tNl (vsv s) (bet O (placeOf X u) t)]) := by
  have hg : O.getD (placeOf X u) [] = O[placeOf X u]'(by omega) := by rw [List.getD_eq_getElem?_getD, List.getElem?_eq_getElem (by omega)]; rfl
  have hob := hOl _ (List.getElem_mem (show placeOf X u < O.length by omega))
  refine Spec.of_run2 (n := 34) Try.func46 rfl Try.results46 Try.ntmps46 rfl ?_
  repeat' (first | (with_reducible first | refine RL.done ?_ | refine RL.app0 ?_) | (with_reducible refine RL.wanted ?_ ?_; exact rfl) | ((with_reducible show RH _ _ _ ⟨_, .load 26 _, _, _, _, _⟩ _ _ _ _); refine RH.value rfl rfl (VOp.loadNlV (xs := O) rfl .head (by omega)) ?_) | ((with_reducible show RH _ _ _ ⟨_, .store 26 _ _, _, _, _, _⟩ _ _ _ _); refine RH.put rfl (UOp.storeNl (xs := O) (z := t) rfl rfl (fun c w h => by rw [vnl_ne ht0]; exact h) .head (by omega)) ?_) | ((with_reducible show RH _ _ _ ⟨_, .call ⟨.value (.func 23), _, _⟩, _, _, _, _⟩ _ _ _ _); refine RH.cP Try.call23 ?_; refine ⟨_, l8Find_c X u hX hu hr hs, ?_⟩; rintro _ _ ⟨rfl, rfl⟩) | ((with_reducible show RH _ _ _ ⟨_, .call ⟨.value (.func 47), _, _⟩, _, _, _, _⟩ _ _ _ _); refine RH.cP Try.call47 ?_; refine ⟨_, l3Before_c t _ ht hob, ?_⟩; rintro _ _ ⟨rfl, rfl⟩) | ((with_reducible show RH _ _ _ _ _ _ _ _); refine RH.val (hK := ?_)) | (with_reducible show RL _ _ _ (_ :: _) _ _ _; first | refine RL.guardYes rfl rfl rfl rfl ?_ | refine RL.guardNoS rfl rfl rfl rfl rfl rfl ?_ | refine RL.splitD rfl rfl rfl (fun h => ?_) (fun h => ?_)) | (with_reducible first | refine Run.seq ?_ | refine Run.region ?_ | refine Run.skip ?_) | (with_reducible show Run _ _ (.cond _ _ _) _ _ _; first | refine Run.condT rfl ?_ | refine Run.cond rfl (fun h => ?_) (fun h => ?_)) | (with_reducible refine seqN (K := Run _ _ _ _) ?_))
  all_goals first
    | (exfalso; omega)
    | (exfalso; simp_all; done)
    | (refine ⟨eA, _, [hsl tNl (vsv s) (bet O (placeOf X u) t)], resA, ?_, ?_⟩
       · rw [bet, hg, if_pos (by first | exact .inl (List.eq_nil_of_length_eq_zero (by omega)) | exact .inr (by assumption))]; exact SEnt.ch chA
       · exact ⟨rfl, rfl⟩)
    | (refine ⟨eA, _, [hsl tNl (vsv s) (bet O (placeOf X u) t)], resA, ?_, ?_⟩
       · have h9 : ¬ (O[placeOf X u]'(by omega) = [] ∨ tlt t (O[placeOf X u]'(by omega)) = true) := by
           rintro (h7 | h7)
           · have h8 := congrArg List.length h7
             rw [List.length_nil] at h8
             omega
           · rw [show tlt t (O[placeOf X u]'(by omega)) = false by assumption] at h7
             cases h7
         rw [bet, hg, if_neg h9]; exact SEnt.ch chA
       · exact ⟨rfl, rfl⟩)
    | trace_state
end Go.Proofs.Ytemfpennomelaaa
