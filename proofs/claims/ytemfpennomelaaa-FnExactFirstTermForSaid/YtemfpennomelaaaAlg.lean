/- Valid algebras: spec.l2Good, impl.IsAlgebra: the same answer. Proved for this program; conditions: lengths below 2^62. -/
import Derived.Test.YtemfpennomelaaaOps
namespace Go.Proofs.Ytemfpennomelaaa
open Go Go.Proofs
set_option linter.unusedVariables false

def algB (n : Int) (os : List (Int × List Int)) : Bool := decide (1 ≤ n ∧ n ≤ 8) && decide ((os.length : Int) ≤ 4) && os.all fun f => opB n f.1 f.2
theorem algB_at {n : Int} {os : List (Int × List Int)} (h : algB n os = true) : 1 ≤ n ∧ n ≤ 8 ∧ os.length ≤ 4 ∧ ∀ f ∈ os, opB n f.1 f.2 = true := by
  simp only [algB, Bool.and_eq_true, decide_eq_true_eq, List.all_eq_true] at h
  exact ⟨h.1.1.1, h.1.1.2, by omega, h.2⟩
abbrev OpsLen (os : List (Int × List Int)) : Prop := ∀ f ∈ os, f.2.length ≤ 4611686018427387904
set_option maxRecDepth 10000 in
set_option maxHeartbeats 1000000 in
theorem l2Good_c (n : Int) (os : List (Int × List Int)) (hl : os.length ≤ 4611686018427387904) (ho : OpsLen os) :
    Spec Try.prog 35 [vagg [vint n, vsl 2 (fun y : Int × (List Int) => [vint y.1, vsl 1 (fun x : Int => [vint x]) y.2]) os]] [] (fun r S' => r = vbool (algB n os) ∧ S' = []) := by
  refine Spec.of_run2 (n := 30) Try.func35 rfl Try.results35 Try.ntmps35 rfl ?_
  by_cases hg : (1 ≤ n ∧ n ≤ 8) ∧ (os.length : Int) ≤ 4
  · have e : algB n os = os.all fun f => opB n f.1 f.2 := by rw [algB, decide_eq_true hg.1, decide_eq_true hg.2]; rfl
    rw [e]
    repeat' (first | (with_reducible first | refine RL.done ?_ | refine RL.app0 ?_) | (with_reducible refine RL.wanted ?_ ?_; exact rfl) | ((with_reducible show RH _ _ _ ⟨some 1, .box _ _, _, _, _, _⟩ _ _ _ _); (refine RH.boxAgg rfl rfl ?_; rintro _ _ ⟨b1, rfl, rfl⟩)) | ((with_reducible show RH _ _ _ ⟨_, .call ⟨.value (.func 59), _, _⟩, _, _, _, _⟩ _ _ _ _); refine RH.cP Try.call59 ?_; refine ⟨_, l1In_c _ _ _, ?_⟩; rintro _ _ ⟨rfl, rfl⟩) | ((with_reducible show RH _ _ _ _ _ _ _ _); refine RH.val (hK := ?_)) | (with_reducible show RL _ _ _ (_ :: _) _ _ _; first | refine RL.guardYes rfl rfl rfl rfl ?_ | refine RL.guardNoS rfl rfl rfl rfl rfl rfl ?_ | refine RL.splitND rfl rfl rfl (fun h => ?_) (fun h => ?_)) | (with_reducible first | refine Run.seq ?_ | refine Run.region ?_ | refine Run.block ?_ | refine Run.skip ?_ | refine Run.ret ?_) | (with_reducible show Run _ _ (.cond _ _ _) _ _ _; first | refine Run.condT rfl ?_ | refine Run.condD rfl (fun h => ?_) (fun h => ?_)) | (with_reducible first | refine seqN (K := Run _ _ _ _) ?_ | refine seqR ?_))
    all_goals first
      | (exfalso; omega)
      | skip
    refine Run.loop (α := Nat) (fun j => [(1, vptr b1 0), (3, vint (j : Int))]) (fun j => [hcells b1 [vint n, vsl 2 (fun y : Int × (List Int) => [vint y.1, vsl 1 (fun x : Int => [vint x]) y.2]) os]]) (fun j => j ≤ os.length ∧ (os.take j).all (fun f => opB n f.1 f.2) = true) (fun j => os.length - j) 0 (by simp) (Ent.of slA chA) ?_
    rintro j ⟨hj, hall⟩
    rcases Nat.lt_or_eq_of_le hj with h9 | rfl
    · repeat' (first | (with_reducible first | refine RL.done ?_ | refine RD.app0 ?_) | (with_reducible refine RL.wanted ?_ ?_; exact rfl) | ((with_reducible show Run _ _ (.region 6 _ true) _ _ _); refine Run.regionD (fun i => false) rfl ?_; change RD _ _ _ _ _ _ 9 (dm 9 0) _ _) | ((with_reducible show RD _ _ 6 _ _ _ _ _ _ _); first | ((with_reducible show RD _ _ _ _ _ _ _ (dm 9 0) _ _); refine RD.tk 0 (dm 9 386) (dm 9 1) (hK := ?_)) | ((with_reducible show RD _ _ _ _ _ _ _ (dm 9 1) _ _); refine RD.tk 1 (dm 9 384) (dm 9 3) (hK := ?_)) | ((with_reducible show RD _ _ _ _ _ _ _ (dm 9 3) _ _); refine RD.tk 2 (dm 9 488) (dm 9 7) (hK := ?_)) | ((with_reducible show RD _ _ _ _ _ _ _ (dm 9 7) _ _); refine RD.tk 3 (dm 9 480) (dm 9 15) (hK := ?_)) | ((with_reducible show RD _ _ _ _ _ _ _ (dm 9 15) _ _); refine RD.tk 4 (dm 9 480) (dm 9 31) (hK := ?_)) | ((with_reducible show RD _ _ _ _ _ _ _ (dm 9 31) _ _); refine RD.tk 5 (dm 9 448) (dm 9 63) (hK := ?_)) | ((with_reducible show RD _ _ _ _ _ _ _ (dm 9 63) _ _); refine RD.tk 6 (dm 9 384) (dm 9 127) (hK := ?_)) | ((with_reducible show RD _ _ _ _ _ _ _ (dm 9 127) _ _); refine RD.a1 7 ?_) | ((with_reducible show RD _ _ _ _ _ _ _ (dm 9 255) _ _); refine RD.tk 8 (dm 9 0) (dm 9 511) (hK := ?_)) | ((with_reducible show RD _ _ _ _ _ _ 0 _ _ _); refine RD.done (by kernel_rfl) ?_)) | ((with_reducible show RO _ _ 6 _ _ _ _ _ _ _ _); ((with_reducible show RO _ _ _ _ _ _ _ (dm 9 127) 7 _ _); (refine RO.cP (dm 9 255) Try.call60 ?_; refine ⟨_, l2Op_c n _ _ (by omega) (by omega) (ho _ (List.getElem_mem (by omega))), ?_⟩; rintro _ _ ⟨rfl, rfl⟩))) | ((with_reducible show RH _ _ _ _ _ _ _ _); refine RH.val (hK := ?_)) | (with_reducible first | refine Run.seq ?_ | refine Run.region ?_ | refine Run.block ?_ | refine Run.skip ?_ | refine Run.exit ?_ | refine Run.ret ?_) | (with_reducible show Run _ _ (.cond _ _ _) _ _ _; first | refine Run.condD rfl (fun h => ?_) (fun h => ?_) | refine Run.condNB rfl (fun h => ?_) (fun h => ?_)) | (with_reducible first | refine seqN (K := Run _ _ _ _) ?_ | refine seqE ?_ | refine seqR ?_ | refine blockN ?_ | refine blockR ?_ | refine blockE ?_))
      all_goals first
        | (exfalso; omega)
        | (with_reducible refine seqN ?_
           exact ⟨j + 1, ⟨by omega, all_step hall h9 (by assumption)⟩, by omega, Ent.of slA chA⟩)
        | (refine ⟨eA, _, [], resA, .ch .nil, ?_⟩; exact ⟨congrArg vbool (all_no os j h9 (by assumption)).symm, rfl⟩)
    · have hyes := all_end hall (Nat.le_refl _)
      repeat' (first | (with_reducible refine RL.done ?_) | (with_reducible refine RL.wanted ?_ ?_; exact rfl) | ((with_reducible show Run _ _ (.region 6 _ true) _ _ _); refine Run.regionD (fun i => false) rfl ?_; change RD _ _ _ _ _ _ 9 (dm 9 0) _ _) | ((with_reducible show RD _ _ 6 _ _ _ _ _ _ _); first | ((with_reducible show RD _ _ _ _ _ _ _ (dm 9 0) _ _); refine RD.tk 0 (dm 9 386) (dm 9 1) (hK := ?_)) | ((with_reducible show RD _ _ _ _ _ _ _ (dm 9 1) _ _); refine RD.tk 1 (dm 9 384) (dm 9 3) (hK := ?_)) | ((with_reducible show RD _ _ _ _ _ _ _ (dm 9 3) _ _); refine RD.tk 2 (dm 9 488) (dm 9 7) (hK := ?_)) | ((with_reducible show RD _ _ _ _ _ _ _ (dm 9 7) _ _); refine RD.tk 3 (dm 9 480) (dm 9 15) (hK := ?_)) | ((with_reducible show RD _ _ _ _ _ _ _ (dm 9 15) _ _); refine RD.tk 4 (dm 9 480) (dm 9 31) (hK := ?_)) | ((with_reducible show RD _ _ _ _ _ _ _ (dm 9 31) _ _); refine RD.tk 5 (dm 9 448) (dm 9 63) (hK := ?_)) | ((with_reducible show RD _ _ _ _ _ _ _ (dm 9 63) _ _); refine RD.tk 6 (dm 9 384) (dm 9 127) (hK := ?_)) | ((with_reducible show RD _ _ _ _ _ _ _ (dm 9 127) _ _); refine RD.a1 7 ?_)) | ((with_reducible show RH _ _ _ _ _ _ _ _); refine RH.val (hK := ?_)) | (with_reducible first | refine Run.seq ?_ | refine Run.region ?_ | refine Run.block ?_ | refine Run.skip ?_ | refine Run.exit ?_ | refine Run.ret ?_) | (with_reducible show Run _ _ (.cond _ _ _) _ _ _; refine Run.condD rfl (fun h => ?_) (fun h => ?_)) | (with_reducible first | refine seqN (K := Run _ _ _ _) ?_ | refine seqE ?_ | refine blockE ?_))
      all_goals first
        | (exfalso; omega)
        | (refine ⟨eA, _, [], resA, .ch .nil, ?_⟩; exact ⟨congrArg vbool hyes.symm, rfl⟩)
  · have e : algB n os = false := by
      rw [algB]
      by_cases h1 : 1 ≤ n ∧ n ≤ 8
      · rw [decide_eq_true h1, decide_eq_false (fun h => hg ⟨h1, h⟩)]; rfl
      · rw [decide_eq_false h1]; rfl
    rw [e]
    repeat' (first | (with_reducible first | refine RL.done ?_ | refine RL.app0 ?_) | (with_reducible refine RL.wanted ?_ ?_; exact rfl) | ((with_reducible show RH _ _ _ ⟨some 1, .box _ _, _, _, _, _⟩ _ _ _ _); (refine RH.boxAgg rfl rfl ?_; rintro _ _ ⟨b1, rfl, rfl⟩)) | ((with_reducible show RH _ _ _ ⟨_, .call ⟨.value (.func 59), _, _⟩, _, _, _, _⟩ _ _ _ _); refine RH.cP Try.call59 ?_; refine ⟨_, l1In_c _ _ _, ?_⟩; rintro _ _ ⟨rfl, rfl⟩) | ((with_reducible show RH _ _ _ _ _ _ _ _); refine RH.val (hK := ?_)) | (with_reducible show RL _ _ _ (_ :: _) _ _ _; first | refine RL.guardYes rfl rfl rfl rfl ?_ | refine RL.guardNoS rfl rfl rfl rfl rfl rfl ?_ | refine RL.splitND rfl rfl rfl (fun h => ?_) (fun h => ?_)) | (with_reducible first | refine Run.seq ?_ | refine Run.region ?_ | refine Run.block ?_ | refine Run.skip ?_ | refine Run.ret ?_) | (with_reducible show Run _ _ (.cond _ _ _) _ _ _; first | refine Run.condT rfl ?_ | refine Run.condD rfl (fun h => ?_) (fun h => ?_)) | (with_reducible first | refine seqN (K := Run _ _ _ _) ?_ | refine seqR ?_))
    all_goals first
      | (refine ⟨eA, _, [], resA, .ch .nil, ?_⟩; exact ⟨rfl, rfl⟩)
      | (exfalso; exact hg ⟨by omega, by omega⟩)
      | (exfalso; omega)
set_option maxRecDepth 10000 in
set_option maxHeartbeats 1000000 in
theorem isAlgebra_c (n : Int) (os : List (Int × List Int)) (hl : os.length ≤ 4611686018427387904) (ho : OpsLen os) :
    Spec Try.prog 49 [vagg [vint n, vsl 2 (fun y : Int × (List Int) => [vint y.1, vsl 1 (fun x : Int => [vint x]) y.2]) os]] [] (fun r S' => r = vbool (algB n os) ∧ S' = []) := by
  refine Spec.of_run2 (n := 32) Try.func49 rfl Try.results49 Try.ntmps49 rfl ?_
  by_cases hg : (1 ≤ n ∧ n ≤ 8) ∧ (os.length : Int) ≤ 4
  · have e : algB n os = os.all fun f => opB n f.1 f.2 := by rw [algB, decide_eq_true hg.1, decide_eq_true hg.2]; rfl
    rw [e]
    repeat' (first | (with_reducible refine RL.done ?_) | (with_reducible refine RL.wanted ?_ ?_; exact rfl) | ((with_reducible show RH _ _ _ ⟨some 1, .box _ _, _, _, _, _⟩ _ _ _ _); (refine RH.boxAgg rfl rfl ?_; rintro _ _ ⟨b1, rfl, rfl⟩)) | ((with_reducible show RH _ _ _ _ _ _ _ _); refine RH.val (hK := ?_)) | (with_reducible show RL _ _ _ (_ :: _) _ _ _; first | refine RL.guardYes rfl rfl rfl rfl ?_ | refine RL.guardNoS rfl rfl rfl rfl rfl rfl ?_ | refine RL.splitD rfl rfl rfl (fun h => ?_) (fun h => ?_)) | (with_reducible first | refine Run.seq ?_ | refine Run.region ?_ | refine Run.block ?_ | refine Run.skip ?_ | refine Run.ret ?_) | (with_reducible show Run _ _ (.cond _ _ _) _ _ _; first | refine Run.condT rfl ?_ | refine Run.condD rfl (fun h => ?_) (fun h => ?_)) | (with_reducible first | refine seqN (K := Run _ _ _ _) ?_ | refine seqR ?_))
    all_goals first
      | (exfalso; omega)
      | skip
    refine Run.loop (α := Nat) (fun j => [(1, vptr b1 0), (20, vsl 2 (fun y : Int × (List Int) => [vint y.1, vsl 1 (fun x : Int => [vint x]) y.2]) os), (21, vint (os.length : Int)), (22, vint (j : Int))]) (fun j => [hcells b1 [vint n, vsl 2 (fun y : Int × (List Int) => [vint y.1, vsl 1 (fun x : Int => [vint x]) y.2]) os]]) (fun j => j ≤ os.length ∧ (os.take j).all (fun f => opB n f.1 f.2) = true) (fun j => os.length - j) 0 (by simp) (Ent.of slA chA) ?_
    rintro j ⟨hj, hall⟩
    rcases Nat.lt_or_eq_of_le hj with h9 | rfl
    · repeat' (first | (with_reducible first | refine RL.done ?_ | refine RL.app0 ?_) | (with_reducible refine RL.wanted ?_ ?_; exact rfl) | ((with_reducible show RH _ _ _ ⟨some 4, .alloc _, _, _, _, _⟩ _ _ _ _); refine RH.alloc rfl ?_; rintro _ _ ⟨b4, rfl, rfl⟩) | ((with_reducible show RH _ _ _ ⟨_, .call ⟨.value (.func 62), _, _⟩, _, _, _, _⟩ _ _ _ _); refine RH.cP Try.call62 ?_; refine ⟨_, isOp_c n _ _ (by omega) (by omega) (ho _ (List.getElem_mem (by omega))), ?_⟩; rintro _ _ ⟨rfl, rfl⟩) | ((with_reducible show RH _ _ _ _ _ _ _ _); first | refine RH.val (hK := ?_) | refine RH.upd (hK := ?_)) | (with_reducible first | refine Run.seq ?_ | refine Run.region ?_ | refine Run.block ?_ | refine Run.skip ?_ | refine Run.exit ?_ | refine Run.ret ?_) | (with_reducible show Run _ _ (.cond _ _ _) _ _ _; first | refine Run.condD rfl (fun h => ?_) (fun h => ?_) | refine Run.condNB rfl (fun h => ?_) (fun h => ?_)) | (with_reducible first | refine seqN (K := Run _ _ _ _) ?_ | refine seqE ?_ | refine seqR ?_ | refine blockN ?_ | refine blockR ?_ | refine blockE ?_))
      all_goals first
        | (exfalso; omega)
        | (with_reducible refine seqN ?_
           exact ⟨j + 1, ⟨by omega, all_step hall h9 (by assumption)⟩, by omega, Ent.of slA chA⟩)
        | (refine ⟨eA, _, [], resA, .ch .nil, ?_⟩; exact ⟨congrArg vbool (all_no os j h9 (by assumption)).symm, rfl⟩)
    · have hyes := all_end hall (Nat.le_refl _)
      repeat' (first | (with_reducible refine RL.done ?_) | (with_reducible refine RL.wanted ?_ ?_; exact rfl) | ((with_reducible show RH _ _ _ ⟨some 4, .alloc _, _, _, _, _⟩ _ _ _ _); refine RH.alloc rfl ?_; rintro _ _ ⟨b4, rfl, rfl⟩) | ((with_reducible show RH _ _ _ _ _ _ _ _); first | refine RH.val (hK := ?_) | refine RH.upd (hK := ?_)) | (with_reducible first | refine Run.seq ?_ | refine Run.region ?_ | refine Run.block ?_ | refine Run.skip ?_ | refine Run.exit ?_ | refine Run.ret ?_) | (with_reducible show Run _ _ (.cond _ _ _) _ _ _; refine Run.condD rfl (fun h => ?_) (fun h => ?_)) | (with_reducible first | refine seqN (K := Run _ _ _ _) ?_ | refine seqE ?_ | refine blockE ?_))
      all_goals first
        | (exfalso; omega)
        | (refine ⟨eA, _, [], resA, .ch .nil, ?_⟩; exact ⟨congrArg vbool hyes.symm, rfl⟩)
  · have e : algB n os = false := by
      rw [algB]
      by_cases h1 : 1 ≤ n ∧ n ≤ 8
      · rw [decide_eq_true h1, decide_eq_false (fun h => hg ⟨h1, h⟩)]; rfl
      · rw [decide_eq_false h1]; rfl
    rw [e]
    repeat' (first | (with_reducible refine RL.done ?_) | (with_reducible refine RL.wanted ?_ ?_; exact rfl) | ((with_reducible show RH _ _ _ ⟨some 1, .box _ _, _, _, _, _⟩ _ _ _ _); (refine RH.boxAgg rfl rfl ?_; rintro _ _ ⟨b1, rfl, rfl⟩)) | ((with_reducible show RH _ _ _ _ _ _ _ _); refine RH.val (hK := ?_)) | (with_reducible show RL _ _ _ (_ :: _) _ _ _; first | refine RL.guardYes rfl rfl rfl rfl ?_ | refine RL.guardNoS rfl rfl rfl rfl rfl rfl ?_ | refine RL.splitD rfl rfl rfl (fun h => ?_) (fun h => ?_)) | (with_reducible first | refine Run.seq ?_ | refine Run.region ?_ | refine Run.block ?_ | refine Run.skip ?_ | refine Run.ret ?_) | (with_reducible show Run _ _ (.cond _ _ _) _ _ _; first | refine Run.condT rfl ?_ | refine Run.condD rfl (fun h => ?_) (fun h => ?_)) | (with_reducible first | refine seqN (K := Run _ _ _ _) ?_ | refine seqR ?_))
    all_goals first
      | (refine ⟨eA, _, [], resA, .ch .nil, ?_⟩; exact ⟨rfl, rfl⟩)
      | (exfalso; exact hg ⟨by omega, by omega⟩)
      | (exfalso; omega)
end Go.Proofs.Ytemfpennomelaaa
