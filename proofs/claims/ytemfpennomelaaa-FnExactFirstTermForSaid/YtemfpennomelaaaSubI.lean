/- Whether a list of tuples is a subpower: spec.l8Most, l8Tuples, l8Is, impl.areTuples, isLength, isSubpower: the same answer. Proved for this program; conditions: a valid algebra, tuples of length 1 to 64. -/
import Derived.Test.YtemfpennomelaaaSubP
import Derived.Test.YtemfpennomelaaaSpan
import Derived.Test.YtemfpennomelaaaBreak
namespace Go.Proofs.Ytemfpennomelaaa
open Go Go.Proofs
set_option linter.unusedVariables false
theorem l1Most_c (a b : Int) : Spec Try.prog 61 [vint a, vint b] [] (fun r S' => r = vint (max a b) ∧ S' = []) := by
  refine Spec.of_run2 (n := 10) Try.func61 rfl Try.results61 Try.ntmps61 rfl ?_
  repeat' (first | (with_reducible refine RL.done ?_) | (with_reducible refine RL.wanted ?_ ?_; exact rfl) | ((with_reducible show RH _ _ _ _ _ _ _ _); refine RH.val (hK := ?_)) | (with_reducible first | refine Run.seq ?_ | refine Run.region ?_ | refine Run.skip ?_ | refine Run.ret ?_) | (with_reducible show Run _ _ (.cond _ _ _) _ _ _; refine Run.condD rfl (fun h => ?_) (fun h => ?_)) | (with_reducible first | refine seqN (K := Run _ _ _ _) ?_ | refine seqR ?_))
  all_goals
    refine ⟨eA, _, [], resA, .ch .nil, ?_⟩
    refine ⟨congrArg vint ?_, rfl⟩
    omega
set_option maxRecDepth 10000 in
set_option maxHeartbeats 1000000 in
theorem l8Most_c (n : Int) (os : List (Int × List Int)) (hl : os.length ≤ 1048576) :
    Spec Try.prog 38 [vagg [vint n, vsl 2 (fun y : Int × (List Int) => [vint y.1, vsl 1 (fun x : Int => [vint x]) y.2]) os]] [] (fun r S' => r = vint (mostV os : Int) ∧ S' = []) := by
  refine Spec.of_run2 (n := 25) Try.func38 rfl Try.results38 Try.ntmps38 rfl ?_
  repeat' (first | (with_reducible refine RL.done ?_) | (with_reducible refine RL.wanted ?_ ?_; exact rfl) | ((with_reducible show RH _ _ _ ⟨some 1, .box _ _, _, _, _, _⟩ _ _ _ _); (refine RH.boxAgg rfl rfl ?_; rintro _ _ ⟨b1, rfl, rfl⟩)) | ((with_reducible show RH _ _ _ _ _ _ _ _); refine RH.val (hK := ?_)) | (with_reducible first | refine Run.seq ?_ | refine Run.region ?_ | refine Run.block ?_) | (with_reducible refine seqN (K := Run _ _ _ _) ?_))
  refine Run.loop (α := Nat) (fun j => [(1, vptr b1 0), (3, vint (maxA (os.take j) 0)), (4, vint (j : Int))]) (fun j => [hcells b1 [vint n, vsl 2 (fun y : Int × (List Int) => [vint y.1, vsl 1 (fun x : Int => [vint x]) y.2]) os]]) (fun j => j ≤ os.length) (fun j => os.length - j) 0 (Nat.zero_le _) (Ent.of (by (repeat (first | exact Sl.nil | refine Sl.cons rfl rfl ?_ | refine Sl.cons rfl (congrArg (fun z => vlit (Value.int .i64 z)) (by omega)) ?_ | refine Sl.cons rfl (by simp [maxA]) ?_))) chA) ?_
  intro j hj
  rcases Nat.lt_or_eq_of_le hj with h9 | h9
  · have hs := maxA_take (m := 0) h9
    repeat' (first | (with_reducible first | refine RL.done ?_ | refine RL.app0 ?_) | (with_reducible refine RL.wanted ?_ ?_; exact rfl) | ((with_reducible show RH _ _ _ ⟨_, .call ⟨.value (.func 61), _, _⟩, _, _, _, _⟩ _ _ _ _); refine RH.cP Try.call61 ?_; refine ⟨_, l1Most_c _ _, ?_⟩; rintro _ _ ⟨rfl, rfl⟩) | ((with_reducible show RH _ _ _ _ _ _ _ _); refine RH.val (hK := ?_)) | (with_reducible first | refine Run.seq ?_ | refine Run.region ?_ | refine Run.block ?_ | refine Run.skip ?_ | refine Run.exit ?_ | refine Run.ret ?_) | (with_reducible show Run _ _ (.cond _ _ _) _ _ _; refine Run.condD rfl (fun h => ?_) (fun h => ?_)) | (with_reducible first | refine seqN (K := Run _ _ _ _) ?_ | refine seqE ?_ | refine seqR ?_ | refine blockN ?_ | refine blockR ?_ | refine blockE ?_))
    all_goals first
      | (exfalso; omega)
      | (with_reducible refine seqN ?_
         exact ⟨j + 1, by omega, by omega, Ent.of (by rw [hs]; exact slA) chA⟩)
  · subst h9
    rw [List.take_length]
    repeat' (first | (with_reducible refine RL.done ?_) | (with_reducible refine RL.wanted ?_ ?_; exact rfl) | ((with_reducible show RH _ _ _ _ _ _ _ _); refine RH.val (hK := ?_)) | (with_reducible first | refine Run.seq ?_ | refine Run.region ?_ | refine Run.block ?_ | refine Run.skip ?_ | refine Run.exit ?_ | refine Run.ret ?_) | (with_reducible show Run _ _ (.cond _ _ _) _ _ _; refine Run.condD rfl (fun h => ?_) (fun h => ?_)) | (with_reducible first | refine seqN (K := Run _ _ _ _) ?_ | refine seqE ?_ | refine seqR ?_ | refine blockN ?_ | refine blockR ?_ | refine blockE ?_))
    all_goals first
      | (exfalso; omega)
      | (refine ⟨eA, _, [], resA, .ch .nil, ?_⟩
         refine ⟨?_, rfl⟩
         rw [mostV]
         first
           | (rw [if_pos (by assumption)]; rfl)
           | (rw [if_neg (by assumption), if_pos (by assumption)]; rfl)
           | (rw [if_neg (by assumption), if_neg (by assumption)]; rfl))
theorem tupB_take {n : Int} {k : Nat} {X : List (List Int)} {m : Nat} (h : m < X.length) (h1 : tupB n k (X.take m) = true) (h2 : X[m].length = k ∧ elB n X[m] = true) : tupB n k (X.take (m + 1)) = true := by
  rw [List.take_add_one, List.getElem?_eq_getElem h]
  simp only [tupB, List.all_append, Bool.and_eq_true] at h1 ⊢
  exact ⟨h1, by simp [h2.1, h2.2]⟩
theorem tupB_not {n : Int} {k : Nat} {X : List (List Int)} {m : Nat} (h : m < X.length) (h2 : ¬ (X[m].length = k ∧ elB n X[m] = true)) : tupB n k X = false := by
  cases e : tupB n k X with
  | false => rfl
  | true => exact (h2 (tupB_iff.1 e _ (List.getElem_mem h))).elim
set_option maxRecDepth 10000 in
set_option maxHeartbeats 1000000 in
theorem l8Tuples_c (n : Int) (k : Nat) (X : List (List Int)) (hn : 1 ≤ n ∧ n ≤ 8) (hk : 1 ≤ k ∧ k ≤ 64) (hl : X.length ≤ 4398046511104) (hr : ∀ t ∈ X, t.length ≤ 4611686018427387904) :
    Spec Try.prog 36 [vint n, vint (k : Int), vsl 1 (fun t : List Int => [vsl 1 (fun x : Int => [vint x]) t]) X] [] (fun r S' => r = vbool (tupB n k X) ∧ S' = []) := by
  refine Spec.of_run2 (n := 24) Try.func36 rfl Try.results36 Try.ntmps36 rfl ?_
  repeat' (first | (with_reducible refine RL.done ?_) | (with_reducible refine RL.wanted ?_ ?_; exact rfl) | ((with_reducible show RH _ _ _ _ _ _ _ _); refine RH.val (hK := ?_)) | (with_reducible first | refine Run.seq ?_ | refine Run.region ?_ | refine Run.block ?_) | (with_reducible refine seqN (K := Run _ _ _ _) ?_))
  refine Run.loop (α := Nat) (fun m => [(0, vint n), (1, vint (k : Int)), (2, vsl 1 (fun t : List Int => [vsl 1 (fun x : Int => [vint x]) t]) X), (7, vint (m : Int))]) (fun _ => []) (fun m => m ≤ X.length ∧ tupB n k (X.take m) = true) (fun m => X.length - m) 0 (by simp [tupB]) (Ent.of slA .refl) ?_
  rintro m ⟨hm, hok⟩
  (try dsimp only at hm hok ⊢)
  rcases Nat.lt_or_eq_of_le hm with h9 | h9
  · by_cases hrow : X[m].length = k ∧ elB n X[m] = true
    · repeat' (first | (with_reducible first | refine RL.done ?_ | refine RL.app0 ?_) | (with_reducible refine RL.wanted ?_ ?_; exact rfl) | ((with_reducible show RH _ _ _ ⟨_, .call ⟨.value (.func 21), _, _⟩, _, _, _, _⟩ _ _ _ _); refine RH.cP Try.call21 ?_; refine ⟨_, l8Tuple_c _ _ _ (by omega) (hr _ (List.getElem_mem _)), ?_⟩; rintro _ _ ⟨rfl, rfl⟩) | ((with_reducible show RH _ _ _ _ _ _ _ _); refine RH.val (hK := ?_)) | (with_reducible first | refine Run.seq ?_ | refine Run.region ?_ | refine Run.block ?_ | refine Run.skip ?_ | refine Run.exit ?_ | refine Run.ret ?_) | (with_reducible show Run _ _ (.cond _ _ _) _ _ _; first | refine Run.condD rfl (fun h => ?_) (fun h => ?_) | refine Run.condNB rfl (fun h => ?_) (fun h => ?_)) | (with_reducible first | refine seqN (K := Run _ _ _ _) ?_ | refine seqE ?_ | refine seqR ?_ | refine blockN ?_ | refine blockR ?_ | refine blockE ?_))
      all_goals first
        | (exfalso; omega)
        | (exfalso; simp_all; done)
        | (with_reducible refine seqN ?_
           exact ⟨m + 1, ⟨by omega, tupB_take h9 hok hrow⟩, by omega, Ent.of slA chA⟩)
    · repeat' (first | (with_reducible first | refine RL.done ?_ | refine RL.app0 ?_) | (with_reducible refine RL.wanted ?_ ?_; exact rfl) | ((with_reducible show RH _ _ _ ⟨_, .call ⟨.value (.func 21), _, _⟩, _, _, _, _⟩ _ _ _ _); refine RH.cP Try.call21 ?_; refine ⟨_, l8Tuple_c _ _ _ (by omega) (hr _ (List.getElem_mem _)), ?_⟩; rintro _ _ ⟨rfl, rfl⟩) | ((with_reducible show RH _ _ _ _ _ _ _ _); refine RH.val (hK := ?_)) | (with_reducible first | refine Run.seq ?_ | refine Run.region ?_ | refine Run.block ?_ | refine Run.skip ?_ | refine Run.exit ?_ | refine Run.ret ?_) | (with_reducible show Run _ _ (.cond _ _ _) _ _ _; first | refine Run.condD rfl (fun h => ?_) (fun h => ?_) | refine Run.condNB rfl (fun h => ?_) (fun h => ?_)) | (with_reducible first | refine seqN (K := Run _ _ _ _) ?_ | refine seqE ?_ | refine seqR ?_ | refine blockN ?_ | refine blockR ?_ | refine blockE ?_))
      all_goals first
        | (exfalso; omega)
        | (refine ⟨eA, _, [], resA, .ch .nil, ?_⟩
           exact ⟨by rw [tupB_not h9 hrow]; rfl, rfl⟩)
        | (exfalso; apply hrow; simp_all; omega)
        | (exfalso; simp_all; done)
  · subst h9
    rw [List.take_length] at hok
    repeat' (first | (with_reducible first | refine RL.done ?_ | refine RL.app0 ?_) | (with_reducible refine RL.wanted ?_ ?_; exact rfl) | ((with_reducible show RH _ _ _ ⟨_, .call ⟨.value (.func 59), _, _⟩, _, _, _, _⟩ _ _ _ _); refine RH.cP Try.call59 ?_; refine ⟨_, l1In_c _ _ _, ?_⟩; rintro _ _ ⟨rfl, rfl⟩) | ((with_reducible show RH _ _ _ _ _ _ _ _); refine RH.val (hK := ?_)) | (with_reducible first | refine Run.seq ?_ | refine Run.region ?_ | refine Run.block ?_ | refine Run.skip ?_ | refine Run.exit ?_ | refine Run.ret ?_) | (with_reducible show Run _ _ (.cond _ _ _) _ _ _; refine Run.condD rfl (fun h => ?_) (fun h => ?_)) | (with_reducible first | refine seqN (K := Run _ _ _ _) ?_ | refine seqE ?_ | refine blockE ?_))
    all_goals first
      | (exfalso; omega)
      | (refine ⟨eA, _, [], resA, .ch .nil, ?_⟩
         exact ⟨by rw [hok, ← decide_eq_true (show (1 : Int) ≤ (k : Int) ∧ (k : Int) ≤ 64 by omega)]; rfl, rfl⟩)
set_option maxRecDepth 10000 in
set_option maxHeartbeats 1000000 in
theorem areTuples_c (n : Int) (os : List (Int × List Int)) (k : Nat) (X : List (List Int)) (hl : X.length ≤ 4398046511104) (hr : ∀ t ∈ X, t.length ≤ 4611686018427387904) :
    Spec Try.prog 28 [vagg [vint n, vsl 2 (fun y : Int × (List Int) => [vint y.1, vsl 1 (fun x : Int => [vint x]) y.2]) os], vint (k : Int), vsl 1 (fun t : List Int => [vsl 1 (fun x : Int => [vint x]) t]) X] [] (fun r S' => r = vbool (tupB n k X) ∧ S' = []) := by
  refine Spec.of_run2 (n := 27) Try.func28 rfl Try.results28 Try.ntmps28 rfl ?_
  repeat' (first | (with_reducible refine RL.done ?_) | (with_reducible refine RL.wanted ?_ ?_; exact rfl) | ((with_reducible show RH _ _ _ ⟨some 3, .box _ _, _, _, _, _⟩ _ _ _ _); (refine RH.boxAgg rfl rfl ?_; rintro _ _ ⟨b3, rfl, rfl⟩)) | ((with_reducible show RH _ _ _ _ _ _ _ _); refine RH.val (hK := ?_)) | (with_reducible first | refine Run.seq ?_ | refine Run.region ?_ | refine Run.block ?_) | (with_reducible refine seqN (K := Run _ _ _ _) ?_))
  refine Run.loop (α := Nat) (fun m => [(1, vint (k : Int)), (3, vptr b3 0), (9, vsl 1 (fun t : List Int => [vsl 1 (fun x : Int => [vint x]) t]) X), (10, vint (X.length : Int)), (11, vint (m : Int))]) (fun _ => [hcells b3 [vint n, vsl 2 (fun y : Int × (List Int) => [vint y.1, vsl 1 (fun x : Int => [vint x]) y.2]) os]]) (fun m => m ≤ X.length ∧ tupB n k (X.take m) = true) (fun m => X.length - m) 0 (by simp [tupB]) (Ent.of slA chA) ?_
  rintro m ⟨hm, hok⟩
  (try dsimp only at hm hok ⊢)
  rcases Nat.lt_or_eq_of_le hm with h9 | h9
  · by_cases hrow : X[m].length = k ∧ elB n X[m] = true
    · repeat' (first | (with_reducible first | refine RL.done ?_ | refine RL.app0 ?_) | (with_reducible refine RL.wanted ?_ ?_; exact rfl) | ((with_reducible show RH _ _ _ ⟨_, .call ⟨.value (.func 51), _, _⟩, _, _, _, _⟩ _ _ _ _); refine RH.cP Try.call51 ?_; refine ⟨_, inSize_c _ _ (hr _ (List.getElem_mem _)), ?_⟩; rintro _ _ ⟨rfl, rfl⟩) | ((with_reducible show RH _ _ _ _ _ _ _ _); refine RH.val (hK := ?_)) | (with_reducible show RL _ _ _ (_ :: _) _ _ _; first | refine RL.guardYes rfl rfl rfl rfl ?_ | refine RL.guardNoS rfl rfl rfl rfl rfl rfl ?_ | refine RL.splitD rfl rfl rfl (fun h => ?_) (fun h => ?_)) | (with_reducible first | refine Run.seq ?_ | refine Run.region ?_ | refine Run.block ?_ | refine Run.skip ?_ | refine Run.exit ?_ | refine Run.ret ?_) | (with_reducible show Run _ _ (.cond _ _ _) _ _ _; first | refine Run.condT rfl ?_ | refine Run.condD rfl (fun h => ?_) (fun h => ?_) | refine Run.condNB rfl (fun h => ?_) (fun h => ?_)) | (with_reducible first | refine seqN (K := Run _ _ _ _) ?_ | refine seqE ?_ | refine seqR ?_ | refine blockN ?_ | refine blockR ?_ | refine blockE ?_))
      all_goals first
        | (exfalso; omega)
        | (exfalso; simp_all; done)
        | (with_reducible refine seqN ?_
           exact ⟨m + 1, ⟨by omega, tupB_take h9 hok hrow⟩, by omega, Ent.of slA chA⟩)
    · repeat' (first | (with_reducible first | refine RL.done ?_ | refine RL.app0 ?_) | (with_reducible refine RL.wanted ?_ ?_; exact rfl) | ((with_reducible show RH _ _ _ ⟨_, .call ⟨.value (.func 51), _, _⟩, _, _, _, _⟩ _ _ _ _); refine RH.cP Try.call51 ?_; refine ⟨_, inSize_c _ _ (hr _ (List.getElem_mem _)), ?_⟩; rintro _ _ ⟨rfl, rfl⟩) | ((with_reducible show RH _ _ _ _ _ _ _ _); refine RH.val (hK := ?_)) | (with_reducible show RL _ _ _ (_ :: _) _ _ _; first | refine RL.guardYes rfl rfl rfl rfl ?_ | refine RL.guardNoS rfl rfl rfl rfl rfl rfl ?_ | refine RL.splitD rfl rfl rfl (fun h => ?_) (fun h => ?_)) | (with_reducible first | refine Run.seq ?_ | refine Run.region ?_ | refine Run.block ?_ | refine Run.skip ?_ | refine Run.exit ?_ | refine Run.ret ?_) | (with_reducible show Run _ _ (.cond _ _ _) _ _ _; first | refine Run.condT rfl ?_ | refine Run.condD rfl (fun h => ?_) (fun h => ?_) | refine Run.condNB rfl (fun h => ?_) (fun h => ?_)) | (with_reducible first | refine seqN (K := Run _ _ _ _) ?_ | refine seqE ?_ | refine seqR ?_ | refine blockN ?_ | refine blockR ?_ | refine blockE ?_))
      all_goals first
        | (exfalso; omega)
        | (refine ⟨eA, _, [], resA, .ch .nil, ?_⟩
           exact ⟨by rw [tupB_not h9 hrow]; rfl, rfl⟩)
        | (exfalso; apply hrow; simp_all; omega)
        | (exfalso; simp_all; done)
  · subst h9
    rw [List.take_length] at hok
    repeat' (first | (with_reducible refine RL.done ?_) | (with_reducible refine RL.wanted ?_ ?_; exact rfl) | ((with_reducible show RH _ _ _ _ _ _ _ _); refine RH.val (hK := ?_)) | (with_reducible show RL _ _ _ (_ :: _) _ _ _; first | refine RL.guardYes rfl rfl rfl rfl ?_ | refine RL.guardNoS rfl rfl rfl rfl rfl rfl ?_ | refine RL.splitD rfl rfl rfl (fun h => ?_) (fun h => ?_)) | (with_reducible first | refine Run.seq ?_ | refine Run.region ?_ | refine Run.block ?_ | refine Run.skip ?_ | refine Run.exit ?_ | refine Run.ret ?_) | (with_reducible show Run _ _ (.cond _ _ _) _ _ _; first | refine Run.condT rfl ?_ | refine Run.condD rfl (fun h => ?_) (fun h => ?_)) | (with_reducible first | refine seqN (K := Run _ _ _ _) ?_ | refine seqE ?_ | refine seqR ?_ | refine blockR ?_ | refine blockE ?_))
    all_goals first
      | (exfalso; omega)
      | (refine ⟨eA, _, [], resA, .ch .nil, ?_⟩
         exact ⟨by rw [hok]; rfl, rfl⟩)
theorem isLength_c (k : Int) : Spec Try.prog 50 [vint k] [] (fun r S' => r = vbool (decide (1 ≤ k ∧ k ≤ 64)) ∧ S' = []) := by
  refine Spec.of_run2 (n := 9) Try.func50 rfl Try.results50 Try.ntmps50 rfl ?_
  repeat' (first | (with_reducible refine RL.done ?_) | (with_reducible refine RL.wanted ?_ ?_; exact rfl) | ((with_reducible show RH _ _ _ _ _ _ _ _); refine RH.val (hK := ?_)) | (with_reducible show RL _ _ _ (_ :: _) _ _ _; first | refine RL.guardYes rfl rfl rfl rfl ?_ | refine RL.guardNoS rfl rfl rfl rfl rfl rfl ?_ | refine RL.splitD rfl rfl rfl (fun h => ?_) (fun h => ?_)) | (with_reducible first | refine Run.seq ?_ | refine Run.region ?_ | refine Run.ret ?_) | (with_reducible refine seqN (K := Run _ _ _ _) ?_))
  all_goals (refine ⟨eA, _, [], resA, .ch .nil, ?_⟩; refine ⟨congrArg vbool ?_, rfl⟩; first | (simp_all; done) | (simp_all; omega))
end Go.Proofs.Ytemfpennomelaaa
