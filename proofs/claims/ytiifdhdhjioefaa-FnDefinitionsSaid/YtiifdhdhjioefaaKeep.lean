/- Operations that keep a relation: spec.l13Asked, l13Keeps, DoesKeep, FirstBreak, impl.canKeep, DoesKeep, FirstBreak: the same answers. Proved for this program; conditions: lengths below 2^62. -/
import Derived.Test.YtiifdhdhjioefaaBreak
namespace Go.Proofs.Ytiifdhdhjioefaa
open Go Go.Proofs
set_option linter.unusedVariables false

def askB (n a : Int) (tb : List Int) (ar : Int) (xs : List (List Int)) : Bool := (relOk n ar xs && opB n a tb) && decide (pw (xs.length : Int) a.toNat ≤ 70000)
theorem relOk_rel2 {n a : Int} {xs : List (List Int)} (h : relOk n a xs = true) : (1 ≤ n ∧ n ≤ 8) ∧ relB n a xs = true := by simp only [relOk, Bool.and_eq_true, decide_eq_true_eq] at h; exact h
theorem opB_facts {n a : Int} {tb : List Int} (h : opB n a tb = true) : ∃ k : Nat, a = k ∧ k ≤ 3 ∧ (tb.length : Int) = pw n k ∧ elB n tb = true := by
  simp only [opB, Bool.and_eq_true, decide_eq_true_eq] at h
  obtain ⟨⟨h0, h3⟩, h1, h2⟩ := h
  exact ⟨a.toNat, by omega, by omega, h1, h2⟩
theorem relB_small {n a : Int} {xs : List (List Int)} (h1 : 1 ≤ n) (h8 : n ≤ 8) (h : relB n a xs = true) : xs.length ≤ 512 := by
  have h2 := relB_ar h
  have h3 := relB_len (n := n) (a := a) (xs := xs) (by omega) (by omega) (by simp only [relB, Bool.and_eq_true] at h; exact h.2)
  have h4 := pw_512' n h1 h8 a.toNat (by omega)
  omega
theorem ask_ok {n : Int} {k : Nat} {tb : List Int} {ar : Nat} {xs : List (List Int)} (hr : relOk n ar xs = true) (ho : opB n k tb = true) (hp : pw (xs.length : Int) k ≤ 1073741824) : BrOk n k tb ar xs := by
  obtain ⟨⟨h1, h8⟩, hB⟩ := relOk_rel2 hr
  obtain ⟨k', hk, h3, h4, h5⟩ := opB_facts ho
  obtain rfl : k = k' := by omega
  have h6 := relB_ar hB
  have h7 := relB_small h1 h8 hB
  exact ⟨h1, h8, h3, h4, h5, by omega, fun t ht => ⟨by have := relB_len2 hB t ht; omega, relB_el hB t ht⟩, by omega, hp, relB_sorted hB⟩

set_option maxRecDepth 10000 in
set_option maxHeartbeats 1000000 in
theorem canKeep_c (n a : Int) (tb : List Int) (ar : Int) (xs : List (List Int)) (ht0 : tb.length ≤ 4611686018427387904) (hl : xs.length ≤ 4611686018427387904) (hr : ∀ t ∈ xs, t.length ≤ 4611686018427387904) :
    Spec Try.prog 107 [vint n, vagg [vint a, vsl 1 (fun x : Int => [vint x]) tb], vagg [vint ar, vsl 1 (fun t : List Int => [vsl 1 (fun x : Int => [vint x]) t]) xs]] [] (fun r S' => r = vbool (askB n a tb ar xs) ∧ S' = []) := by
  have ht := hasRelation_c n ar xs hl hr
  have ho := fun h1 h8 => isOp_c n a tb h1 h8 ht0
  simp only [askB]
  refine Spec.of_run2 (n := 24) Try.func107 rfl Try.results107 Try.ntmps107 rfl ?_
  cases hrel : relOk n ar xs with
  | false =>
    simp only [hrel] at ht
    repeat' (first | (with_reducible first | refine RL.done ?_ | refine RL.app0 ?_) | (with_reducible refine RL.wanted ?_ ?_; exact rfl) | ((with_reducible show RH _ _ _ ⟨some 4, .box _ _, _, _, _, _⟩ _ _ _ _); (refine RH.boxAgg rfl rfl ?_; rintro _ _ ⟨b4, rfl, rfl⟩)) | ((with_reducible show RH _ _ _ ⟨some 5, .box _ _, _, _, _, _⟩ _ _ _ _); (refine RH.boxAgg rfl rfl ?_; rintro _ _ ⟨b5, rfl, rfl⟩)) | ((with_reducible show RH _ _ _ ⟨_, .call ⟨.value (.func 67), _, _⟩, _, _, _, _⟩ _ _ _ _); refine RH.cP Try.call67 ?_; refine ⟨_, ht, ?_⟩; rintro _ _ ⟨rfl, rfl⟩) | ((with_reducible show RH _ _ _ _ _ _ _ _); refine RH.val (hK := ?_)) | (with_reducible show RL _ _ _ (_ :: _) _ _ _; refine RL.guardNoS rfl rfl rfl rfl rfl rfl ?_) | (with_reducible first | refine Run.seq ?_ | refine Run.region ?_ | refine Run.ret ?_) | (with_reducible refine seqN (K := Run _ _ _ _) ?_))
    refine ⟨eA, _, [], resA, .ch .nil, ?_⟩; exact ⟨rfl, rfl⟩
  | true =>
    simp only [hrel] at ht
    obtain ⟨⟨h1, h8⟩, hB⟩ := relOk_rel2 hrel
    have hsm := relB_small h1 h8 hB
    cases hop : opB n a tb with
    | false =>
      simp only [hop] at ho
      repeat' (first | (with_reducible first | refine RL.done ?_ | refine RL.app0 ?_) | (with_reducible refine RL.wanted ?_ ?_; exact rfl) | ((with_reducible show RH _ _ _ ⟨some 4, .box _ _, _, _, _, _⟩ _ _ _ _); (refine RH.boxAgg rfl rfl ?_; rintro _ _ ⟨b4, rfl, rfl⟩)) | ((with_reducible show RH _ _ _ ⟨some 5, .box _ _, _, _, _, _⟩ _ _ _ _); (refine RH.boxAgg rfl rfl ?_; rintro _ _ ⟨b5, rfl, rfl⟩)) | ((with_reducible show RH _ _ _ ⟨_, .call ⟨.value (.func 67), _, _⟩, _, _, _, _⟩ _ _ _ _); refine RH.cP Try.call67 ?_; refine ⟨_, ht, ?_⟩; rintro _ _ ⟨rfl, rfl⟩) | ((with_reducible show RH _ _ _ ⟨_, .call ⟨.value (.func 109), _, _⟩, _, _, _, _⟩ _ _ _ _); refine RH.cP Try.call109 ?_; refine ⟨_, ho (by omega) (by omega), ?_⟩; rintro _ _ ⟨rfl, rfl⟩) | ((with_reducible show RH _ _ _ _ _ _ _ _); refine RH.val (hK := ?_)) | (with_reducible show RL _ _ _ (_ :: _) _ _ _; first | refine RL.guardYes rfl rfl rfl rfl ?_ | refine RL.guardNoS rfl rfl rfl rfl rfl rfl ?_) | (with_reducible first | refine Run.seq ?_ | refine Run.region ?_ | refine Run.ret ?_) | (with_reducible refine seqN (K := Run _ _ _ _) ?_))
      refine ⟨eA, _, [], resA, .ch .nil, ?_⟩; exact ⟨rfl, rfl⟩
    | true =>
      simp only [hop] at ho
      obtain ⟨k, rfl, hk, _, _⟩ := opB_facts hop
      have hpb := pw_bound (xs.length : Int) (by omega) (by omega) k hk
      repeat' (first | (with_reducible first | refine RL.done ?_ | refine RL.app0 ?_) | (with_reducible refine RL.wanted ?_ ?_; exact rfl) | ((with_reducible show RH _ _ _ ⟨some 4, .box _ _, _, _, _, _⟩ _ _ _ _); (refine RH.boxAgg rfl rfl ?_; rintro _ _ ⟨b4, rfl, rfl⟩)) | ((with_reducible show RH _ _ _ ⟨some 5, .box _ _, _, _, _, _⟩ _ _ _ _); (refine RH.boxAgg rfl rfl ?_; rintro _ _ ⟨b5, rfl, rfl⟩)) | ((with_reducible show RH _ _ _ ⟨_, .call ⟨.value (.func 67), _, _⟩, _, _, _, _⟩ _ _ _ _); refine RH.cP Try.call67 ?_; refine ⟨_, ht, ?_⟩; rintro _ _ ⟨rfl, rfl⟩) | ((with_reducible show RH _ _ _ ⟨_, .call ⟨.value (.func 109), _, _⟩, _, _, _, _⟩ _ _ _ _); refine RH.cP Try.call109 ?_; refine ⟨_, ho (by omega) (by omega), ?_⟩; rintro _ _ ⟨rfl, rfl⟩) | ((with_reducible show RH _ _ _ ⟨_, .call ⟨.value (.func 91), _, _⟩, _, _, _, _⟩ _ _ _ _); refine RH.cP Try.call91 ?_; refine ⟨_, power_c (xs.length : Int) k (by omega) (by omega) (by omega), ?_⟩; rintro _ _ ⟨rfl, rfl⟩) | ((with_reducible show RH _ _ _ _ _ _ _ _); refine RH.val (hK := ?_)) | (with_reducible show RL _ _ _ (_ :: _) _ _ _; refine RL.guardYes rfl rfl rfl rfl ?_) | (with_reducible first | refine Run.seq ?_ | refine Run.region ?_ | refine Run.ret ?_) | (with_reducible refine seqN (K := Run _ _ _ _) ?_))
      refine ⟨eA, _, [], resA, .ch .nil, ?_⟩; exact ⟨rfl, rfl⟩


def keepV (n a : Int) (tb : List Int) (ar : Int) (xs : List (List Int)) : Bool := askB n a tb ar xs && !(brkF n a.toNat tb ar.toNat xs).isSome
theorem ask_at {n a : Int} {tb : List Int} {ar : Int} {xs : List (List Int)} (h : askB n a tb ar xs = true) : ∃ (k r : Nat), a = k ∧ ar = r ∧ BrOk n k tb r xs := by
  simp only [askB, Bool.and_eq_true, decide_eq_true_eq] at h
  obtain ⟨⟨h1, h2⟩, h3⟩ := h
  obtain ⟨k, rfl, h4, _, _⟩ := opB_facts h2
  have h5 := relB_ar (relOk_rel2 h1).2
  obtain ⟨r, rfl⟩ : ∃ r : Nat, ar = r := ⟨ar.toNat, by omega⟩
  exact ⟨k, r, rfl, rfl, ask_ok h1 h2 (by simp only [Int.toNat_natCast] at h3; omega)⟩
set_option maxRecDepth 10000 in
theorem implDoesKeep_c (n a : Int) (tb : List Int) (ar : Int) (xs : List (List Int)) (ht : tb.length ≤ 4611686018427387904) (hl : xs.length ≤ 4611686018427387904) (hr : ∀ t ∈ xs, t.length ≤ 4611686018427387904) :
    Spec Try.prog 34 [vint n, vagg [vint a, vsl 1 (fun x : Int => [vint x]) tb], vagg [vint ar, vsl 1 (fun t : List Int => [vsl 1 (fun x : Int => [vint x]) t]) xs]] [] (fun r S' => r = vtup [vbool (keepV n a tb ar xs), vbool (askB n a tb ar xs)] ∧ S' = []) := by
  have hA := canKeep_c n a tb ar xs ht hl hr
  simp only [keepV]
  refine Spec.of_run2 (n := 26) Try.func34 rfl Try.results34 Try.ntmps34 rfl ?_
  cases h : askB n a tb ar xs with
  | false =>
    simp only [h] at hA
    repeat' (first | (with_reducible first | refine RL.done ?_ | refine RL.app0 ?_) | (with_reducible refine RL.wanted ?_ ?_; exact rfl) | ((with_reducible show RH _ _ _ ⟨some 4, .box _ _, _, _, _, _⟩ _ _ _ _); (refine RH.boxAgg rfl rfl ?_; rintro _ _ ⟨b4, rfl, rfl⟩)) | ((with_reducible show RH _ _ _ ⟨some 5, .box _ _, _, _, _, _⟩ _ _ _ _); (refine RH.boxAgg rfl rfl ?_; rintro _ _ ⟨b5, rfl, rfl⟩)) | ((with_reducible show RH _ _ _ ⟨_, .call ⟨.value (.func 107), _, _⟩, _, _, _, _⟩ _ _ _ _); refine RH.cP Try.call107 ?_; refine ⟨_, hA, ?_⟩; rintro _ _ ⟨rfl, rfl⟩) | ((with_reducible show RH _ _ _ _ _ _ _ _); refine RH.val (hK := ?_)) | (with_reducible first | refine Run.seq ?_ | refine Run.region ?_ | refine Run.ret ?_) | (with_reducible show Run _ _ (.cond _ _ _) _ _ _; refine Run.condT rfl ?_) | (with_reducible first | refine seqN (K := Run _ _ _ _) ?_ | refine seqR ?_))
    refine ⟨eA, _, [], resA, .ch .nil, ?_⟩; exact ⟨rfl, rfl⟩
  | true =>
    simp only [h] at hA
    obtain ⟨k, q, rfl, rfl, hb⟩ := ask_at h
    repeat' (first | (with_reducible first | refine RL.done ?_ | refine RL.app0 ?_ | refine RL.app2 ?_) | (with_reducible refine RL.wanted ?_ ?_; exact rfl) | ((with_reducible show RH _ _ _ ⟨some 4, .box _ _, _, _, _, _⟩ _ _ _ _); (refine RH.boxAgg rfl rfl ?_; rintro _ _ ⟨b4, rfl, rfl⟩)) | ((with_reducible show RH _ _ _ ⟨some 5, .box _ _, _, _, _, _⟩ _ _ _ _); (refine RH.boxAgg rfl rfl ?_; rintro _ _ ⟨b5, rfl, rfl⟩)) | ((with_reducible show RH _ _ _ ⟨_, .call ⟨.value (.func 107), _, _⟩, _, _, _, _⟩ _ _ _ _); refine RH.cP Try.call107 ?_; refine ⟨_, hA, ?_⟩; rintro _ _ ⟨rfl, rfl⟩) | ((with_reducible show RH _ _ _ ⟨_, .call ⟨.value (.func 108), _, _⟩, _, _, _, _⟩ _ _ _ _); refine RH.cP Try.call108 ?_; refine ⟨_, firstBreak_c n k tb q xs hb, ?_⟩; rintro _ _ ⟨s1, s2, rfl, rfl⟩) | ((with_reducible show RH _ _ _ _ _ _ _ _); refine RH.val (hK := ?_)) | (with_reducible first | refine Run.seq ?_ | refine Run.region ?_ | refine Run.skip ?_ | refine Run.ret ?_) | (with_reducible show Run _ _ (.cond _ _ _) _ _ _; refine Run.condF rfl ?_) | (with_reducible refine seqN (K := Run _ _ _ _) ?_))
    refine ⟨eA, _, [], resA, .ch .nil, ?_⟩; exact ⟨rfl, rfl⟩
end Go.Proofs.Ytiifdhdhjioefaa
