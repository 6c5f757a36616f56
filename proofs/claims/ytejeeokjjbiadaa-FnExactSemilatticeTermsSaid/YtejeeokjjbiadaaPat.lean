/- The patterns of a condition: spec.l12Place, l15Patterns, PatternsOf, impl.patternAt, patternsOf, PatternsOf: the same answer. Proved for this program; conditions: lengths below 2^46. -/
import Derived.Test.YtejeeokjjbiadaaCond
import Derived.Test.YtejeeokjjbiadaaTup
import Derived.Test.YtejeeokjjbiadaaOwn
namespace Go.Proofs.Ytejeeokjjbiadaa
open Go Go.Proofs
set_option linter.unusedVariables false

/-- where a list stands, or -1 -/
def placeAt : List (List Int) → List Int → Int
  | [], _ => -1
  | x :: xs, p => if x = p then 0 else if placeAt xs p < 0 then -1 else placeAt xs p + 1
theorem placeAt_none {xs : List (List Int)} {p : List Int} (h : ∀ x ∈ xs, x ≠ p) : placeAt xs p = -1 := by
  induction xs with
  | nil => rfl
  | cons x xs ih =>
    rw [placeAt, if_neg (h x (by simp)), ih (fun y hy => h y (by simp [hy]))]; rfl
theorem placeAt_at {xs : List (List Int)} {p : List Int} {j : Nat} (hj : j < xs.length) (h : ∀ i (hi : i < xs.length), i < j → xs[i] ≠ p) (he : xs[j] = p) : placeAt xs p = j := by
  induction xs generalizing j with
  | nil => simp at hj
  | cons x xs ih =>
    cases j with
    | zero => simp only [List.getElem_cons_zero] at he; rw [placeAt, if_pos he]; rfl
    | succ j =>
      have h0 := h 0 (by simp) (by omega)
      simp only [List.getElem_cons_zero] at h0
      have := ih (j := j) (by simpa using hj) (fun i hi hij => h (i + 1) (by simpa using hi) (by omega)) (by simpa using he)
      rw [placeAt, if_neg h0, this, if_neg (by omega)]; omega
theorem placeAt_le (xs : List (List Int)) (p : List Int) : -1 ≤ placeAt xs p ∧ placeAt xs p < xs.length := by
  induction xs with
  | nil => simp [placeAt]
  | cons x xs ih =>
    rw [placeAt]; simp only [List.length_cons]
    split
    · omega
    · split <;> omega
set_option maxRecDepth 10000 in
theorem l12Place_c (xs : List (List Int)) (p : List Int) (hl : xs.length ≤ 4611686018427387904) (hr : ∀ t ∈ xs, t.length ≤ 4611686018427387904) :
    Spec Try.prog 118 [vsl 1 (fun t : List Int => [vsl 1 (fun x : Int => [vint x]) t]) xs, vsl 1 (fun x : Int => [vint x]) p] [] (fun r S' => r = vint (placeAt xs p) ∧ S' = []) := by
  refine Spec.of_run2 (n := 19) Try.func118 rfl Try.results118 Try.ntmps118 rfl ?_
  repeat' (first | (with_reducible refine RL.done ?_) | (with_reducible refine RL.wanted ?_ ?_; exact rfl) | ((with_reducible show RH _ _ _ _ _ _ _ _); refine RH.val (hK := ?_)) | (with_reducible first | refine Run.seq ?_ | refine Run.region ?_ | refine Run.block ?_) | (with_reducible refine seqN (K := Run _ _ _ _) ?_))
  refine Run.loop (α := Nat) (fun j => [(0, vsl 1 (fun t : List Int => [vsl 1 (fun x : Int => [vint x]) t]) xs), (1, vsl 1 (fun x : Int => [vint x]) p), (5, vint (j : Int))]) (fun _ => []) (fun j => j ≤ xs.length ∧ ∀ i (hi : i < xs.length), i < j → xs[i] ≠ p) (fun j => xs.length - j) 0 ⟨Nat.zero_le _, fun i hi h => by omega⟩ (Ent.of slA chA) ?_
  rintro j ⟨hj, hn⟩
  repeat' (first | (with_reducible first | refine RL.done ?_ | refine RL.app0 ?_) | (with_reducible refine RL.wanted ?_ ?_; exact rfl) | ((with_reducible show RH _ _ _ ⟨_, .call ⟨.value (.func 158), _, _⟩, _, _, _, _⟩ _ _ _ _); refine RH.cP Try.call158 ?_; refine ⟨_, l1Same_c _ _ (hr _ (List.getElem_mem _)), ?_⟩; rintro _ _ ⟨rfl, rfl⟩) | ((with_reducible show RH _ _ _ _ _ _ _ _); refine RH.val (hK := ?_)) | (with_reducible first | refine Run.seq ?_ | refine Run.region ?_ | refine Run.block ?_ | refine Run.skip ?_ | refine Run.exit ?_ | refine Run.ret ?_) | (with_reducible show Run _ _ (.cond _ _ _) _ _ _; refine Run.condD rfl (fun h => ?_) (fun h => ?_)) | (with_reducible first | refine seqN (K := Run _ _ _ _) ?_ | refine seqE ?_ | refine seqR ?_ | refine blockN ?_ | refine blockR ?_ | refine blockE ?_))
  · refine ⟨eA, _, [], resA, .ch .nil, ?_⟩
    exact ⟨by rw [placeAt_at (by omega) hn (by assumption)]; rfl, rfl⟩
  · with_reducible refine seqN ?_
    have h5 : ¬ xs[j] = p := by assumption
    refine ⟨j + 1, ⟨by omega, fun i hi h => ?_⟩, by omega, Ent.of slA chA⟩
    rcases Nat.lt_or_eq_of_le (Nat.le_of_lt_succ h) with h | rfl
    · exact hn i hi h
    · exact h5
  · refine ⟨eA, _, [], resA, .ch .nil, ?_⟩
    exact ⟨by rw [placeAt_none (fun x hx => by obtain ⟨i, hi, rfl⟩ := List.getElem_of_mem hx; exact hn i hi (by omega))]; rfl, rfl⟩

end Go.Proofs.Ytejeeokjjbiadaa
