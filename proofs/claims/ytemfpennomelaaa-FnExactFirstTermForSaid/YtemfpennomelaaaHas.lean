/- The place of a tuple in a list in order, and whether it is there: spec.l8Find, l13Has. Proved for this program; conditions: a list in order of tuples of one length, lengths below 2^62. -/
import Derived.Test.YtemfpennomelaaaRelV
namespace Go.Proofs.Ytemfpennomelaaa
open Go Go.Proofs
set_option linter.unusedVariables false

/-- each is before all that follow -/
def Sorted (xs : List (List Int)) : Prop := ∀ i j (hi : i < j) (hj : j < xs.length), less (xs[i]'(by omega)) xs[j] = true
/-- how many are before t -/
def placeOf (xs : List (List Int)) (t : List Int) : Nat := (xs.takeWhile fun u => less u t).length
theorem placeOf_eq {xs : List (List Int)} {t : List Int} {p : Nat} (hp : p ≤ xs.length) (h1 : ∀ i (hi : i < xs.length), i < p → less xs[i] t = true) (h2 : ∀ i (hi : i < xs.length), p ≤ i → less xs[i] t = false) : placeOf xs t = p := by
  induction xs generalizing p with
  | nil => simp [placeOf] at *; omega
  | cons u xs ih =>
    cases p with
    | zero => have := h2 0 (by simp) (by omega); simp at this; simp [placeOf, List.takeWhile, this]
    | succ p =>
      have h0 := h1 0 (by simp) (by omega)
      simp only [List.getElem_cons_zero] at h0
      have := ih (p := p) (by simpa using hp) (fun i hi h => h1 (i + 1) (by simpa using hi) (by omega)) (fun i hi h => h2 (i + 1) (by simpa using hi) (by omega))
      simp only [placeOf] at this
      simp [placeOf, List.takeWhile, h0, this]
theorem there_iff {xs : List (List Int)} {t : List Int} {p : Nat} (hs : Sorted xs) (h1 : ∀ i (hi : i < xs.length), i < p → less xs[i] t = true) (h2 : ∀ i (hi : i < xs.length), p ≤ i → less xs[i] t = false) (hp : p < xs.length) : t ∈ xs ↔ xs[p] = t := by
  constructor
  · intro ht
    obtain ⟨i, hi, rfl⟩ := List.getElem_of_mem ht
    rcases Nat.lt_trichotomy i p with h | rfl | h
    · have := h1 i hi h; rw [less_irrefl] at this; cases this
    · rfl
    · have h3 := hs p i h hi
      have h4 := h2 p hp (Nat.le_refl _)
      rw [h3] at h4; cases h4
  · rintro rfl; exact List.getElem_mem hp
theorem there_no {xs : List (List Int)} {t : List Int} (h1 : ∀ i (hi : i < xs.length), less xs[i] t = true) : t ∉ xs := fun ht => by
  obtain ⟨i, hi, rfl⟩ := List.getElem_of_mem ht
  have := h1 i hi; rw [less_irrefl] at this; cases this

set_option maxRecDepth 10000 in
theorem l8Find_c (xs : List (List Int)) (t : List Int) (hl : xs.length ≤ 4611686018427387904) (ht : t.length ≤ 4611686018427387904) (hr : ∀ u ∈ xs, u.length = t.length) (hs : Sorted xs) :
    Spec Try.prog 23 [vsl 1 (fun t : List Int => [vsl 1 (fun x : Int => [vint x]) t]) xs, vsl 1 (fun x : Int => [vint x]) t] [] (fun r S' => r = vtup [vint (placeOf xs t : Int), vbool (decide (t ∈ xs))] ∧ S' = []) := by
  refine Spec.of_run2 (n := 40) Try.func23 rfl Try.results23 Try.ntmps23 rfl ?_
  repeat' (first | (with_reducible refine RL.done ?_) | (with_reducible refine RL.wanted ?_ ?_; exact rfl) | ((with_reducible show RH _ _ _ _ _ _ _ _); refine RH.val (hK := ?_)) | (with_reducible first | refine Run.seq ?_ | refine Run.region ?_ | refine Run.block ?_) | (with_reducible refine seqN (K := Run _ _ _ _) ?_))
  refine Run.loop (α := Nat × Nat) (fun z => [(0, vsl 1 (fun t : List Int => [vsl 1 (fun x : Int => [vint x]) t]) xs), (1, vsl 1 (fun x : Int => [vint x]) t), (6, vint (z.1 : Int)), (7, vint (z.2 : Int))]) (fun _ => []) (fun z => z.1 ≤ z.2 ∧ z.2 ≤ xs.length ∧ (∀ i (hi : i < xs.length), i < z.1 → less xs[i] t = true) ∧ (∀ i (hi : i < xs.length), z.2 ≤ i → less xs[i] t = false)) (fun z => z.2 - z.1) (0, xs.length) (by refine ⟨by simp, by simp, fun i hi h => by simp at h, fun i hi h => by simp at h; omega⟩) (Ent.of slA .refl) ?_
  rintro ⟨f, u⟩ ⟨h1, h2, h3, h4⟩
  dsimp only at h1 h2 h3 h4 ⊢
  repeat' (first | (with_reducible first | refine RL.done ?_ | refine RL.app0 ?_) | (with_reducible refine RL.wanted ?_ ?_; exact rfl) | ((with_reducible show RH _ _ _ ⟨_, .call ⟨.value (.func 44), _, _⟩, _, _, _, _⟩ _ _ _ _); refine RH.cP Try.call44 ?_; refine ⟨_, l3Less_c _ _ (Nat.le_of_eq (hr _ (List.getElem_mem _))) ht, ?_⟩; rintro _ _ ⟨rfl, rfl⟩) | ((with_reducible show RH _ _ _ ⟨_, .call ⟨.value (.func 45), _, _⟩, _, _, _, _⟩ _ _ _ _); refine RH.cP Try.call45 ?_; refine ⟨_, l1Same_c _ _ (by rw [hr _ (List.getElem_mem _)]; exact ht), ?_⟩; rintro _ _ ⟨rfl, rfl⟩) | ((with_reducible show RH _ _ _ _ _ _ _ _); refine RH.val (hK := ?_)) | (with_reducible show RL _ _ _ (_ :: _) _ _ _; first | refine RL.guardYes rfl rfl rfl rfl ?_ | refine RL.guardNoS rfl rfl rfl rfl rfl rfl ?_ | refine RL.splitD rfl rfl rfl (fun h => ?_) (fun h => ?_)) | (with_reducible first | refine Run.seq ?_ | refine Run.region ?_ | refine Run.block ?_ | refine Run.skip ?_ | refine Run.exit ?_ | refine Run.ret ?_) | (with_reducible show Run _ _ (.cond _ _ _) _ _ _; first | refine Run.condD rfl (fun h => ?_) (fun h => ?_) | refine Run.cond rfl (fun h => ?_) (fun h => ?_)) | (with_reducible first | refine seqN (K := Run _ _ _ _) ?_ | refine seqE ?_ | refine blockN ?_ | refine blockE ?_))
  · have e : (((f : Int) + u) / 2).toNat = (f + u) / 2 := by omega
    have h5 : less xs[(((f : Int) + u) / 2).toNat] t = true := by assumption
    simp only [e] at h5
    with_reducible refine seqN ?_
    refine ⟨((f + u) / 2 + 1, u), ⟨by (try dsimp only); omega, h2, fun i hi h => ?_, h4⟩, by (try dsimp only); omega, Ent.of (by (try dsimp only); exact slA) .refl⟩
    have h : i < (f + u) / 2 + 1 := h
    rcases Nat.lt_or_eq_of_le (Nat.le_of_lt_succ h) with h | rfl
    · exact less_trans (hs i _ h (by omega)) h5
    · exact h5
  · have e : (((f : Int) + u) / 2).toNat = (f + u) / 2 := by omega
    have h5 : less xs[(((f : Int) + u) / 2).toNat] t = false := by assumption
    simp only [e] at h5
    with_reducible refine seqN ?_
    refine ⟨(f, (f + u) / 2), ⟨by (try dsimp only); omega, by (try dsimp only); omega, h3, fun i hi h => ?_⟩, by (try dsimp only); omega, Ent.of (by (try dsimp only); exact slA) .refl⟩
    have h : (f + u) / 2 ≤ i := h
    rcases Nat.lt_or_eq_of_le h with h | rfl
    · cases h6 : less xs[i] t with
      | false => rfl
      | true => rw [less_trans (hs _ i h hi) h6] at h5; cases h5
    · exact h5
  · obtain rfl : f = u := by omega
    refine ⟨eA, _, [], resA, .ch .nil, ?_⟩
    refine ⟨?_, rfl⟩
    rw [placeOf_eq (p := f) (by omega) h3 h4]
    have h5 : f < xs.length := by omega
    have : decide (t ∈ xs) = decide (xs[f] = t) := decide_eq_decide.2 (there_iff hs h3 h4 h5)
    rw [this]; rfl
  · obtain rfl : f = u := by omega
    refine ⟨eA, _, [], resA, .ch .nil, ?_⟩
    refine ⟨?_, rfl⟩
    rw [placeOf_eq (p := f) (by omega) h3 h4, decide_eq_false (there_no fun i hi => h3 i hi (by omega))]; rfl

end Go.Proofs.Ytemfpennomelaaa
