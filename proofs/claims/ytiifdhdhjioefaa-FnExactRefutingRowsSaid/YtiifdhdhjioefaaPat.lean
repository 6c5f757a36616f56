/- The patterns of a condition: spec.l12Place, l15Patterns, PatternsOf, impl.patternAt, patternsOf, PatternsOf: the same answer. Proved for this program; conditions: lengths below 2^46. -/
import Derived.Test.YtiifdhdhjioefaaCond
import Derived.Test.YtiifdhdhjioefaaTup
import Derived.Test.YtiifdhdhjioefaaOwn
namespace Go.Proofs.Ytiifdhdhjioefaa
open Go Go.Proofs
set_option linter.unusedVariables false

/-- where a list stands, or -1 -/
def placeAt : List (List Int) → List Int → Int
  | [], _ => -1
  | x :: xs, p => if x = p then 0 else if placeAt xs p < 0 then -1 else placeAt xs p + 1
theorem placeAt_none {xs : List (List Int)} {p : List Int} (h : ∀ x ∈ xs, x ≠ p) : placeAt xs p = -1 := by
  induction xs with
  | nil => rfl
  | cons x xs ih =>
    rw [placeAt, if_neg (h x (by simp)), ih (fun y hy => h y (by simp [hy]))]; rfl
theorem placeAt_at {xs : List (List Int)} {p : List Int} {j : Nat} (hj : j < xs.length) (h : ∀ i (hi : i < xs.length), i < j → xs[i] ≠ p) (he : xs[j] = p) : placeAt xs p = j := by
  induction xs generalizing j with
  | nil => simp at hj
  | cons x xs ih =>
    cases j with
    | zero => simp only [List.getElem_cons_zero] at he; rw [placeAt, if_pos he]; rfl
    | succ j =>
      have h0 := h 0 (by simp) (by omega)
      simp only [List.getElem_cons_zero] at h0
      have := ih (j := j) (by simpa using hj) (fun i hi hij => h (i + 1) (by simpa using hi) (by omega)) (by simpa using he)
      rw [placeAt, if_neg h0, this, if_neg (by omega)]; omega
theorem placeAt_le (xs : List (List Int)) (p : List Int) : -1 ≤ placeAt xs p ∧ placeAt xs p < xs.length := by
  induction xs with
  | nil => simp [placeAt]
  | cons x xs ih =>
    rw [placeAt]; simp only [List.length_cons]
    split
    · omega
    · split <;> omega
def addP (l : List (List Int)) (p : List Int) : List (List Int) := if placeAt l p < 0 then l ++ [p] else l
theorem addP_le (l : List (List Int)) (p : List Int) : (addP l p).length ≤ l.length + 1 := by unfold addP; split <;> simp
/-- the patterns of rules, as spec and as impl find them -/
def patStep (l : List (List Int)) (y : List Int × List Int) : List (List Int) := if 1 < (y.2.length : Int) then addP (addP l y.1) y.2 else addP l y.1
def pats (rs : List (List Int × List Int)) : List (List Int) := rs.foldl patStep []
theorem pats_succ (rs : List (List Int × List Int)) (j : Nat) (h : j < rs.length) : pats (rs.take (j + 1)) = patStep (pats (rs.take j)) rs[j] := by
  rw [pats, List.take_add_one, List.getElem?_eq_getElem h, List.foldl_append]; rfl
theorem patStep_le (l : List (List Int)) (y : List Int × List Int) : (patStep l y).length ≤ l.length + 2 := by
  have h1 := addP_le l y.1
  have h2 := addP_le (addP l y.1) y.2
  unfold patStep; split <;> omega
theorem pats_le (rs : List (List Int × List Int)) (j : Nat) : (pats (rs.take j)).length ≤ 2 * j := by
  induction j with
  | zero => simp [pats]
  | succ j ih =>
    rcases Nat.lt_or_ge j rs.length with h | h
    · rw [pats_succ rs j h]; have := patStep_le (pats (rs.take j)) rs[j]; omega
    · rw [List.take_of_length_le (by omega)]; rw [List.take_of_length_le h] at ih; omega
def PatLen (l : List (List Int)) : Prop := ∀ t ∈ l, t.length ≤ 3
theorem addP_len {l : List (List Int)} {p : List Int} (h : PatLen l) (hp : p.length ≤ 3) : PatLen (addP l p) := by
  unfold addP; split
  · intro t ht
    rcases List.mem_append.1 ht with h1 | h1
    · exact h t h1
    · simp at h1; subst h1; exact hp
  · exact h
theorem pats_len {rs : List (List Int × List Int)} (hr : ∀ y ∈ rs, y.1.length ≤ 3 ∧ y.2.length ≤ 3) (j : Nat) : PatLen (pats (rs.take j)) := by
  induction j with
  | zero => intro t ht; simp [pats] at ht
  | succ j ih =>
    rcases Nat.lt_or_ge j rs.length with h | h
    · rw [pats_succ rs j h]
      obtain ⟨h1, h2⟩ := hr _ (List.getElem_mem h)
      unfold patStep; split
      · exact addP_len (addP_len ih h1) h2
      · exact addP_len ih h1
    · rw [List.take_of_length_le (by omega)]; rwa [List.take_of_length_le h] at ih
theorem condB_rules {a : Int} {rs : List (List Int × List Int)} (h : condB a rs = true) : (2 ≤ a ∧ a ≤ 3) ∧ rs.length ≤ 6 ∧ ∀ y ∈ rs, (y.1.length : Int) = a ∧ ((y.2.length : Int) = a ∨ y.2.length = 1) := by
  simp only [condB, Bool.and_eq_true, decide_eq_true_eq, List.all_eq_true] at h
  refine ⟨h.1, by omega, fun y hy => ?_⟩
  have := h.2.2 y hy
  simp only [ruleB, varB, Bool.and_eq_true, Bool.or_eq_true, decide_eq_true_eq] at this
  exact ⟨this.1.1, this.2.elim (fun h => .inl h.1) (fun h => .inr (by omega))⟩

set_option maxRecDepth 10000 in
theorem l12Place_c (xs : List (List Int)) (p : List Int) (hl : xs.length ≤ 4611686018427387904) (hr : ∀ t ∈ xs, t.length ≤ 4611686018427387904) :
    Spec Try.prog 184 [vsl 1 (fun t : List Int => [vsl 1 (fun x : Int => [vint x]) t]) xs, vsl 1 (fun x : Int => [vint x]) p] [] (fun r S' => r = vint (placeAt xs p) ∧ S' = []) := by
  refine Spec.of_run2 (n := 19) Try.func184 rfl Try.results184 Try.ntmps184 rfl ?_
  repeat' (first | (with_reducible refine RL.done ?_) | (with_reducible refine RL.wanted ?_ ?_; exact rfl) | ((with_reducible show RH _ _ _ _ _ _ _ _); refine RH.val (hK := ?_)) | (with_reducible first | refine Run.seq ?_ | refine Run.region ?_ | refine Run.block ?_) | (with_reducible refine seqN (K := Run _ _ _ _) ?_))
  refine Run.loop (α := Nat) (fun j => [(0, vsl 1 (fun t : List Int => [vsl 1 (fun x : Int => [vint x]) t]) xs), (1, vsl 1 (fun x : Int => [vint x]) p), (5, vint (j : Int))]) (fun _ => []) (fun j => j ≤ xs.length ∧ ∀ i (hi : i < xs.length), i < j → xs[i] ≠ p) (fun j => xs.length - j) 0 ⟨Nat.zero_le _, fun i hi h => by omega⟩ (Ent.of slA chA) ?_
  rintro j ⟨hj, hn⟩
  repeat' (first | (with_reducible first | refine RL.done ?_ | refine RL.app0 ?_) | (with_reducible refine RL.wanted ?_ ?_; exact rfl) | ((with_reducible show RH _ _ _ ⟨_, .call ⟨.value (.func 150), _, _⟩, _, _, _, _⟩ _ _ _ _); refine RH.cP Try.call150 ?_; refine ⟨_, l1Same_c _ _ (hr _ (List.getElem_mem _)), ?_⟩; rintro _ _ ⟨rfl, rfl⟩) | ((with_reducible show RH _ _ _ _ _ _ _ _); refine RH.val (hK := ?_)) | (with_reducible first | refine Run.seq ?_ | refine Run.region ?_ | refine Run.block ?_ | refine Run.skip ?_ | refine Run.exit ?_ | refine Run.ret ?_) | (with_reducible show Run _ _ (.cond _ _ _) _ _ _; refine Run.condD rfl (fun h => ?_) (fun h => ?_)) | (with_reducible first | refine seqN (K := Run _ _ _ _) ?_ | refine seqE ?_ | refine seqR ?_ | refine blockN ?_ | refine blockR ?_ | refine blockE ?_))
  · refine ⟨eA, _, [], resA, .ch .nil, ?_⟩
    exact ⟨by rw [placeAt_at (by omega) hn (by assumption)]; rfl, rfl⟩
  · with_reducible refine seqN ?_
    have h5 : ¬ xs[j] = p := by assumption
    refine ⟨j + 1, ⟨by omega, fun i hi h => ?_⟩, by omega, Ent.of slA chA⟩
    rcases Nat.lt_or_eq_of_le (Nat.le_of_lt_succ h) with h | rfl
    · exact hn i hi h
    · exact h5
  · refine ⟨eA, _, [], resA, .ch .nil, ?_⟩
    exact ⟨by rw [placeAt_none (fun x hx => by obtain ⟨i, hi, rfl⟩ := List.getElem_of_mem hx; exact hn i hi (by omega))]; rfl, rfl⟩

set_option maxRecDepth 10000 in
theorem patternAt_c (xs : List (List Int)) (p : List Int) (hl : xs.length ≤ 4611686018427387904) (hp : p.length ≤ 4611686018427387904) :
    Spec Try.prog 190 [vsl 1 (fun t : List Int => [vsl 1 (fun x : Int => [vint x]) t]) xs, vsl 1 (fun x : Int => [vint x]) p] [] (fun r S' => r = vint (placeAt xs p) ∧ S' = []) := by
  refine Spec.of_run2 (n := 19) Try.func190 rfl Try.results190 Try.ntmps190 rfl ?_
  repeat' (first | (with_reducible refine RL.done ?_) | (with_reducible refine RL.wanted ?_ ?_; exact rfl) | ((with_reducible show RH _ _ _ _ _ _ _ _); refine RH.val (hK := ?_)) | (with_reducible first | refine Run.seq ?_ | refine Run.region ?_ | refine Run.block ?_) | (with_reducible refine seqN (K := Run _ _ _ _) ?_))
  refine Run.loop (α := Nat) (fun j => [(1, vsl 1 (fun x : Int => [vint x]) p), (7, vsl 1 (fun t : List Int => [vsl 1 (fun x : Int => [vint x]) t]) xs), (8, vint (xs.length : Int)), (9, vint (j : Int))]) (fun _ => []) (fun j => j ≤ xs.length ∧ ∀ i (hi : i < xs.length), i < j → xs[i] ≠ p) (fun j => xs.length - j) 0 ⟨Nat.zero_le _, fun i hi h => by omega⟩ (Ent.of slA chA) ?_
  rintro j ⟨hj, hn⟩
  repeat' (first | (with_reducible first | refine RL.done ?_ | refine RL.app0 ?_) | (with_reducible refine RL.wanted ?_ ?_; exact rfl) | ((with_reducible show RH _ _ _ ⟨_, .call ⟨.value (.func 80), _, _⟩, _, _, _, _⟩ _ _ _ _); refine RH.cP Try.call80 ?_; refine ⟨_, sameList_c _ _ hp, ?_⟩; rintro _ _ ⟨rfl, rfl⟩) | ((with_reducible show RH _ _ _ _ _ _ _ _); refine RH.val (hK := ?_)) | (with_reducible first | refine Run.seq ?_ | refine Run.region ?_ | refine Run.block ?_ | refine Run.skip ?_ | refine Run.exit ?_ | refine Run.ret ?_) | (with_reducible show Run _ _ (.cond _ _ _) _ _ _; refine Run.condD rfl (fun h => ?_) (fun h => ?_)) | (with_reducible first | refine seqN (K := Run _ _ _ _) ?_ | refine seqE ?_ | refine seqR ?_ | refine blockN ?_ | refine blockR ?_ | refine blockE ?_))
  · refine ⟨eA, _, [], resA, .ch .nil, ?_⟩
    exact ⟨by rw [placeAt_at (by omega) hn (Eq.symm (by assumption))]; rfl, rfl⟩
  · with_reducible refine seqN ?_
    have h5 : ¬ p = xs[j] := by assumption
    refine ⟨j + 1, ⟨by omega, fun i hi h => ?_⟩, by omega, Ent.of slA chA⟩
    rcases Nat.lt_or_eq_of_le (Nat.le_of_lt_succ h) with h | rfl
    · exact hn i hi h
    · exact fun e => h5 e.symm
  · refine ⟨eA, _, [], resA, .ch .nil, ?_⟩
    exact ⟨by rw [placeAt_none (fun x hx => by obtain ⟨i, hi, rfl⟩ := List.getElem_of_mem hx; exact hn i hi (by omega))]; rfl, rfl⟩

end Go.Proofs.Ytiifdhdhjioefaa
