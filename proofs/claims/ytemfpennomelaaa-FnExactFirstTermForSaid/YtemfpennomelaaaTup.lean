/- Lists in lexicographic order: spec.l3Less, l1Same, impl.compareLists, sameList. Proved for this program; conditions: lengths below 2^62. -/
import Derived.Test.YtemfpennomelaaaElem
import Derived.Test.YtemfpennomelaaaLawI
namespace Go.Proofs.Ytemfpennomelaaa
open Go Go.Proofs
set_option linter.unusedVariables false

/-- a is before b: at the first place where they differ -/
def less : List Int → List Int → Bool
  | x :: a, y :: b => if x = y then less a b else decide (x < y)
  | _, _ => false
def cmp : List Int → List Int → Int
  | x :: a, y :: b => if x = y then cmp a b else if x < y then -1 else 1
  | [], [] => 0
  | [], _ :: _ => -1
  | _ :: _, [] => 1

theorem less_at {a b : List Int} {j : Nat} (ht : a.take j = b.take j) (h1 : j < a.length) (h2 : j < b.length) (hne : a[j] ≠ b[j]) : less a b = decide (a[j] < b[j]) := by
  induction j generalizing a b with
  | zero =>
    cases a with
    | nil => simp at h1
    | cons x a => cases b with
      | nil => simp at h2
      | cons y b => simp only [List.getElem_cons_zero] at hne ⊢; simp [less, hne]
  | succ j ih =>
    cases a with
    | nil => simp at h1
    | cons x a => cases b with
      | nil => simp at h2
      | cons y b =>
        simp only [List.take_succ_cons, List.cons.injEq] at ht
        simp only [List.getElem_cons_succ] at hne ⊢
        rw [less, if_pos ht.1]; exact ih ht.2 (by simpa using h1) (by simpa using h2) hne
theorem less_end {a b : List Int} {j : Nat} (ht : a.take j = b.take j) (h : a.length ≤ j) : less a b = false := by
  induction j generalizing a b with
  | zero =>
    cases a with
    | nil => cases b <;> rfl
    | cons x a => simp at h
  | succ j ih =>
    cases a with
    | nil => cases b <;> rfl
    | cons x a => cases b with
      | nil => rfl
      | cons y b =>
        simp only [List.take_succ_cons, List.cons.injEq] at ht
        rw [less, if_pos ht.1]; exact ih ht.2 (by simpa using h)
theorem cmp_at {a b : List Int} {j : Nat} (ht : a.take j = b.take j) (h1 : j < a.length) (h2 : j < b.length) (hne : a[j] ≠ b[j]) : cmp a b = if a[j] < b[j] then -1 else 1 := by
  induction j generalizing a b with
  | zero =>
    cases a with
    | nil => simp at h1
    | cons x a => cases b with
      | nil => simp at h2
      | cons y b => simp only [List.getElem_cons_zero] at hne ⊢; simp [cmp, hne]
  | succ j ih =>
    cases a with
    | nil => simp at h1
    | cons x a => cases b with
      | nil => simp at h2
      | cons y b =>
        simp only [List.take_succ_cons, List.cons.injEq] at ht
        simp only [List.getElem_cons_succ] at hne ⊢
        rw [cmp, if_pos ht.1]; exact ih ht.2 (by simpa using h1) (by simpa using h2) hne
theorem cmp_end {a b : List Int} {j : Nat} (ht : a.take j = b.take j) (h : a.length ≤ j ∨ b.length ≤ j) (hj : j ≤ a.length) (hk : j ≤ b.length) : cmp a b = if a.length < b.length then -1 else if b.length < a.length then 1 else 0 := by
  induction j generalizing a b with
  | zero =>
    cases a with
    | nil => cases b <;> simp [cmp]
    | cons x a => cases b with
      | nil => simp [cmp]
      | cons y b => simp at h
  | succ j ih =>
    cases a with
    | nil => simp at hj
    | cons x a => cases b with
      | nil => simp at hk
      | cons y b =>
        simp only [List.take_succ_cons, List.cons.injEq] at ht
        rw [cmp, if_pos ht.1, ih ht.2 (by simpa using h) (by simpa using hj) (by simpa using hk)]
        simp
theorem cmp_less {a b : List Int} (h : a.length = b.length) : (0 ≤ cmp a b) ↔ less a b = false := by
  induction a generalizing b with
  | nil => cases b with
    | nil => simp [cmp, less]
    | cons y b => simp at h
  | cons x a ih => cases b with
    | nil => simp at h
    | cons y b =>
      simp only [cmp, less]
      split
      · exact ih (by simpa using h)
      · split
        · rename_i h1; simp [h1]
        · rename_i h1; simp [h1]
theorem less_trans {a b c : List Int} (h1 : less a b = true) (h2 : less b c = true) : less a c = true := by
  induction a generalizing b c with
  | nil => cases b <;> simp [less] at h1
  | cons x a ih => cases b with
    | nil => simp [less] at h1
    | cons y b => cases c with
      | nil => simp [less] at h2
      | cons z c =>
        simp only [less] at h1 h2 ⊢
        split at h1
        · rename_i e; subst e
          split at h2
          · rename_i e; rw [if_pos e]; exact ih h1 h2
          · rename_i e; rw [if_neg e]; exact h2
        · simp only [decide_eq_true_eq] at h1
          split at h2
          · rename_i h3 e; subst e; rw [if_neg h3]; simpa using h1
          · simp only [decide_eq_true_eq] at h2
            rw [if_neg (by omega)]; simp; omega
theorem less_irrefl (a : List Int) : less a a = false := by
  induction a with
  | nil => rfl
  | cons x a ih => simp [less, ih]

set_option maxRecDepth 10000 in
theorem l3Less_c (a b : List Int) (hl : a.length ≤ b.length) (hb : b.length ≤ 4611686018427387904) :
    Spec Try.prog 44 [vsl 1 (fun x : Int => [vint x]) a, vsl 1 (fun x : Int => [vint x]) b] [] (fun r S' => r = vbool (less a b) ∧ S' = []) := by
  refine Spec.of_run2 (n := 30) Try.func44 rfl Try.results44 Try.ntmps44 rfl ?_
  repeat' (first | (with_reducible refine RL.done ?_) | (with_reducible refine RL.wanted ?_ ?_; exact rfl) | ((with_reducible show RH _ _ _ _ _ _ _ _); refine RH.val (hK := ?_)) | (with_reducible first | refine Run.seq ?_ | refine Run.region ?_ | refine Run.block ?_) | (with_reducible refine seqN (K := Run _ _ _ _) ?_))
  refine Run.loop (α := Nat) (fun j => [(0, vsl 1 (fun x : Int => [vint x]) a), (1, vsl 1 (fun x : Int => [vint x]) b), (5, vint (j : Int))]) (fun _ => []) (fun j => j ≤ a.length ∧ a.take j = b.take j) (fun j => a.length - j) 0 (by simp) (Ent.of slA .refl) ?_
  rintro j ⟨hj, ht⟩
  repeat' (first | (with_reducible refine RL.done ?_) | (with_reducible refine RL.wanted ?_ ?_; exact rfl) | ((with_reducible show Run _ _ (.region 4 _ true) _ _ _); refine Run.regionD (fun i => false) rfl ?_; change RD _ _ _ _ _ _ 9 (dm 9 0) _ _) | ((with_reducible show RD _ _ 4 _ _ _ _ _ _ _); first | ((with_reducible show RD _ _ _ _ _ _ _ (dm 9 0) _ _); refine RD.tk 0 (dm 9 268) (dm 9 1) (hK := ?_)) | ((with_reducible show RD _ _ _ _ _ _ _ (dm 9 1) _ _); refine RD.tk 1 (dm 9 268) (dm 9 3) (hK := ?_)) | ((with_reducible show RD _ _ _ _ _ _ _ (dm 9 3) _ _); refine RD.tk 2 (dm 9 264) (dm 9 7) (hK := ?_)) | ((with_reducible show RD _ _ _ _ _ _ _ (dm 9 7) _ _); refine RD.tk 3 (dm 9 256) (dm 9 15) (hK := ?_)) | ((with_reducible show RD _ _ _ _ _ _ _ (dm 9 15) _ _); refine RD.tk 4 (dm 9 448) (dm 9 31) (hK := ?_)) | ((with_reducible show RD _ _ _ _ _ _ _ (dm 9 31) _ _); refine RD.tk 5 (dm 9 448) (dm 9 63) (hK := ?_)) | ((with_reducible show RD _ _ _ _ _ _ _ (dm 9 63) _ _); refine RD.tk 6 (dm 9 384) (dm 9 127) (hK := ?_)) | ((with_reducible show RD _ _ _ _ _ _ _ (dm 9 127) _ _); refine RD.tk 7 (dm 9 256) (dm 9 255) (hK := ?_)) | ((with_reducible show RD _ _ _ _ _ _ _ (dm 9 255) _ _); refine RD.tk 8 (dm 9 0) (dm 9 511) (hK := ?_)) | ((with_reducible show RD _ _ _ _ _ _ 0 _ _ _); refine RD.done (by kernel_rfl) ?_)) | ((with_reducible show Run _ _ (.region 5 _ true) _ _ _); refine Run.regionD (fun i => false) rfl ?_; change RD _ _ _ _ _ _ 10 (dm 10 0) _ _) | ((with_reducible show RD _ _ 5 _ _ _ _ _ _ _); first | ((with_reducible show RD _ _ _ _ _ _ _ (dm 10 0) _ _); refine RD.tk 0 (dm 10 780) (dm 10 1) (hK := ?_)) | ((with_reducible show RD _ _ _ _ _ _ _ (dm 10 1) _ _); refine RD.tk 1 (dm 10 780) (dm 10 3) (hK := ?_)) | ((with_reducible show RD _ _ _ _ _ _ _ (dm 10 3) _ _); refine RD.tk 2 (dm 10 776) (dm 10 7) (hK := ?_)) | ((with_reducible show RD _ _ _ _ _ _ _ (dm 10 7) _ _); refine RD.tk 3 (dm 10 768) (dm 10 15) (hK := ?_)) | ((with_reducible show RD _ _ _ _ _ _ _ (dm 10 15) _ _); refine RD.tk 4 (dm 10 960) (dm 10 31) (hK := ?_)) | ((with_reducible show RD _ _ _ _ _ _ _ (dm 10 31) _ _); refine RD.tk 5 (dm 10 960) (dm 10 63) (hK := ?_)) | ((with_reducible show RD _ _ _ _ _ _ _ (dm 10 63) _ _); refine RD.tk 6 (dm 10 896) (dm 10 127) (hK := ?_)) | ((with_reducible show RD _ _ _ _ _ _ _ (dm 10 127) _ _); refine RD.tk 7 (dm 10 768) (dm 10 255) (hK := ?_)) | ((with_reducible show RD _ _ _ _ _ _ _ (dm 10 255) _ _); refine RD.tk 8 (dm 10 512) (dm 10 511) (hK := ?_)) | ((with_reducible show RD _ _ _ _ _ _ _ (dm 10 511) _ _); refine RD.tk 9 (dm 10 0) (dm 10 1023) (hK := ?_)) | ((with_reducible show RD _ _ _ _ _ _ 0 _ _ _); refine RD.done (by kernel_rfl) ?_)) | ((with_reducible show RH _ _ _ _ _ _ _ _); refine RH.val (hK := ?_)) | (with_reducible first | refine Run.seq ?_ | refine Run.region ?_ | refine Run.block ?_ | refine Run.skip ?_ | refine Run.exit ?_ | refine Run.ret ?_) | (with_reducible show Run _ _ (.cond _ _ _) _ _ _; refine Run.condD rfl (fun h => ?_) (fun h => ?_)) | (with_reducible first | refine seqN (K := Run _ _ _ _) ?_ | refine seqE ?_ | refine seqR ?_ | refine blockN ?_ | refine blockR ?_ | refine blockE ?_))
  · refine ⟨eA, _, [], resA, .ch .nil, ?_⟩
    exact ⟨congrArg vbool (less_at ht (by omega) (by omega) (by assumption)).symm, rfl⟩
  · with_reducible refine seqN ?_
    exact ⟨j + 1, ⟨by omega, take_succ_eq (by omega) (by omega) ht (Decidable.not_not.1 (by assumption))⟩, by omega, Ent.of slA .refl⟩
  · refine ⟨eA, _, [], resA, .ch .nil, ?_⟩
    exact ⟨congrArg vbool (less_end ht (by omega)).symm, rfl⟩

set_option maxRecDepth 10000 in
theorem compareLists_c (a b : List Int) (hl : a.length ≤ 4611686018427387904) (hb : b.length ≤ 4611686018427387904) :
    Spec Try.prog 68 [vsl 1 (fun x : Int => [vint x]) a, vsl 1 (fun x : Int => [vint x]) b] [] (fun r S' => r = vint (cmp a b) ∧ S' = []) := by
  refine Spec.of_run2 (n := 48) Try.func68 rfl Try.results68 Try.ntmps68 rfl ?_
  repeat' (first | (with_reducible refine RL.done ?_) | (with_reducible refine RL.wanted ?_ ?_; exact rfl) | ((with_reducible show RH _ _ _ _ _ _ _ _); refine RH.val (hK := ?_)) | (with_reducible first | refine Run.seq ?_ | refine Run.region ?_ | refine Run.block ?_) | (with_reducible refine seqN (K := Run _ _ _ _) ?_))
  refine Run.loop (α := Nat) (fun j => [(0, vsl 1 (fun x : Int => [vint x]) a), (1, vsl 1 (fun x : Int => [vint x]) b), (5, vint (j : Int))]) (fun _ => []) (fun j => j ≤ a.length ∧ j ≤ b.length ∧ a.take j = b.take j) (fun j => a.length - j) 0 (by simp) (Ent.of slA .refl) ?_
  rintro j ⟨hj, hk, ht⟩
  repeat' (first | (with_reducible refine RL.done ?_) | (with_reducible refine RL.wanted ?_ ?_; exact rfl) | ((with_reducible show Run _ _ (.region 4 _ true) _ _ _); refine Run.regionD (fun i => false) rfl ?_; change RD _ _ _ _ _ _ 9 (dm 9 0) _ _) | ((with_reducible show RD _ _ 4 _ _ _ _ _ _ _); first | ((with_reducible show RD _ _ _ _ _ _ _ (dm 9 0) _ _); refine RD.tk 0 (dm 9 268) (dm 9 1) (hK := ?_)) | ((with_reducible show RD _ _ _ _ _ _ _ (dm 9 1) _ _); refine RD.tk 1 (dm 9 268) (dm 9 3) (hK := ?_)) | ((with_reducible show RD _ _ _ _ _ _ _ (dm 9 3) _ _); refine RD.tk 2 (dm 9 264) (dm 9 7) (hK := ?_)) | ((with_reducible show RD _ _ _ _ _ _ _ (dm 9 7) _ _); refine RD.tk 3 (dm 9 256) (dm 9 15) (hK := ?_)) | ((with_reducible show RD _ _ _ _ _ _ _ (dm 9 15) _ _); refine RD.tk 4 (dm 9 448) (dm 9 31) (hK := ?_)) | ((with_reducible show RD _ _ _ _ _ _ _ (dm 9 31) _ _); refine RD.tk 5 (dm 9 448) (dm 9 63) (hK := ?_)) | ((with_reducible show RD _ _ _ _ _ _ _ (dm 9 63) _ _); refine RD.tk 6 (dm 9 384) (dm 9 127) (hK := ?_)) | ((with_reducible show RD _ _ _ _ _ _ _ (dm 9 127) _ _); refine RD.tk 7 (dm 9 256) (dm 9 255) (hK := ?_)) | ((with_reducible show RD _ _ _ _ _ _ _ (dm 9 255) _ _); refine RD.tk 8 (dm 9 0) (dm 9 511) (hK := ?_)) | ((with_reducible show RD _ _ _ _ _ _ 0 _ _ _); refine RD.done (by kernel_rfl) ?_)) | ((with_reducible show Run _ _ (.region 5 _ true) _ _ _); refine Run.regionD (fun i => false) rfl ?_; change RD _ _ _ _ _ _ 9 (dm 9 0) _ _) | ((with_reducible show RD _ _ 5 _ _ _ _ _ _ _); first | ((with_reducible show RD _ _ _ _ _ _ _ (dm 9 0) _ _); refine RD.tk 0 (dm 9 268) (dm 9 1) (hK := ?_)) | ((with_reducible show RD _ _ _ _ _ _ _ (dm 9 1) _ _); refine RD.tk 1 (dm 9 268) (dm 9 3) (hK := ?_)) | ((with_reducible show RD _ _ _ _ _ _ _ (dm 9 3) _ _); refine RD.tk 2 (dm 9 264) (dm 9 7) (hK := ?_)) | ((with_reducible show RD _ _ _ _ _ _ _ (dm 9 7) _ _); refine RD.tk 3 (dm 9 256) (dm 9 15) (hK := ?_)) | ((with_reducible show RD _ _ _ _ _ _ _ (dm 9 15) _ _); refine RD.tk 4 (dm 9 448) (dm 9 31) (hK := ?_)) | ((with_reducible show RD _ _ _ _ _ _ _ (dm 9 31) _ _); refine RD.tk 5 (dm 9 448) (dm 9 63) (hK := ?_)) | ((with_reducible show RD _ _ _ _ _ _ _ (dm 9 63) _ _); refine RD.tk 6 (dm 9 384) (dm 9 127) (hK := ?_)) | ((with_reducible show RD _ _ _ _ _ _ _ (dm 9 127) _ _); refine RD.tk 7 (dm 9 256) (dm 9 255) (hK := ?_)) | ((with_reducible show RD _ _ _ _ _ _ _ (dm 9 255) _ _); refine RD.tk 8 (dm 9 0) (dm 9 511) (hK := ?_)) | ((with_reducible show RD _ _ _ _ _ _ 0 _ _ _); refine RD.done (by kernel_rfl) ?_)) | ((with_reducible show RH _ _ _ _ _ _ _ _); refine RH.val (hK := ?_)) | (with_reducible show RL _ _ _ (_ :: _) _ _ _; first | refine RL.guardYes rfl rfl rfl rfl ?_ | refine RL.guardNoS rfl rfl rfl rfl rfl rfl ?_ | refine RL.splitD rfl rfl rfl (fun h => ?_) (fun h => ?_)) | (with_reducible first | refine Run.seq ?_ | refine Run.region ?_ | refine Run.block ?_ | refine Run.skip ?_ | refine Run.exit ?_ | refine Run.ret ?_) | (with_reducible show Run _ _ (.cond _ _ _) _ _ _; first | refine Run.condF rfl ?_ | refine Run.condD rfl (fun h => ?_) (fun h => ?_)) | (with_reducible first | refine seqN (K := Run _ _ _ _) ?_ | refine seqE ?_ | refine seqR ?_ | refine blockN ?_ | refine blockR ?_ | refine blockE ?_))
  all_goals first
    | (refine ⟨eA, _, [], resA, .ch .nil, ?_⟩; exact ⟨congrArg vint (by rw [cmp_at ht (by omega) (by omega) (by assumption)]; simp [*]), rfl⟩)
    | (refine ⟨eA, _, [], resA, .ch .nil, ?_⟩; exact ⟨congrArg vint (by rw [cmp_end ht (by omega) hj hk]; split <;> first | rfl | omega | (split <;> first | rfl | omega)), rfl⟩)
    | (with_reducible refine seqN ?_; exact ⟨j + 1, ⟨by omega, by omega, take_succ_eq (by omega) (by omega) ht (Decidable.not_not.1 (by assumption))⟩, by omega, Ent.of slA .refl⟩)
set_option maxRecDepth 10000 in
theorem l1Same_c (xs ys : List Int) (hx : xs.length ≤ 4611686018427387904) :
    Spec Try.prog 45 [vsl 1 (fun x : Int => [vint x]) xs, vsl 1 (fun x : Int => [vint x]) ys] [] (fun r S' => r = vbool (decide (xs = ys)) ∧ S' = []) := by
  refine Spec.of_run2 (n := 26) Try.func45 rfl Try.results45 Try.ntmps45 rfl ?_
  repeat' (first | (with_reducible refine RL.done ?_) | (with_reducible refine RL.wanted ?_ ?_; exact rfl) | ((with_reducible show RH _ _ _ _ _ _ _ _); refine RH.val (hK := ?_)) | (with_reducible first | refine Run.seq ?_ | refine Run.region ?_ | refine Run.block ?_ | refine Run.skip ?_ | refine Run.ret ?_) | (with_reducible show Run _ _ (.cond _ _ _) _ _ _; refine Run.condD rfl (fun h => ?_) (fun h => ?_)) | (with_reducible first | refine seqN (K := Run _ _ _ _) ?_ | refine seqR ?_))
  · refine ⟨eA, _, [], resA, .ch .nil, ?_⟩
    exact ⟨congrArg vbool (decide_eq_false (fun e => by subst e; omega)).symm, rfl⟩
  · refine Run.loop (α := Nat) (fun j => [(0, vsl 1 (fun x : Int => [vint x]) xs), (1, vsl 1 (fun x : Int => [vint x]) ys), (5, vint (j : Int))]) (fun _ => []) (fun j => j ≤ xs.length ∧ xs.take j = ys.take j) (fun j => xs.length - j) 0 (by simp) (Ent.of slA .refl) ?_
    rintro j ⟨hj, ht⟩
    repeat' (first | (with_reducible refine RL.done ?_) | (with_reducible refine RL.wanted ?_ ?_; exact rfl) | ((with_reducible show Run _ _ (.region 6 _ true) _ _ _); refine Run.regionD (fun i => false) rfl ?_; change RD _ _ _ _ _ _ 9 (dm 9 0) _ _) | ((with_reducible show RD _ _ 6 _ _ _ _ _ _ _); first | ((with_reducible show RD _ _ _ _ _ _ _ (dm 9 0) _ _); refine RD.tk 0 (dm 9 268) (dm 9 1) (hK := ?_)) | ((with_reducible show RD _ _ _ _ _ _ _ (dm 9 1) _ _); refine RD.tk 1 (dm 9 268) (dm 9 3) (hK := ?_)) | ((with_reducible show RD _ _ _ _ _ _ _ (dm 9 3) _ _); refine RD.tk 2 (dm 9 264) (dm 9 7) (hK := ?_)) | ((with_reducible show RD _ _ _ _ _ _ _ (dm 9 7) _ _); refine RD.tk 3 (dm 9 256) (dm 9 15) (hK := ?_)) | ((with_reducible show RD _ _ _ _ _ _ _ (dm 9 15) _ _); refine RD.tk 4 (dm 9 448) (dm 9 31) (hK := ?_)) | ((with_reducible show RD _ _ _ _ _ _ _ (dm 9 31) _ _); refine RD.tk 5 (dm 9 448) (dm 9 63) (hK := ?_)) | ((with_reducible show RD _ _ _ _ _ _ _ (dm 9 63) _ _); refine RD.tk 6 (dm 9 384) (dm 9 127) (hK := ?_)) | ((with_reducible show RD _ _ _ _ _ _ _ (dm 9 127) _ _); refine RD.tk 7 (dm 9 256) (dm 9 255) (hK := ?_)) | ((with_reducible show RD _ _ _ _ _ _ _ (dm 9 255) _ _); refine RD.tk 8 (dm 9 0) (dm 9 511) (hK := ?_)) | ((with_reducible show RD _ _ _ _ _ _ 0 _ _ _); refine RD.done (by kernel_rfl) ?_)) | ((with_reducible show RH _ _ _ _ _ _ _ _); refine RH.val (hK := ?_)) | (with_reducible first | refine Run.seq ?_ | refine Run.region ?_ | refine Run.block ?_ | refine Run.skip ?_ | refine Run.exit ?_ | refine Run.ret ?_) | (with_reducible show Run _ _ (.cond _ _ _) _ _ _; refine Run.condD rfl (fun h => ?_) (fun h => ?_)) | (with_reducible first | refine seqN (K := Run _ _ _ _) ?_ | refine seqE ?_ | refine seqR ?_ | refine blockN ?_ | refine blockR ?_ | refine blockE ?_))
    · refine ⟨eA, _, [], resA, .ch .nil, ?_⟩
      exact ⟨congrArg vbool (decide_eq_false (fun e => by subst e; simp_all)).symm, rfl⟩
    · with_reducible refine seqN ?_
      exact ⟨j + 1, ⟨by omega, take_succ_eq (by omega) (by omega) ht (by simp_all)⟩, by omega, Ent.of slA .refl⟩
    · refine ⟨eA, _, [], resA, .ch .nil, ?_⟩
      exact ⟨congrArg vbool (decide_eq_true (eq_of_take (by omega) (by omega) ht)).symm, rfl⟩
end Go.Proofs.Ytemfpennomelaaa
