/- Valid relations: spec.l13Good, l13Takes, IsRelation, impl.isRelation, hasRelation, IsRelation: the same answer. Proved for this program; conditions: lengths below 2^62. -/
import Derived.Test.YtnnfadabhadihaaTup
namespace Go.Proofs.Ytnnfadabhadihaa
open Go Go.Proofs
set_option linter.unusedVariables false

theorem rangeAll_succ (f : Nat → Bool) (j : Nat) : (List.range (j + 1)).all f = ((List.range j).all f && f j) := by simp [List.range_succ]
theorem rangeAll_false (f : Nat → Bool) (j m : Nat) (h : j < m) (hf : f j = false) : (List.range m).all f = false := by
  rw [List.all_eq_false]; exact ⟨j, by simpa using h, by simp [hf]⟩
theorem rangeAll_at {f : Nat → Bool} {j m : Nat} (h : (List.range m).all f = true) (hj : j < m) : f j = true := by
  rw [List.all_eq_true] at h; exact h j (by simpa using hj)
theorem getD_at {α : Type} (p : List α) (d : α) (j : Nat) (h : j < p.length) : p.getD j d = p[j] := by simp [List.getD, h]

/-- tuple j is of length a, over n elements, and after the one before it -/
def tupAt (n a : Int) (xs : List (List Int)) (j : Nat) : Bool :=
  (decide (((xs.getD j []).length : Int) = a) && elB n (xs.getD j [])) && (j == 0 || less (xs.getD (j - 1) []) (xs.getD j []))
def relB (n a : Int) (xs : List (List Int)) : Bool := decide (1 ≤ a ∧ a ≤ 3) && (List.range xs.length).all (tupAt n a xs)
theorem tupAt_no1 {n a : Int} {xs : List (List Int)} {j : Nat} (h : j < xs.length) (h1 : (decide ((xs[j].length : Int) = a) && elB n xs[j]) = false) : tupAt n a xs j = false := by
  rw [tupAt, getD_at xs [] j h, h1, Bool.false_and]
theorem tupAt_no2 {n a : Int} {xs : List (List Int)} {j : Nat} (h : j < xs.length) (h0 : 0 < j) (h1 : less xs[j - 1] xs[j] = false) : tupAt n a xs j = false := by
  rw [tupAt, getD_at xs [] j h, getD_at xs [] (j - 1) (by omega), h1, show (j == 0) = false by simp; omega]; simp
theorem tupAt_yes {n a : Int} {xs : List (List Int)} {j : Nat} (h : j < xs.length) (h1 : (decide ((xs[j].length : Int) = a) && elB n xs[j]) = true) (h2 : (h0 : 0 < j) → less xs[j - 1] xs[j] = true) : tupAt n a xs j = true := by
  rw [tupAt, getD_at xs [] j h, getD_at xs [] (j - 1) (by omega), h1, Bool.true_and]
  cases j with
  | zero => rfl
  | succ j => simpa using h2 (by omega)
theorem tupAt_len {n a : Int} {xs : List (List Int)} {j : Nat} (h : j < xs.length) (ht : tupAt n a xs j = true) : (xs[j].length : Int) = a := by
  rw [tupAt, getD_at xs [] j h] at ht
  simp only [Bool.and_eq_true, decide_eq_true_eq] at ht; exact ht.1.1
theorem tupAt_el {n a : Int} {xs : List (List Int)} {j : Nat} (h : j < xs.length) (ht : tupAt n a xs j = true) : elB n xs[j] = true := by
  rw [tupAt, getD_at xs [] j h] at ht
  simp only [Bool.and_eq_true] at ht; exact ht.1.2
theorem tupAt_less {n a : Int} {xs : List (List Int)} {j : Nat} (h : j < xs.length) (h0 : 0 < j) (ht : tupAt n a xs j = true) : less xs[j - 1] xs[j] = true := by
  rw [tupAt, getD_at xs [] j h, getD_at xs [] (j - 1) (by omega), show (j == 0) = false by simp; omega, Bool.false_or, Bool.and_eq_true] at ht
  exact ht.2

/-- the number of a tuple in base n -/
def num (n : Int) : List Int → Int
  | [] => 0
  | x :: t => x * pw n t.length + num n t
theorem num_range (n : Int) (h0 : 0 ≤ n) : ∀ t : List Int, elB n t = true → 0 ≤ num n t ∧ num n t < pw n t.length
  | [], _ => by simp [num, pw]
  | x :: t, h => by
    simp only [elB, List.all_cons, Bool.and_eq_true, decide_eq_true_eq] at h
    obtain ⟨h1, h2⟩ := num_range n h0 t h.2
    have h3 : (x + 1) * pw n t.length ≤ n * pw n t.length := Int.mul_le_mul_of_nonneg_right (by omega) (pw_nonneg n h0 _)
    have h4 : 0 ≤ x * pw n t.length := Int.mul_nonneg h.1.1 (pw_nonneg n h0 _)
    rw [Int.add_mul] at h3
    simp only [num, List.length_cons, pw]
    rw [Int.mul_comm (pw n t.length) n]
    omega
theorem num_less (n : Int) (h0 : 0 ≤ n) : ∀ {a b : List Int}, a.length = b.length → elB n a = true → elB n b = true → less a b = true → num n a < num n b
  | [], b, _, _, _, h => by cases b <;> simp [less] at h
  | x :: a, [], h, _, _, _ => by simp at h
  | x :: a, y :: b, hl, ha, hb, h => by
    simp only [elB, List.all_cons, Bool.and_eq_true, decide_eq_true_eq] at ha hb
    have hl' : a.length = b.length := by simpa using hl
    simp only [less] at h
    split at h
    · rename_i e; subst e
      have := num_less n h0 hl' ha.2 hb.2 h
      simp only [num, hl']; omega
    · simp only [decide_eq_true_eq] at h
      have h1 := (num_range n h0 a ha.2).2
      have h2 := (num_range n h0 b hb.2).1
      have h3 : (x + 1) * pw n b.length ≤ y * pw n b.length := Int.mul_le_mul_of_nonneg_right (by omega) (pw_nonneg n h0 _)
      rw [Int.add_mul] at h3
      simp only [num, hl'] at h1 ⊢; omega
theorem relB_num {n a : Int} {xs : List (List Int)} (h0 : 0 ≤ n) (h : (List.range xs.length).all (tupAt n a xs) = true) : ∀ j (hj : j < xs.length), (j : Int) ≤ num n xs[j]
  | 0, hj => by have := (num_range n h0 _ (tupAt_el hj (rangeAll_at h hj))).1; omega
  | j + 1, hj => by
    have h1 := relB_num h0 h j (by omega)
    have h2 := num_less n h0 (by have := tupAt_len hj (rangeAll_at h hj); have := tupAt_len (show j < xs.length by omega) (rangeAll_at h (by omega)); omega) (tupAt_el (show j < xs.length by omega) (rangeAll_at h (by omega))) (tupAt_el hj (rangeAll_at h hj)) (tupAt_less hj (by omega) (rangeAll_at h hj))
    omega
theorem relB_len {n a : Int} {xs : List (List Int)} (h0 : 0 ≤ n) (ha : 0 ≤ a) (h : (List.range xs.length).all (tupAt n a xs) = true) : (xs.length : Int) ≤ pw n a.toNat := by
  rcases Nat.eq_zero_or_pos xs.length with e | e
  · have := pw_nonneg n h0 a.toNat; omega
  · have hj : xs.length - 1 < xs.length := by omega
    have h1 := relB_num h0 h _ hj
    have h2 := (num_range n h0 _ (tupAt_el hj (rangeAll_at h hj))).2
    have h3 := tupAt_len hj (rangeAll_at h hj)
    rw [show xs[xs.length - 1].length = a.toNat by omega] at h2
    omega

theorem prevAt {xs : List (List Int)} {j : Nat} (h : ((j : Int) - 1).toNat < xs.length) (hj : j - 1 < xs.length) : xs[((j : Int) - 1).toNat] = xs[j - 1] := by
  simp only [show ((j : Int) - 1).toNat = j - 1 by omega]
theorem lenOf {b : Bool} {x y : Int} (h : (decide (x = y) && b) = true) : x = y := by simp at h; exact h.1

def relOk (n a : Int) (xs : List (List Int)) : Bool := decide (1 ≤ n ∧ n ≤ 8) && relB n a xs
theorem relOk_no {n a : Int} {xs : List (List Int)} (h : ¬ (1 ≤ n ∧ n ≤ 8)) : relOk n a xs = false := by rw [relOk, decide_eq_false h, Bool.false_and]
theorem relOk_at {n a : Int} {xs : List (List Int)} (h : 1 ≤ n ∧ n ≤ 8) : relOk n a xs = relB n a xs := by rw [relOk, decide_eq_true h, Bool.true_and]
end Go.Proofs.Ytnnfadabhadihaa
