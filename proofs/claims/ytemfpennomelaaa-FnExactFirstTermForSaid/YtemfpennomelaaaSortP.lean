/- Sorting by exchanges, in plain terms: what each part of a stable sort does to a list. No program in sight; no conditions but those that are told. -/
import Derived.Test.YtemfpennomelaaaTup
namespace Go.Proofs.Ytemfpennomelaaa
open Go Go.Proofs
set_option linter.unusedVariables false

theorem cmp_refl : ∀ a : List Int, cmp a a = 0
  | [] => rfl
  | x :: a => by rw [cmp, if_pos rfl, cmp_refl a]
theorem cmp_eq {a b : List Int} : ¬ cmp a b < 0 → ¬ cmp b a < 0 → a = b := by
  induction a generalizing b with
  | nil => cases b with
    | nil => intros; rfl
    | cons y b => simp [cmp]
  | cons x a ih => cases b with
    | nil => simp [cmp]
    | cons y b =>
      simp only [cmp]
      by_cases h : x = y
      · subst h; rw [if_pos rfl, if_pos rfl]; intro h1 h2; rw [ih h1 h2]
      · have h' : ¬ y = x := fun e => h e.symm
        rw [if_neg h, if_neg h']
        intro h1 h2
        split at h1
        · omega
        · split at h2
          · omega
          · omega
theorem cmp_trans {a b c : List Int} : cmp a b < 0 → cmp b c < 0 → cmp a c < 0 := by
  induction a generalizing b c with
  | nil =>
    cases b with
    | nil => simp [cmp]
    | cons y b => cases c <;> simp [cmp]
  | cons x a ih => cases b with
    | nil => simp [cmp]
    | cons y b => cases c with
      | nil => simp [cmp]
      | cons z c =>
        simp only [cmp]
        by_cases h : x = y
        · subst h
          rw [if_pos rfl]
          by_cases h2 : x = z
          · subst h2; rw [if_pos rfl, if_pos rfl]; exact ih
          · rw [if_neg h2, if_neg h2]; exact fun _ h => h
        · rw [if_neg h]
          by_cases h2 : y = z
          · subst h2; rw [if_pos rfl, if_neg h]; exact fun h _ => h
          · rw [if_neg h2]
            intro h3 h4
            split at h3
            · split at h4
              · rw [if_neg (by omega), if_pos (by omega)]; decide
              · omega
            · omega

section
variable {α : Type} [Inhabited α]
def at' (xs : List α) (i : Nat) : α := xs.getD i default
theorem at_eq {xs : List α} {i : Nat} (h : i < xs.length) : at' xs i = xs[i] := by
  rw [at', List.getD_eq_getElem?_getD, List.getElem?_eq_getElem h]; rfl
def swapL (xs : List α) (i j : Nat) : List α := (xs.set i (at' xs j)).set j (at' xs i)
theorem swapL_length (xs : List α) (i j : Nat) : (swapL xs i j).length = xs.length := by simp [swapL]
theorem at_set {xs : List α} {i k : Nat} {y : α} (hi : i < xs.length) : at' (xs.set i y) k = if k = i then y else at' xs k := by
  simp only [at', List.getD_eq_getElem?_getD]
  by_cases h : k = i
  · subst h; rw [if_pos rfl, List.getElem?_set_self hi]; rfl
  · rw [if_neg h, List.getElem?_set_ne (fun e => h e.symm)]
theorem at_swap {xs : List α} {i j k : Nat} (hi : i < xs.length) (hj : j < xs.length) : at' (swapL xs i j) k = if k = j then at' xs i else if k = i then at' xs j else at' xs k := by
  rw [swapL, at_set (by simpa using hj), at_set hi]
theorem swapL_perm {xs : List α} {i j : Nat} (hi : i < xs.length) (hj : j < xs.length) : xs.Perm (swapL xs i j) := by
  rw [swapL, at_eq hi, at_eq hj]
  by_cases h : i = j
  · subst h; simp
  · exact (List.set_set_perm hi hj).symm
/-- ys has the elements of xs from a to b in some order, all else as in xs -/
structure Mv (a b : Nat) (xs ys : List α) : Prop where
  len : ys.length = xs.length
  out : ∀ i, (i < a ∨ b ≤ i) → at' ys i = at' xs i
  src : ∀ i, a ≤ i → i < b → ∃ j, a ≤ j ∧ j < b ∧ at' ys i = at' xs j
  perm : xs.Perm ys
theorem Mv.refl (a b : Nat) (xs : List α) : Mv a b xs xs := ⟨rfl, fun _ _ => rfl, fun i h1 h2 => ⟨i, h1, h2, rfl⟩, .refl _⟩
theorem Mv.trans {a b : Nat} {xs ys zs : List α} (h : Mv a b xs ys) (k : Mv a b ys zs) : Mv a b xs zs :=
  ⟨k.len.trans h.len, fun i hi => (k.out i hi).trans (h.out i hi), fun i h1 h2 => by
    obtain ⟨j, h3, h4, h5⟩ := k.src i h1 h2
    obtain ⟨q, h6, h7, h8⟩ := h.src j h3 h4
    exact ⟨q, h6, h7, h5.trans h8⟩, h.perm.trans k.perm⟩
theorem Mv.wide {a b a' b' : Nat} {xs ys : List α} (h : Mv a b xs ys) (ha : a' ≤ a) (hb : b ≤ b') : Mv a' b' xs ys :=
  ⟨h.len, fun i hi => h.out i (by omega), fun i h1 h2 => by
    by_cases h3 : a ≤ i ∧ i < b
    · obtain ⟨j, h4, h5, h6⟩ := h.src i h3.1 h3.2
      exact ⟨j, by omega, by omega, h6⟩
    · exact ⟨i, h1, h2, h.out i (by omega)⟩, h.perm⟩
theorem Mv.swap {a b i j : Nat} {xs : List α} (h1 : a ≤ i) (h2 : i < b) (h3 : a ≤ j) (h4 : j < b) (hb : b ≤ xs.length) : Mv a b xs (swapL xs i j) :=
  ⟨swapL_length _ _ _, fun k hk => by rw [at_swap (by omega) (by omega), if_neg (by omega), if_neg (by omega)],
   fun k hk1 hk2 => by
    rw [at_swap (by omega) (by omega)]
    split
    · exact ⟨i, h1, h2, rfl⟩
    · split
      · exact ⟨j, h3, h4, rfl⟩
      · exact ⟨k, hk1, hk2, rfl⟩, swapL_perm (by omega) (by omega)⟩
/-- in order from a to b, by a relation -/
def SegS (le : α → α → Prop) (xs : List α) (a b : Nat) : Prop := ∀ i j, a ≤ i → i < j → j < b → le (at' xs i) (at' xs j)
/-- the blocks from a to m and from m to b change places -/
structure Rot (a m b : Nat) (xs ys : List α) : Prop where
  mv : Mv a b xs ys
  left : ∀ t, t < b - m → at' ys (a + t) = at' xs (m + t)
  right : ∀ t, t < m - a → at' ys (a + (b - m) + t) = at' xs (a + t)
/-- n elements from a on and n elements from b on are exchanged, the first k of them -/
structure Exch (a b k : Nat) (xs ys : List α) : Prop where
  len : ys.length = xs.length
  one : ∀ t, t < k → at' ys (a + t) = at' xs (b + t)
  two : ∀ t, t < k → at' ys (b + t) = at' xs (a + t)
  out : ∀ i, ¬ (a ≤ i ∧ i < a + k) → ¬ (b ≤ i ∧ i < b + k) → at' ys i = at' xs i
  perm : xs.Perm ys
theorem Exch.zero (a b : Nat) (xs : List α) : Exch a b 0 xs xs := ⟨rfl, fun t h => by omega, fun t h => by omega, fun _ _ _ => rfl, .refl _⟩
theorem Exch.step {a b k : Nat} {xs ys : List α} (h : Exch a b k xs ys) (hab : a + (k + 1) ≤ b) (hb : b + (k + 1) ≤ xs.length) : Exch a b (k + 1) xs (swapL ys (a + k) (b + k)) := by
  have hl := h.len
  refine ⟨by rw [swapL_length, hl], fun t ht => ?_, fun t ht => ?_, fun i h1 h2 => ?_, h.perm.trans (swapL_perm (by omega) (by omega))⟩
  · rw [at_swap (by omega) (by omega), if_neg (by omega)]
    split
    · rename_i e
      have : t = k := by omega
      subst this
      exact h.out _ (by omega) (by omega)
    · exact h.one t (by omega)
  · rw [at_swap (by omega) (by omega)]
    split
    · rename_i e
      have : t = k := by omega
      subst this
      exact h.out _ (by omega) (by omega)
    · rw [if_neg (by omega)]; exact h.two t (by omega)
  · rw [at_swap (by omega) (by omega), if_neg (by omega), if_neg (by omega)]
    exact h.out i (by omega) (by omega)
/-- the state of a rotation: the blocks of i elements before m and of j elements from m on are to change places yet -/
structure RotI (a m b i j : Nat) (xs ys : List α) : Prop where
  len : ys.length = xs.length
  lo : i ≤ m - a
  hi : j ≤ b - m
  pos : 1 ≤ i ∧ 1 ≤ j
  goal : ∀ zs : List α, Rot (m - i) m (m + j) ys zs → Rot a m b xs zs
theorem RotI.start {a m b : Nat} {xs : List α} (h1 : a < m) (h2 : m < b) : RotI a m b (m - a) (b - m) xs xs :=
  ⟨rfl, Nat.le_refl _, Nat.le_refl _, ⟨by omega, by omega⟩, fun zs h => by
    rw [show m - (m - a) = a by omega, show m + (b - m) = b by omega] at h; exact h⟩
theorem RotI.big {a m b i j : Nat} {xs ys zs : List α} (h : RotI a m b i j xs ys) (ham : a ≤ m) (hb : b ≤ xs.length) (hmb : m ≤ b) (hij : j < i) (he : Exch (m - i) m j ys zs) : RotI a m b (i - j) j xs zs := by
  have h1 := h.lo; have h2 := h.hi; have h3 := h.pos; have hl := h.len
  refine ⟨he.len.trans h.len, by omega, h.hi, ⟨by omega, h3.2⟩, fun ws hw => h.goal ws ?_⟩
  have e : m - (i - j) = m - i + j := by omega
  rw [e] at hw
  refine ⟨⟨hw.mv.len.trans he.len, fun q hq => ?_, fun q hq1 hq2 => ?_, he.perm.trans hw.mv.perm⟩, fun t ht => ?_, fun t ht => ?_⟩
  · rw [hw.mv.out q (by omega), he.out q (by omega) (by omega)]
  · have hz : ∀ q, m - i ≤ q → q < m + j → ∃ p, m - i ≤ p ∧ p < m + j ∧ at' zs q = at' ys p := fun q h1 h2 => by
      by_cases c1 : q < m - i + j
      · exact ⟨m + (q - (m - i)), by omega, by omega, by have := he.one (q - (m - i)) (by omega); rwa [show m - i + (q - (m - i)) = q by omega] at this⟩
      · by_cases c2 : m ≤ q
        · exact ⟨m - i + (q - m), by omega, by omega, by have := he.two (q - m) (by omega); rwa [show m + (q - m) = q by omega] at this⟩
        · exact ⟨q, by omega, by omega, he.out q (by omega) (by omega)⟩
    by_cases c : m - i + j ≤ q
    · obtain ⟨p, p1, p2, p3⟩ := hw.mv.src q c (by omega)
      obtain ⟨p', p4, p5, p6⟩ := hz p (by omega) (by omega)
      exact ⟨p', p4, p5, p3.trans p6⟩
    · obtain ⟨p', p4, p5, p6⟩ := hz q (by omega) (by omega)
      exact ⟨p', p4, p5, (hw.mv.out q (by omega)).trans p6⟩
  · rw [hw.mv.out _ (by omega)]
    exact he.one t (by omega)
  · by_cases c : t < j
    · have h5 := hw.left t (by omega)
      rw [show m - i + (m + j - m) + t = m - i + j + t by omega, h5]
      exact he.two t c
    · have h5 := hw.right (t - j) (by omega)
      rw [show m - i + j + (m + j - m) + (t - j) = m - i + (m + j - m) + t by omega, show m - i + j + (t - j) = m - i + t by omega] at h5
      rw [h5]
      exact he.out _ (by omega) (by omega)
theorem RotI.small {a m b i j : Nat} {xs ys zs : List α} (h : RotI a m b i j xs ys) (ham : a ≤ m) (hb : b ≤ xs.length) (hmb : m ≤ b) (hij : i < j) (he : Exch (m - i) (m + j - i) i ys zs) : RotI a m b i (j - i) xs zs := by
  have h1 := h.lo; have h2 := h.hi; have h3 := h.pos; have hl := h.len
  refine ⟨he.len.trans h.len, h.lo, by omega, ⟨h3.1, by omega⟩, fun ws hw => h.goal ws ?_⟩
  refine ⟨⟨hw.mv.len.trans he.len, fun q hq => ?_, fun q hq1 hq2 => ?_, he.perm.trans hw.mv.perm⟩, fun t ht => ?_, fun t ht => ?_⟩
  · rw [hw.mv.out q (by omega), he.out q (by omega) (by omega)]
  · have hz : ∀ q, m - i ≤ q → q < m + j → ∃ p, m - i ≤ p ∧ p < m + j ∧ at' zs q = at' ys p := fun q h1 h2 => by
      by_cases c1 : q < m
      · exact ⟨m + j - i + (q - (m - i)), by omega, by omega, by have := he.one (q - (m - i)) (by omega); rwa [show m - i + (q - (m - i)) = q by omega] at this⟩
      · by_cases c2 : m + j - i ≤ q
        · exact ⟨m - i + (q - (m + j - i)), by omega, by omega, by have := he.two (q - (m + j - i)) (by omega); rwa [show m + j - i + (q - (m + j - i)) = q by omega] at this⟩
        · exact ⟨q, by omega, by omega, he.out q (by omega) (by omega)⟩
    by_cases c : q < m + (j - i)
    · obtain ⟨p, p1, p2, p3⟩ := hw.mv.src q (by omega) c
      obtain ⟨p', p4, p5, p6⟩ := hz p (by omega) (by omega)
      exact ⟨p', p4, p5, p3.trans p6⟩
    · obtain ⟨p', p4, p5, p6⟩ := hz q (by omega) (by omega)
      exact ⟨p', p4, p5, (hw.mv.out q (by omega)).trans p6⟩
  · by_cases c : t < j - i
    · rw [hw.left t (by omega)]
      exact he.out _ (by omega) (by omega)
    · have h5 := hw.right (t - (j - i)) (by omega)
      rw [show m - i + (m + (j - i) - m) + (t - (j - i)) = m - i + t by omega] at h5
      rw [h5]
      have h6 := he.one (t - (j - i)) (by omega)
      rw [show m + j - i + (t - (j - i)) = m + t by omega] at h6
      exact h6
  · rw [hw.mv.out _ (by omega)]
    have h6 := he.two t (by omega)
    rw [show m + j - i + t = m - i + (m + j - m) + t by omega] at h6
    exact h6
theorem RotI.last {a m b i : Nat} {xs ys zs : List α} (h : RotI a m b i i xs ys) (ham : a ≤ m) (hb : b ≤ xs.length) (hmb : m ≤ b) (he : Exch (m - i) m i ys zs) : Rot a m b xs zs := by
  have h1 := h.lo; have h2 := h.hi; have h3 := h.pos; have hl := h.len
  refine h.goal zs ⟨⟨he.len, fun q hq => he.out q (by omega) (by omega), fun q hq1 hq2 => ?_, he.perm⟩, fun t ht => he.one t (by omega), fun t ht => ?_⟩
  · by_cases c1 : q < m
    · exact ⟨m + (q - (m - i)), by omega, by omega, by have := he.one (q - (m - i)) (by omega); rwa [show m - i + (q - (m - i)) = q by omega] at this⟩
    · exact ⟨m - i + (q - m), by omega, by omega, by have := he.two (q - m) (by omega); rwa [show m + (q - m) = q by omega] at this⟩
  · have h6 := he.two t (by omega)
    rw [show m + t = m - i + (m + i - m) + t by omega] at h6
    exact h6

/-! ### orders -/
variable {le : α → α → Prop}
/-- one element is being put to its place among those before it -/
structure InsI (le : α → α → Prop) (a i j : Nat) (xs : List α) : Prop where
  rest : ∀ p q, a ≤ p → p < q → q ≤ i → p ≠ j → q ≠ j → le (at' xs p) (at' xs q)
  over : ∀ q, j < q → q ≤ i → le (at' xs j) (at' xs q)
theorem InsI.start {a i : Nat} {xs : List α} (h : SegS le xs a i) : InsI le a i i xs :=
  ⟨fun p q h1 h2 h3 h4 h5 => h p q h1 h2 (by omega), fun q h1 h2 => by omega⟩
theorem InsI.step {a i j : Nat} {xs : List α} (h : InsI le a i j xs) (hj : a < j) (hji : j ≤ i) (hi : i < xs.length) (ht : le (at' xs j) (at' xs (j - 1))) : InsI le a i (j - 1) (swapL xs j (j - 1)) := by
  refine ⟨fun p q h1 h2 h3 h4 h5 => ?_, fun q h1 h2 => ?_⟩
  · rw [at_swap (by omega) (by omega), at_swap (by omega) (by omega), if_neg h4, if_neg h5]
    by_cases c1 : p = j
    · rw [if_pos c1, if_neg (by omega)]
      exact h.rest (j - 1) q (by omega) (by omega) h3 (by omega) (by omega)
    · rw [if_neg c1]
      by_cases c2 : q = j
      · rw [if_pos c2]
        exact h.rest p (j - 1) h1 (by omega) (by omega) c1 (by omega)
      · rw [if_neg c2]; exact h.rest p q h1 h2 h3 c1 c2
  · rw [at_swap (by omega) (by omega), at_swap (by omega) (by omega), if_pos rfl, if_neg (by omega)]
    by_cases c2 : q = j
    · rw [if_pos c2]; exact ht
    · rw [if_neg c2]; exact h.over q (by omega) h2
/-- what a merge does -/
structure Mrg (le : α → α → Prop) (a b : Nat) (xs ys : List α) : Prop where
  mv : Mv a b xs ys
  seg : SegS le ys a b
theorem SegS.join {xs : List α} {a s b : Nat} (h : SegS le xs a s) (k : SegS le xs s b) (he : s ≤ a ∨ b ≤ s) : SegS le xs a b := fun p q h1 h2 h3 => by
  rcases he with e | e
  · exact k p q (by omega) h2 h3
  · exact h p q h1 h2 (by omega)
theorem Rot.none {a m b : Nat} (xs : List α) (h : m ≤ a ∨ b ≤ m) (h1 : a ≤ m) (h2 : m ≤ b) : Rot a m b xs xs :=
  ⟨.refl a b xs, fun t ht => by rw [show a + t = m + t by omega], fun t ht => by rw [show a + (b - m) + t = a + t by omega]⟩
/-- one element at the head is moved to its place -/
structure Shl (a k : Nat) (xs ys : List α) : Prop where
  mv : Mv a (k + 1) xs ys
  low : ∀ i, a ≤ i → i < k → at' ys i = at' xs (i + 1)
  top : at' ys k = at' xs a
theorem Shl.zero (a : Nat) (xs : List α) : Shl a a xs xs := ⟨.refl _ _ _, fun i h1 h2 => by omega, rfl⟩
theorem Shl.step {a k : Nat} {xs ys : List α} (h : Shl a k xs ys) (hak : a ≤ k) (hk : k + 1 < xs.length) : Shl a (k + 1) xs (swapL ys k (k + 1)) := by
  have hl := h.mv.len
  refine ⟨(h.mv.wide (Nat.le_refl _) (by omega)).trans (Mv.swap (by omega) (by omega) (by omega) (by omega) (by omega)), fun i h1 h2 => ?_, ?_⟩
  · rw [at_swap (by omega) (by omega), if_neg (by omega)]
    split
    · rename_i e; subst e; exact h.mv.out _ (by omega)
    · exact h.low i h1 (by omega)
  · rw [at_swap (by omega) (by omega), if_pos rfl]; exact h.top
/-- one element at the end is moved to its place: it stands at k now -/
structure Shr (k m : Nat) (xs ys : List α) : Prop where
  mv : Mv k (m + 1) xs ys
  up : ∀ i, k < i → i ≤ m → at' ys i = at' xs (i - 1)
  bot : at' ys k = at' xs m
theorem Shr.zero (m : Nat) (xs : List α) : Shr m m xs xs := ⟨.refl _ _ _, fun i h1 h2 => by omega, rfl⟩
theorem Shr.step {k m : Nat} {xs ys : List α} (h : Shr k m xs ys) (hk0 : 0 < k) (hk : k ≤ m) (hm : m < xs.length) : Shr (k - 1) m xs (swapL ys k (k - 1)) := by
  have hl := h.mv.len
  refine ⟨(h.mv.wide (by omega) (Nat.le_refl _)).trans (Mv.swap (by omega) (by omega) (by omega) (by omega) (by omega)), fun i h1 h2 => ?_, ?_⟩
  · rw [at_swap (by omega) (by omega), if_neg (by omega)]
    split
    · rename_i e; subst e; exact h.mv.out _ (by omega)
    · exact h.up i (by omega) h2
  · rw [at_swap (by omega) (by omega), if_pos rfl]; exact h.bot
end
end Go.Proofs.Ytemfpennomelaaa
