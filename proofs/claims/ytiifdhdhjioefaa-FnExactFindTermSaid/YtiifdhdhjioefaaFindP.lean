/- The search for a row that is good, in plain terms: rows are added round by round until one is good or there are too many. No program in sight. -/
import Derived.Test.YtiifdhdhjioefaaMalO
import Derived.Test.YtiifdhdhjioefaaCloneI
namespace Go.Proofs.Ytiifdhdhjioefaa
open Go Go.Proofs
set_option linter.unusedVariables false
/-- rows and steps, compositions tried, state: 2 going on, 1 found, 3 too many -/
abbrev QS := CS × Nat × Int
def addQ (G : List Int → Bool) (s : QS) (t : List Int) (sp : Int × List Int) : QS :=
  if s.2.2 = 2 then (if t ∈ s.1.1 then s else if s.1.1.length = 150 then (s.1, s.2.1, 3) else ((s.1.1 ++ [t], s.1.2 ++ [sp]), s.2.1, if G t = true then 1 else 2)) else s
def stepQ (G : List Int → Bool) (n : Int) (size : Nat) (f : Int × List Int) (j K b : Nat) (s : QS) (i : Nat) : QS :=
  if s.2.2 = 2 then (if fresh K f.1.toNat b i = true then (if s.2.1 = 100000 then (s.1, s.2.1, 3) else addQ G (s.1, s.2.1 + 1, 2) (applyT n f.2 (chosen s.1.1 (lowd (i : Int) (K : Int) f.1.toNat)) size) ((j : Int), lowd (i : Int) (K : Int) f.1.toNat)) else s) else s
def opQ (G : List Int → Bool) (n : Int) (size K b : Nat) (s : QS) (p : (Int × List Int) × Nat) : QS := (List.range' 0 (many K p.1)).foldl (stepQ G n size p.1 p.2 K b) s
def rndQ (G : List Int → Bool) (n : Int) (size : Nat) (os : List (Int × List Int)) (K b : Nat) (s : QS) : QS := os.zipIdx.foldl (opQ G n size K b) s
def findQ (G : List Int → Bool) (n : Int) (size : Nat) (os : List (Int × List Int)) : Nat → QS → Nat → QS
  | 0, s, _ => s
  | f + 1, s, b => if s.2.2 = 2 ∧ b < s.1.1.length then findQ G n size os f (rndQ G n size os s.1.1.length b s) s.1.1.length else s
def initQ (G : List Int → Bool) (F : List (List Int)) : Nat → QS
  | 0 => (([], []), 0, 2)
  | p + 1 => addQ G (initQ G F p) (F.getD p []) (-1, [(p : Int)])
theorem addQ_end {G : List Int → Bool} {s : QS} {t : List Int} {sp : Int × List Int} (h : ¬ s.2.2 = 2) : addQ G s t sp = s := by rw [addQ, if_neg h]
theorem addQ_old {G : List Int → Bool} {s : QS} {t : List Int} {sp : Int × List Int} (h : t ∈ s.1.1) : addQ G s t sp = s := by
  by_cases h1 : s.2.2 = 2
  · rw [addQ, if_pos h1, if_pos h]
  · exact addQ_end h1
theorem addQ_full {G : List Int → Bool} {s : QS} {t : List Int} {sp : Int × List Int} (h : s.2.2 = 2) (h1 : ¬ t ∈ s.1.1) (h2 : s.1.1.length = 150) : addQ G s t sp = (s.1, s.2.1, 3) := by rw [addQ, if_pos h, if_neg h1, if_pos h2]
theorem addQ_new {G : List Int → Bool} {s : QS} {t : List Int} {sp : Int × List Int} (h : s.2.2 = 2) (h1 : ¬ t ∈ s.1.1) (h2 : ¬ s.1.1.length = 150) : addQ G s t sp = ((s.1.1 ++ [t], s.1.2 ++ [sp]), s.2.1, if G t = true then 1 else 2) := by rw [addQ, if_pos h, if_neg h1, if_neg h2]
theorem stepQ_end {G : List Int → Bool} {n : Int} {size : Nat} {f : Int × List Int} {j K b : Nat} {s : QS} {i : Nat} (h : ¬ s.2.2 = 2) : stepQ G n size f j K b s i = s := by rw [stepQ, if_neg h]
theorem stepQ_skip {G : List Int → Bool} {n : Int} {size : Nat} {f : Int × List Int} {j K b : Nat} {s : QS} {i : Nat} (h : fresh K f.1.toNat b i = false) : stepQ G n size f j K b s i = s := by
  rw [stepQ, h]; split <;> rfl
theorem stepQ_many {G : List Int → Bool} {n : Int} {size : Nat} {f : Int × List Int} {j K b : Nat} {s : QS} {i : Nat} (h : s.2.2 = 2) (h1 : fresh K f.1.toNat b i = true) (h2 : s.2.1 = 100000) : stepQ G n size f j K b s i = (s.1, s.2.1, 3) := by rw [stepQ, if_pos h, if_pos h1, if_pos h2]
theorem stepQ_add {G : List Int → Bool} {n : Int} {size : Nat} {f : Int × List Int} {j K b : Nat} {s : QS} {i : Nat} (h : s.2.2 = 2) (h1 : fresh K f.1.toNat b i = true) (h2 : ¬ s.2.1 = 100000) :
    stepQ G n size f j K b s i = addQ G (s.1, s.2.1 + 1, 2) (applyT n f.2 (chosen s.1.1 (lowd (i : Int) (K : Int) f.1.toNat)) size) ((j : Int), lowd (i : Int) (K : Int) f.1.toNat) := by rw [stepQ, if_pos h, if_pos h1, if_neg h2]
theorem foldQ_end {α : Type} {g : QS → α → QS} (hg : ∀ s x, ¬ s.2.2 = 2 → g s x = s) : ∀ (l : List α) (s : QS), ¬ s.2.2 = 2 → l.foldl g s = s
  | [], s, h => rfl
  | x :: l, s, h => by rw [List.foldl_cons, hg s x h]; exact foldQ_end hg l s h
theorem opQ_end {G : List Int → Bool} {n : Int} {size K b : Nat} {s : QS} {p : (Int × List Int) × Nat} (h : ¬ s.2.2 = 2) : opQ G n size K b s p = s := foldQ_end (fun _ _ h => stepQ_end h) _ _ h
theorem findQ_end {G : List Int → Bool} {n : Int} {size : Nat} {os : List (Int × List Int)} {f : Nat} {s : QS} {b : Nat} (h : ¬ (s.2.2 = 2 ∧ b < s.1.1.length)) : findQ G n size os f s b = s := by
  cases f with
  | zero => rfl
  | succ f => rw [findQ, if_neg h]
theorem findQ_go {G : List Int → Bool} {n : Int} {size : Nat} {os : List (Int × List Int)} {f : Nat} {s : QS} {b : Nat} (h : s.2.2 = 2) (h1 : b < s.1.1.length) : findQ G n size os (f + 1) s b = findQ G n size os f (rndQ G n size os s.1.1.length b s) s.1.1.length := by rw [findQ, if_pos ⟨h, h1⟩]
/-- what holds of what was found -/
structure QInv (n : Int) (size : Nat) (s : QS) : Prop where
  inv : CInv n size s.1
  few : s.1.1.length ≤ 150
  tr : s.2.1 ≤ 100000
  st : s.2.2 = 1 ∨ s.2.2 = 2 ∨ s.2.2 = 3
theorem QInv.add {n : Int} {size : Nat} {s : QS} (h : QInv n size s) {G : List Int → Bool} {t : List Int} {sp : Int × List Int} (ht : t.length = size) (he : elB n t = true) : QInv n size (addQ G s t sp) := by
  by_cases h1 : s.2.2 = 2
  · by_cases h2 : t ∈ s.1.1
    · rw [addQ_old h2]; exact h
    · by_cases h3 : s.1.1.length = 150
      · rw [addQ_full h1 h2 h3]
        exact ⟨h.inv, h.few, h.tr, .inr (.inr rfl)⟩
      · rw [addQ_new h1 h2 h3]
        have hi := h.inv.add (st := sp) ht he
        rw [addC, if_neg h2] at hi
        refine ⟨hi, ?_, h.tr, ?_⟩
        · have := h.few
          simp only [List.length_append, List.length_singleton]; omega
        · cases G t <;> simp
  · rw [addQ_end h1]; exact h
theorem addQ_more (G : List Int → Bool) (s : QS) (t : List Int) (sp : Int × List Int) : s.1.1.length ≤ (addQ G s t sp).1.1.length := by
  unfold addQ
  split
  · split
    · exact Nat.le_refl _
    · split
      · exact Nat.le_refl _
      · simp
  · exact Nat.le_refl _
theorem initQ_inv {n : Int} {size : Nat} {F : List (List Int)} (hF : ∀ t ∈ F, t.length = size ∧ elB n t = true) (G : List Int → Bool) : ∀ p, p ≤ F.length → QInv n size (initQ G F p)
  | 0, _ => ⟨CInv.nil n size, Nat.zero_le _, Nat.zero_le _, .inr (.inl rfl)⟩
  | p + 1, hp => by
    have h1 := initQ_inv hF G p (by omega)
    have h2 := hF _ (List.getElem_mem (show p < F.length by omega))
    rw [initQ, List.getD_eq_getElem?_getD, List.getElem?_eq_getElem (show p < F.length by omega)]
    exact h1.add h2.1 h2.2
/-- the first row is kept -/
theorem initQ_pos {G : List Int → Bool} {F : List (List Int)} : ∀ p, 1 ≤ (initQ G F (p + 1)).1.1.length
  | 0 => by
    rw [initQ, initQ, addQ_new rfl (by simp) (by simp)]
    simp
  | p + 1 => by
    have h := initQ_pos (G := G) (F := F) p
    have h2 := addQ_more G (initQ G F (p + 1)) (F.getD (p + 1) []) (-1, [((p + 1 : Nat) : Int)])
    rw [initQ]; omega
/-- a search that has ended does not go on -/
theorem initQ_end {G : List Int → Bool} {F : List (List Int)} {p : Nat} (h : ¬ (initQ G F p).2.2 = 2) : ∀ d, initQ G F (p + d) = initQ G F p
  | 0 => rfl
  | d + 1 => by
    have := initQ_end h d
    rw [← Nat.add_assoc, initQ, this, addQ_end h]
end Go.Proofs.Ytiifdhdhjioefaa
