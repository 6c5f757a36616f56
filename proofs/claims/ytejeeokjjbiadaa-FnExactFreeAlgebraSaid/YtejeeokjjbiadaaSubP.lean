/- When a list of tuples is a subpower, in plain terms. No program in sight. -/
import Derived.Test.YtejeeokjjbiadaaSpanP
import Derived.Test.YtejeeokjjbiadaaCloneP
namespace Go.Proofs.Ytejeeokjjbiadaa
open Go Go.Proofs
set_option linter.unusedVariables false
/-- the value of an operation for the rows with the digits of a number -/
def opV (n : Int) (k : Nat) (f : Int × List Int) (X : List (List Int)) (i : Nat) : List Int := applyT n f.2 (chosen X (lowd (i : Int) (X.length : Int) f.1.toNat)) k
def opN (f : Int × List Int) (X : List (List Int)) : Nat := (pw (X.length : Int) f.1.toNat).toNat
theorem chosen_all {X : List (List Int)} {r : Nat} {ts : List (List Int)} (hl : ts.length = r) (ht : ∀ u ∈ ts, u ∈ X) : ∃ i : Nat, (i : Int) < pw (X.length : Int) r ∧ chosen X (lowd (i : Int) (X.length : Int) r) = ts := by
  have key : ∀ ts : List (List Int), (∀ u ∈ ts, u ∈ X) → ∃ ns : List Int, ns.length = ts.length ∧ (∀ x ∈ ns, 0 ≤ x ∧ x < (X.length : Int)) ∧ chosen X ns = ts := by
    intro ts
    induction ts with
    | nil => intro _; exact ⟨[], rfl, (fun x h => by cases h), rfl⟩
    | cons u ts ih =>
      intro h
      obtain ⟨ns, h1, h2, h3⟩ := ih fun v hv => h v (by simp [hv])
      obtain ⟨j, hj, e⟩ := List.getElem_of_mem (h u (by simp))
      refine ⟨(j : Int) :: ns, by simp [h1], fun x hx => ?_, ?_⟩
      · rcases List.mem_cons.1 hx with rfl | hx
        · omega
        · exact h2 x hx
      · rw [chosen, List.map_cons, ← chosen, h3]
        congr 1
        rw [Int.toNat_natCast, List.getD_eq_getElem?_getD, List.getElem?_eq_getElem hj]
        exact e
  obtain ⟨ns, h1, h2, h3⟩ := key ts ht
  rcases Nat.eq_zero_or_pos r with e | e
  · subst e
    have h4 : ts = [] := List.length_eq_zero_iff.1 hl
    subst h4
    exact ⟨0, by simp [pw], by simp [lowd, chosen]⟩
  · have hX : 1 ≤ X.length := by
      cases ts with
      | nil => simp at hl; omega
      | cons u ts => exact List.length_pos_of_mem (ht u (by simp))
    obtain ⟨h5, h6, h7⟩ := lowd_hor (X.length : Int) (by omega) ns h2
    rw [h1, hl] at h6 h7
    exact ⟨(hor (X.length : Int) ns).toNat, by omega, by rw [Int.toNat_of_nonneg h5, h7, h3]⟩
end Go.Proofs.Ytejeeokjjbiadaa
