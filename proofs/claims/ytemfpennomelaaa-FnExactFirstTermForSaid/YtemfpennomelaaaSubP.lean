/- Clones, in plain terms: adding compositions round by round, all of them (impl) or those with a new argument (spec): the same outcome. No program, no conditions but ranges. -/
import Derived.Test.YtemfpennomelaaaAppl
import Derived.Test.YtemfpennomelaaaNext
import Derived.Test.YtemfpennomelaaaSpanP
namespace Go.Proofs.Ytemfpennomelaaa
open Go Go.Proofs
set_option linter.unusedVariables false

abbrev CS := List (List Int) × List (Int × List Int)
def fresh (K k b i : Nat) : Bool := (lowd (i : Int) (K : Int) k).any (fun x => decide ((b : Int) ≤ x)) || b == 0
def many (K : Nat) (f : Int × List Int) : Nat := (pw (K : Int) f.1.toNat).toNat
/-! ### what steps leave -/
theorem chosen_pre {xs ys : List (List Int)} (h : xs <+: ys) {ns : List Int} (hn : ∀ x ∈ ns, 0 ≤ x ∧ x.toNat < xs.length) : chosen ys ns = chosen xs ns := by
  apply List.map_congr_left
  intro x hx
  obtain ⟨zs, rfl⟩ := h
  rw [List.getD_eq_getElem?_getD, List.getD_eq_getElem?_getD, List.getElem?_append_left (hn x hx).2]
/-! ### numbers and digits -/
theorem lowd_hor (K : Int) (hK : 1 ≤ K) : ∀ ns : List Int, (∀ x ∈ ns, 0 ≤ x ∧ x < K) → 0 ≤ hor K ns ∧ hor K ns < pw K ns.length ∧ lowd (hor K ns) K ns.length = ns := by
  intro ns
  rw [← List.reverse_reverse ns]
  generalize ns.reverse = rs
  induction rs with
  | nil => intro _; exact ⟨Int.le_refl 0, show (0 : Int) < 1 by decide, rfl⟩
  | cons x rs ih =>
    intro h
    simp only [List.reverse_cons] at h ⊢
    obtain ⟨h1, h2, h3⟩ := ih (fun y hy => h y (by simp at hy ⊢; exact .inl hy))
    have hx := h x (by simp)
    rw [hor_snoc, List.length_append, List.length_singleton, lowd_snoc, Int.add_comm, Int.add_mul_ediv_right _ _ (by omega), Int.ediv_eq_zero_of_lt hx.1 hx.2, Int.zero_add, Int.add_mul_emod_self_right, Int.emod_eq_of_lt hx.1 hx.2, h3]
    have h4 : 0 ≤ hor K rs.reverse * K := Int.mul_nonneg h1 (by omega)
    have h5 : (hor K rs.reverse + 1) * K ≤ pw K rs.reverse.length * K := Int.mul_le_mul_of_nonneg_right (by omega) (by omega)
    rw [Int.add_mul] at h5
    exact ⟨by omega, by simp only [pw]; omega, rfl⟩
/-- the compositions of functions that stand below b are there -/
def Closed (n : Int) (size : Nat) (ops : List (Int × List Int)) (b : Nat) (c : CS) : Prop :=
  b ≤ c.1.length ∧ ∀ f ∈ ops, ∀ ns : List Int, ns.length = f.1.toNat → (∀ x ∈ ns, 0 ≤ x ∧ x < (b : Int)) → applyT n f.2 (chosen c.1 ns) size ∈ c.1
theorem Closed.mono {n : Int} {size : Nat} {ops : List (Int × List Int)} {b : Nat} {c c' : CS} (h : Closed n size ops b c) (hp : c.1 <+: c'.1) : Closed n size ops b c' :=
  ⟨Nat.le_trans h.1 hp.length_le, fun f hf ns hl hn => by
    rw [chosen_pre hp (fun x hx => by have := hn x hx; have := h.1; omega)]
    exact hp.subset (h.2 f hf ns hl hn)⟩
end Go.Proofs.Ytemfpennomelaaa
/- When a list of tuples is a subpower, in plain terms. No program in sight. -/
namespace Go.Proofs.Ytemfpennomelaaa
open Go Go.Proofs
set_option linter.unusedVariables false
def tupB (n : Int) (k : Nat) (X : List (List Int)) : Bool := X.all fun t => decide (t.length = k) && elB n t
theorem tupB_iff {n : Int} {k : Nat} {X : List (List Int)} : tupB n k X = true ↔ ∀ t ∈ X, TupOk n k t := by
  simp [tupB, TupOk]
/-- the value of an operation for the rows with the digits of a number -/
def opV (n : Int) (k : Nat) (f : Int × List Int) (X : List (List Int)) (i : Nat) : List Int := applyT n f.2 (chosen X (lowd (i : Int) (X.length : Int) f.1.toNat)) k
def opN (f : Int × List Int) (X : List (List Int)) : Nat := (pw (X.length : Int) f.1.toNat).toNat
theorem chosen_all {X : List (List Int)} {r : Nat} {ts : List (List Int)} (hl : ts.length = r) (ht : ∀ u ∈ ts, u ∈ X) : ∃ i : Nat, (i : Int) < pw (X.length : Int) r ∧ chosen X (lowd (i : Int) (X.length : Int) r) = ts := by
  have key : ∀ ts : List (List Int), (∀ u ∈ ts, u ∈ X) → ∃ ns : List Int, ns.length = ts.length ∧ (∀ x ∈ ns, 0 ≤ x ∧ x < (X.length : Int)) ∧ chosen X ns = ts := by
    intro ts
    induction ts with
    | nil => intro _; exact ⟨[], rfl, (fun x h => by cases h), rfl⟩
    | cons u ts ih =>
      intro h
      obtain ⟨ns, h1, h2, h3⟩ := ih fun v hv => h v (by simp [hv])
      obtain ⟨j, hj, e⟩ := List.getElem_of_mem (h u (by simp))
      refine ⟨(j : Int) :: ns, by simp [h1], fun x hx => ?_, ?_⟩
      · rcases List.mem_cons.1 hx with rfl | hx
        · omega
        · exact h2 x hx
      · rw [chosen, List.map_cons, ← chosen, h3]
        congr 1
        rw [Int.toNat_natCast, List.getD_eq_getElem?_getD, List.getElem?_eq_getElem hj]
        exact e
  obtain ⟨ns, h1, h2, h3⟩ := key ts ht
  rcases Nat.eq_zero_or_pos r with e | e
  · subst e
    have h4 : ts = [] := List.length_eq_zero_iff.1 hl
    subst h4
    exact ⟨0, by simp [pw], by simp [lowd, chosen]⟩
  · have hX : 1 ≤ X.length := by
      cases ts with
      | nil => simp at hl; omega
      | cons u ts => exact List.length_pos_of_mem (ht u (by simp))
    obtain ⟨h5, h6, h7⟩ := lowd_hor (X.length : Int) (by omega) ns h2
    rw [h1, hl] at h6 h7
    exact ⟨(hor (X.length : Int) ns).toNat, by omega, by rw [Int.toNat_of_nonneg h5, h7, h3]⟩
end Go.Proofs.Ytemfpennomelaaa
