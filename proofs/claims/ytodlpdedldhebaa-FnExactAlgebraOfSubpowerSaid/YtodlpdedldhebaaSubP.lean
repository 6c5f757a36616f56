/- When a list of tuples is a subpower, in plain terms. No program in sight. -/
import Derived.Test.YtodlpdedldhebaaSpanP
import Derived.Test.YtodlpdedldhebaaCloneP
namespace Go.Proofs.Ytodlpdedldhebaa
open Go Go.Proofs
set_option linter.unusedVariables false
def tupB (n : Int) (k : Nat) (X : List (List Int)) : Bool := X.all fun t => decide (t.length = k) && elB n t
theorem tupB_iff {n : Int} {k : Nat} {X : List (List Int)} : tupB n k X = true ↔ ∀ t ∈ X, TupOk n k t := by
  simp [tupB, TupOk]
def srtAt (X : List (List Int)) (j : Nat) : Bool := j == 0 || less (X.getD (j - 1) []) (X.getD j [])
def srtB (X : List (List Int)) : Bool := (List.range X.length).all (srtAt X)
theorem srtB_sorted {X : List (List Int)} (h : srtB X = true) : Sorted X := by
  have h1 : ∀ j (hj : j < X.length) (h0 : 0 < j), less X[j - 1] X[j] = true := fun j hj h0 => by
    rw [srtB, List.all_eq_true] at h
    have h2 := h j (List.mem_range.2 hj)
    rw [srtAt, show (j == 0) = false by simp; omega, Bool.false_or, List.getD_eq_getElem?_getD, List.getD_eq_getElem?_getD, List.getElem?_eq_getElem hj, List.getElem?_eq_getElem (by omega)] at h2
    exact h2
  intro i j hij hj
  induction j with
  | zero => omega
  | succ j ih =>
    have h2 := h1 (j + 1) hj (by omega)
    simp only [Nat.add_sub_cancel] at h2
    rcases Nat.lt_or_eq_of_le (Nat.le_of_lt_succ hij) with h3 | h3
    · exact less_trans (ih h3 (by omega)) h2
    · subst h3; exact h2
theorem srtB_no {X : List (List Int)} {j : Nat} (hj : j < X.length) (h0 : 0 < j) (h : less (X[j - 1]'(by omega)) X[j] = false) : srtB X = false := by
  cases e : srtB X with
  | false => rfl
  | true => rw [srtB_sorted e (j - 1) j (by omega) hj] at h; cases h
theorem srtB_yes {X : List (List Int)} (h : ∀ j (hj : j < X.length), 0 < j → less (X[j - 1]'(by omega)) X[j] = true) : srtB X = true := by
  rw [srtB, List.all_eq_true]
  intro j hj
  have hj := List.mem_range.1 hj
  rw [srtAt]
  rcases Nat.eq_zero_or_pos j with rfl | h0
  · rfl
  · rw [List.getD_eq_getElem?_getD, List.getD_eq_getElem?_getD, List.getElem?_eq_getElem hj, List.getElem?_eq_getElem (by omega)]
    have := h j hj h0
    simp [this]
theorem sorted_nodup {X : List (List Int)} (h : Sorted X) : X.Nodup := by
  rw [List.Nodup, List.pairwise_iff_getElem]
  intro i j hi hj hij e
  have := h i j hij hj
  rw [e, less_irrefl] at this
  cases this
/-- the value of an operation for the rows with the digits of a number -/
def opV (n : Int) (k : Nat) (f : Int × List Int) (X : List (List Int)) (i : Nat) : List Int := applyT n f.2 (chosen X (lowd (i : Int) (X.length : Int) f.1.toNat)) k
def opN (f : Int × List Int) (X : List (List Int)) : Nat := (pw (X.length : Int) f.1.toNat).toNat
def opCl (n : Int) (k : Nat) (X : List (List Int)) (f : Int × List Int) : Bool := (List.range (opN f X)).all fun i => decide (opV n k f X i ∈ X)
theorem chosen_all {X : List (List Int)} {r : Nat} {ts : List (List Int)} (hl : ts.length = r) (ht : ∀ u ∈ ts, u ∈ X) : ∃ i : Nat, (i : Int) < pw (X.length : Int) r ∧ chosen X (lowd (i : Int) (X.length : Int) r) = ts := by
  have key : ∀ ts : List (List Int), (∀ u ∈ ts, u ∈ X) → ∃ ns : List Int, ns.length = ts.length ∧ (∀ x ∈ ns, 0 ≤ x ∧ x < (X.length : Int)) ∧ chosen X ns = ts := by
    intro ts
    induction ts with
    | nil => intro _; exact ⟨[], rfl, (fun x h => by cases h), rfl⟩
    | cons u ts ih =>
      intro h
      obtain ⟨ns, h1, h2, h3⟩ := ih fun v hv => h v (by simp [hv])
      obtain ⟨j, hj, e⟩ := List.getElem_of_mem (h u (by simp))
      refine ⟨(j : Int) :: ns, by simp [h1], fun x hx => ?_, ?_⟩
      · rcases List.mem_cons.1 hx with rfl | hx
        · omega
        · exact h2 x hx
      · rw [chosen, List.map_cons, ← chosen, h3]
        congr 1
        rw [Int.toNat_natCast, List.getD_eq_getElem?_getD, List.getElem?_eq_getElem hj]
        exact e
  obtain ⟨ns, h1, h2, h3⟩ := key ts ht
  rcases Nat.eq_zero_or_pos r with e | e
  · subst e
    have h4 : ts = [] := List.length_eq_zero_iff.1 hl
    subst h4
    exact ⟨0, by simp [pw], by simp [lowd, chosen]⟩
  · have hX : 1 ≤ X.length := by
      cases ts with
      | nil => simp at hl; omega
      | cons u ts => exact List.length_pos_of_mem (ht u (by simp))
    obtain ⟨h5, h6, h7⟩ := lowd_hor (X.length : Int) (by omega) ns h2
    rw [h1, hl] at h6 h7
    exact ⟨(hor (X.length : Int) ns).toNat, by omega, by rw [Int.toNat_of_nonneg h5, h7, h3]⟩
theorem opCl_iff {n : Int} {os : List (Int × List Int)} {k : Nat} {X : List (List Int)} : os.all (opCl n k X) = true ↔ ClosedU n os k X := by
  rw [List.all_eq_true]
  constructor
  · intro h f hf ts hl ht
    obtain ⟨i, h1, h2⟩ := chosen_all hl ht
    have h3 := h f hf
    rw [opCl, List.all_eq_true] at h3
    have h4 := h3 i (List.mem_range.2 (by rw [opN]; omega))
    rw [opV, h2] at h4
    simpa using h4
  · intro h f hf
    rw [opCl, List.all_eq_true]
    intro i hi
    have hi := List.mem_range.1 hi
    rw [decide_eq_true_eq, opV]
    refine h f hf _ (by simp [chosen, lowd_length]) ?_
    intro u hu
    obtain ⟨x, hx, rfl⟩ := List.mem_map.1 hu
    rw [opN] at hi
    have hX : 1 ≤ X.length := by
      rcases Nat.eq_zero_or_pos X.length with e | e
      · exfalso
        rw [e] at hi
        have hr : 0 < f.1.toNat := by
          rcases Nat.eq_zero_or_pos f.1.toNat with e2 | e2
          · rw [e2] at hx; cases hx
          · exact e2
        obtain ⟨r, hr2⟩ := Nat.exists_eq_succ_of_ne_zero (Nat.ne_of_gt hr)
        rw [hr2] at hi
        simp [pw] at hi
      · exact e
    have h5 := lowd_range' (i : Int) (X.length : Int) (by omega) (by omega) _ x hx
    rw [List.getD_eq_getElem?_getD, List.getElem?_eq_getElem (show x.toNat < X.length by omega)]
    exact List.getElem_mem _
/-- valid tuples in order, not too many, closed -/
def subB (n : Int) (os : List (Int × List Int)) (k : Nat) (X : List (List Int)) : Bool := decide (X.length ≤ mostV os) && tupB n k X && srtB X && os.all (opCl n k X)
theorem sub_yes {n : Int} {os : List (Int × List Int)} {k : Nat} {X L : List (List Int)} (hX : X.Nodup) (hL : SpanYes n os k X L) : L.length = X.length ↔ os.all (opCl n k X) = true := by
  obtain ⟨h1, h2, h3⟩ := hL
  have hXL : ∀ t ∈ X, t ∈ L := fun t ht => (h2 t).2 (.gen ht)
  rw [opCl_iff]
  constructor
  · intro he
    have hLX : ∀ t ∈ L, t ∈ X := fun t ht => Decidable.byContradiction fun hn => by
      have := nodup_le (L := t :: X) (M := L) (List.nodup_cons.2 ⟨hn, hX⟩) (fun u hu => (List.mem_cons.1 hu).elim (fun e => e ▸ ht) (hXL u))
      simp at this; omega
    intro f hf ts hl ht
    exact hLX _ ((h2 _).2 (.op hf hl fun u hu => .gen (ht u hu)))
  · intro hc
    have h4 := nodup_le h1 (fun t ht => hc.clo (fun u hu => hu) ((h2 t).1 ht))
    have h5 := nodup_le hX hXL
    omega
theorem sub_no {n : Int} {os : List (Int × List Int)} {k : Nat} {X : List (List Int)} (hl : X.length ≤ mostV os) (h : SpanNo n os k X) : os.all (opCl n k X) = false := by
  cases e : os.all (opCl n k X) with
  | false => rfl
  | true =>
    obtain ⟨M, h1, h2, h3⟩ := h
    have hc := opCl_iff.1 e
    have := nodup_le h1 (fun t ht => hc.clo (fun u hu => hu) (h2 t ht))
    omega
end Go.Proofs.Ytodlpdedldhebaa
