/- An operation applied to rows place by place: spec.l8Apply, l12Compose, l13Result, impl.composeTables, applyTuples. Proved for this program; conditions: up to 3 rows of elements of 1 to 8, a table of all their values. -/
import Derived.Test.YtiifdhdhjioefaaRowFn
namespace Go.Proofs.Ytiifdhdhjioefaa
open Go Go.Proofs
set_option linter.unusedVariables false

/-- the elements of rows at a place -/
def colT (ts : List (List Int)) (j : Nat) : List Int := ts.map fun t => t.getD j 0
theorem colT_length (ts : List (List Int)) (j : Nat) : (colT ts j).length = ts.length := by simp [colT]
def applyT (n : Int) (tb : List Int) (ts : List (List Int)) (m : Nat) : List Int := (List.range m).map fun j => tb.getD (hor n (colT ts j)).toNat 0
theorem applyT_length (n : Int) (tb : List Int) (ts : List (List Int)) (m : Nat) : (applyT n tb ts m).length = m := by simp [applyT]
/-- what an operation needs of rows of m places at least -/
structure ApOk (n : Int) (tb : List Int) (ts : List (List Int)) (m : Nat) : Prop where
  n1 : 1 ≤ n
  n8 : n ≤ 8
  few : ts.length ≤ 3
  tab : (tb.length : Int) = pw n ts.length
  row : ∀ t ∈ ts, m ≤ t.length ∧ elB n t = true
  big : m ≤ 1048576
theorem elB_at {n : Int} {t : List Int} (h : elB n t = true) {j : Nat} (hj : j < t.length) : 0 ≤ t[j] ∧ t[j] < n := by
  rw [elB, List.all_eq_true] at h
  have := h _ (List.getElem_mem hj)
  simpa using this
theorem ApOk.el {n : Int} {tb : List Int} {ts : List (List Int)} {m : Nat} (h : ApOk n tb ts m) {j : Nat} (hj : j < m) : elB n (colT ts j) = true := by
  rw [elB, List.all_eq_true]
  intro x hx
  obtain ⟨t, ht, rfl⟩ := List.mem_map.1 hx
  obtain ⟨h1, h2⟩ := h.row t ht
  have := elB_at h2 (j := j) (by omega)
  simp only [List.getD_eq_getElem?_getD, List.getElem?_eq_getElem (show j < t.length by omega), Option.getD_some, decide_eq_true_eq]
  exact this
/-- a round of the sum -/
theorem ApOk.step {n : Int} {tb : List Int} {ts : List (List Int)} {m : Nat} (h : ApOk n tb ts m) {j i : Nat} (hj : j < m) (hi : i < ts.length) :
    ∃ hl : j < ts[i].length, 0 ≤ ts[i][j] ∧ ts[i][j] < n ∧ hor n ((colT ts j).take (i + 1)) = hor n ((colT ts j).take i) * n + ts[i][j] ∧ 0 ≤ hor n ((colT ts j).take i) ∧ hor n ((colT ts j).take i) ≤ 512 ∧ 0 ≤ hor n ((colT ts j).take i) * n ∧ hor n ((colT ts j).take i) * n ≤ 4096 := by
  obtain ⟨h1, h2⟩ := h.row _ (List.getElem_mem hi)
  have hl : j < ts[i].length := by omega
  have h3 := elB_at h2 hl
  have h4 := hor_succ n (colT ts j) i (by simp [colT]; omega)
  have h5 : (colT ts j)[i]'(by simp [colT]; omega) = ts[i][j] := by simp [colT, hl]
  obtain ⟨h6, h7⟩ := hor_bound n (by have := h.n1; omega) (colT ts j) (h.el hj) i (by simp [colT]; omega)
  have h8 := pw_512' n h.n1 h.n8 i (by have := h.few; omega)
  have h9 : 0 ≤ hor n ((colT ts j).take i) * n := Int.mul_nonneg h6 (by have := h.n1; omega)
  have h10 : hor n ((colT ts j).take i) * n ≤ 512 * 8 := Int.mul_le_mul (by omega) h.n8 (by have := h.n1; omega) (by decide)
  exact ⟨hl, h3.1, h3.2, by rw [h4, h5], h6, by omega, h9, by omega⟩
/-- the value's place in the table -/
theorem ApOk.idx {n : Int} {tb : List Int} {ts : List (List Int)} {m : Nat} (h : ApOk n tb ts m) {j : Nat} (hj : j < m) : 0 ≤ hor n (colT ts j) ∧ (hor n (colT ts j)).toNat < tb.length := by
  have h1 := hor_bound n (by have := h.n1; omega) (colT ts j) (h.el hj) (colT ts j).length (Nat.le_refl _)
  rw [List.take_length] at h1
  have h2 := h.tab
  rw [colT_length] at h1
  omega
theorem ApOk.mono {n : Int} {tb : List Int} {ts : List (List Int)} {m k : Nat} (h : ApOk n tb ts m) (hk : k ≤ m) : ApOk n tb ts k :=
  ⟨h.n1, h.n8, h.few, h.tab, fun t ht => ⟨Nat.le_trans hk (h.row t ht).1, (h.row t ht).2⟩, Nat.le_trans hk h.big⟩
theorem getD_g (p : List Int) (d : Int) (j : Nat) (h : j < p.length) : p.getD j d = p[j] := by
  rw [List.getD_eq_getElem?_getD, List.getElem?_eq_getElem h]; rfl
theorem applyT_el {n : Int} {tb : List Int} {ts : List (List Int)} {m : Nat} (h : ApOk n tb ts m) (ht : elB n tb = true) : elB n (applyT n tb ts m) = true := by
  rw [elB, List.all_eq_true]
  intro x hx
  obtain ⟨j, hj, rfl⟩ := List.mem_map.1 hx
  have h1 := h.idx (List.mem_range.1 hj)
  rw [getD_g _ _ _ h1.2]
  simpa using elB_at ht h1.2

end Go.Proofs.Ytiifdhdhjioefaa
