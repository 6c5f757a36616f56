/- Rows of a condition: derivations and refutations in plain terms. No program in sight. -/
import Derived.Test.YtiifdhdhjioefaaDeriv
import Derived.Test.YtiifdhdhjioefaaObeyI
import Derived.Test.YtiifdhdhjioefaaRowOf
namespace Go.Proofs.Ytiifdhdhjioefaa
open Go Go.Proofs
set_option linter.unusedVariables false
def mayB (n : Int) (os : List (Int × List Int)) (a : Int) (rs : List (List Int × List Int)) : Bool := algB n os && (decide (n ≤ 4) && condB a rs)
theorem mayB_at {n : Int} {os : List (Int × List Int)} {a : Int} {rs : List (List Int × List Int)} (h : mayB n os a rs = true) : algB n os = true ∧ (1 ≤ n ∧ n ≤ 4) ∧ condB a rs = true ∧ 2 ≤ a ∧ a ≤ 3 := by
  simp only [mayB, Bool.and_eq_true, decide_eq_true_eq] at h
  obtain ⟨h1, _⟩ := algB_at h.1
  obtain ⟨h2, _⟩ := condB_rules h.2.2
  exact ⟨h.1, ⟨h1, h.2.1⟩, h.2.2, h2⟩
theorem pats_few {a : Int} {rs : List (List Int × List Int)} (h : condB a rs = true) : (pats rs).length ≤ 12 := by
  have h6 := (condB_rules h).2.1
  have := pats_le rs rs.length; rw [List.take_length] at this; omega
/-- places in a row -/
def rowS (N : Nat) (rs : List (List Int × List Int)) : Nat := (pats rs).length * N * N
theorem rowS_le {N : Nat} (hN : N ≤ 4) {a : Int} {rs : List (List Int × List Int)} (h : condB a rs = true) : rowS N rs ≤ 192 := by
  have h1 := pats_few h
  have h2 : (pats rs).length * N ≤ 12 * 4 := Nat.mul_le_mul h1 hN
  have h3 : (pats rs).length * N * N ≤ 48 * 4 := Nat.mul_le_mul h2 hN
  exact h3
theorem rowAll_leng (N : Nat) (tb : List Int) (ps : List (List Int)) : (rowAll N tb ps).length = ps.length * N * N := by
  induction ps with
  | nil => simp [rowAll]
  | cons p ps ih =>
    have h2 : rowAll N tb (p :: ps) = rowsX N tb p N ++ rowAll N tb ps := by simp [rowAll]
    rw [h2, List.length_append, rowsX_len, ih, List.length_cons, Nat.succ_mul, Nat.add_mul, Nat.add_comm]
theorem getD_el {n : Int} (h1 : 1 ≤ n) {l : List Int} (h : elB n l = true) (i : Nat) : 0 ≤ l.getD i 0 ∧ l.getD i 0 < n := by
  rw [List.getD_eq_getElem?_getD]
  rcases Nat.lt_or_ge i l.length with h2 | h2
  · rw [List.getElem?_eq_getElem h2]
    exact elB_mem h _ (List.getElem_mem h2)
  · rw [List.getElem?_eq_none h2, Option.getD_none]; omega
theorem rowAll_el {N : Nat} (h1 : 1 ≤ N) {tb : List Int} (h : elB (N : Int) tb = true) (ps : List (List Int)) : elB (N : Int) (rowAll N tb ps) = true := by
  rw [elB, List.all_eq_true]
  intro x hx
  obtain ⟨p, _, hx⟩ := List.mem_flatMap.1 hx
  obtain ⟨i, _, hx⟩ := List.mem_flatMap.1 hx
  obtain ⟨j, _, rfl⟩ := List.mem_map.1 hx
  have := getD_el (n := (N : Int)) (by omega) h (hor N (comp p [(i : Int), (j : Int)])).toNat
  simpa [cellXZ] using this
/-- the rows of the first projections -/
def fstR (N k size : Nat) (ps : List (List Int)) (m : Nat) : List Row := (List.range m).map fun i => rowAll N (projL (N : Int) k i size) ps
theorem fstR_succ (N k size : Nat) (ps : List (List Int)) (m : Nat) : fstR N k size ps (m + 1) = fstR N k size ps m ++ [rowAll N (projL (N : Int) k m size) ps] := by
  rw [fstR, List.range_succ, List.map_append]; rfl
theorem fstR_length (N k size : Nat) (ps : List (List Int)) (m : Nat) : (fstR N k size ps m).length = m := by simp [fstR]
theorem fstR_inv {N k size : Nat} (h1 : 1 ≤ N) (rs : List (List Int × List Int)) : DInv (N : Int) (rowS N rs) (fstR N k size (pats rs) k) := ⟨fun t ht => by
  obtain ⟨i, hi, rfl⟩ := List.mem_map.1 ht
  exact ⟨rowAll_leng _ _ _, rowAll_el h1 (projL_el (N : Int) k i size (by omega) (List.mem_range.1 hi)) _⟩⟩
def fstN (n a : Int) (rs : List (List Int × List Int)) : List Row := fstR n.toNat a.toNat (pw n a.toNat).toNat (pats rs) a.toNat
end Go.Proofs.Ytiifdhdhjioefaa
