/- The algebra of a subpower in plain terms. No program in sight. -/
import Derived.Test.YtodlpdedldhebaaSubT
namespace Go.Proofs.Ytodlpdedldhebaa
open Go Go.Proofs
set_option linter.unusedVariables false
theorem kv_at {X : List (List Int)} (hX : X.Nodup) (hb : ∀ t ∈ X, Byt t) {t : List Int} (ht : t ∈ X) (s : Nat) : ∃ j : Nat, j < X.length ∧ X[j]? = some t ∧ kvGet (kvL X s) (keyS t) = ((s + j : Nat) : Int) := by
  induction X generalizing s with
  | nil => cases ht
  | cons u X ih =>
    rw [List.nodup_cons] at hX
    by_cases e : u = t
    · subst e
      exact ⟨0, by simp, rfl, by rw [kvL, kvGet, if_pos rfl]; rfl⟩
    · have ht2 : t ∈ X := (List.mem_cons.1 ht).elim (fun h => (e h.symm).elim) id
      obtain ⟨j, h1, h2, h3⟩ := ih hX.2 (fun v hv => hb v (by simp [hv])) ht2 (s + 1)
      refine ⟨j + 1, by simpa using h1, by simpa using h2, ?_⟩
      rw [kvL, kvGet, if_neg (fun h => e (keyS_inj (hb u (by simp)) (hb t ht) h)), h3]
      omega
theorem kv_place {X : List (List Int)} (hs : Sorted X) (hb : ∀ t ∈ X, Byt t) {t : List Int} (ht : t ∈ X) : kvGet (kvL X 0) (keyS t) = (placeOf X t : Int) := by
  obtain ⟨j, h1, h2, h3⟩ := kv_at (sorted_nodup hs) hb ht 0
  rw [List.getElem?_eq_getElem h1, Option.some.injEq] at h2
  rw [h3, Nat.zero_add, placeOf_eq (p := j) (by omega) (fun i hi hij => by rw [← h2]; exact hs i j hij h1) (fun i hi hij => ?_)]
  rcases Nat.lt_or_eq_of_le hij with h4 | h4
  · cases e : less X[i] t with
    | false => rfl
    | true =>
      have h5 := hs j i h4 hi
      rw [h2] at h5
      have := less_trans h5 e
      rw [less_irrefl] at this; cases this
  · subst h4
    rw [h2]; exact less_irrefl t
/-- the table of an operation on the tuples -/
def opTab (n : Int) (k : Nat) (X : List (List Int)) (f : Int × List Int) (m : Nat) : List Int := (List.range m).map fun i => (placeOf X (opV n k f X i) : Int)
theorem opTab_succ (n : Int) (k : Nat) (X : List (List Int)) (f : Int × List Int) (m : Nat) : opTab n k X f (m + 1) = opTab n k X f m ++ [(placeOf X (opV n k f X m) : Int)] := by
  simp [opTab, List.range_succ]
def algOps (n : Int) (k : Nat) (X : List (List Int)) (os : List (Int × List Int)) : List (Int × List Int) := os.map fun f => (f.1, opTab n k X f (opN f X))
theorem algOps_succ {n : Int} {k : Nat} {X : List (List Int)} {os : List (Int × List Int)} {j : Nat} (h : j < os.length) : algOps n k X (os.take (j + 1)) = algOps n k X (os.take j) ++ [(os[j].1, opTab n k X os[j] (opN os[j] X))] := by
  rw [algOps, List.take_add_one, List.getElem?_eq_getElem h, List.map_append]; rfl
def aosOk (n : Int) (os : List (Int × List Int)) (k : Int) (X : List (List Int)) : Bool := subV n os k X && decide (1 ≤ X.length ∧ X.length ≤ 8)
theorem aosOk_at {n : Int} {os : List (Int × List Int)} {k : Int} {X : List (List Int)} (h : aosOk n os k X = true) : subV n os k X = true ∧ 1 ≤ X.length ∧ X.length ≤ 8 := by
  simp only [aosOk, Bool.and_eq_true, decide_eq_true_eq] at h; exact h
end Go.Proofs.Ytodlpdedldhebaa
