/- The composition of two relations in plain terms: the list that the reference makes and the set of the list that the program makes are the same. No program in sight. -/
import Derived.Test.YtiifdhdhjioefaaRelOf
namespace Go.Proofs.Ytiifdhdhjioefaa
open Go Go.Proofs
set_option linter.unusedVariables false
def hasY (xs ys : List (List Int)) (x z j : Nat) : Bool := (List.range j).any fun y => decide ([(x : Int), (y : Int)] ∈ xs) && decide ([(y : Int), (z : Int)] ∈ ys)
theorem hasY_succ (xs ys : List (List Int)) (x z j : Nat) : hasY xs ys x z (j + 1) = (hasY xs ys x z j || (decide ([(x : Int), (j : Int)] ∈ xs) && decide ([(j : Int), (z : Int)] ∈ ys))) := by
  simp [hasY, List.range_succ]
theorem hasY_iff {xs ys : List (List Int)} {x z j : Nat} : hasY xs ys x z j = true ↔ ∃ y, y < j ∧ [(x : Int), (y : Int)] ∈ xs ∧ [(y : Int), (z : Int)] ∈ ys := by
  simp [hasY]
def cmpRow (N : Nat) (xs ys : List (List Int)) (x j : Nat) : List (List Int) := ((List.range j).filter fun z => hasY xs ys x z N).map fun z : Nat => [(x : Int), (z : Int)]
def cmpL (N : Nat) (xs ys : List (List Int)) (i : Nat) : List (List Int) := (List.range i).flatMap fun x => cmpRow N xs ys x N
theorem cmpRow_yes {N : Nat} {xs ys : List (List Int)} {x j : Nat} (h : hasY xs ys x j N = true) : cmpRow N xs ys x (j + 1) = cmpRow N xs ys x j ++ [[(x : Int), (j : Int)]] := by
  rw [cmpRow, List.range_succ, List.filter_append, List.map_append, List.filter_cons_of_pos (by simpa using h)]; rfl
theorem cmpRow_no {N : Nat} {xs ys : List (List Int)} {x j : Nat} (h : hasY xs ys x j N = false) : cmpRow N xs ys x (j + 1) = cmpRow N xs ys x j := by
  rw [cmpRow, List.range_succ, List.filter_append, List.map_append, List.filter_cons_of_neg (by simp [h])]
  simp [cmpRow]
theorem cmpL_succ (N : Nat) (xs ys : List (List Int)) (i : Nat) : cmpL N xs ys (i + 1) = cmpL N xs ys i ++ cmpRow N xs ys i N := by
  rw [cmpL, List.range_succ, List.flatMap_append]; simp [cmpL]
theorem cmpRow_le (N : Nat) (xs ys : List (List Int)) (x j : Nat) : (cmpRow N xs ys x j).length ≤ j := by
  rw [cmpRow, List.length_map]
  exact Nat.le_trans (List.length_filter_le _ _) (by simp)
theorem cmpL_le (N : Nat) (xs ys : List (List Int)) : ∀ i, (cmpL N xs ys i).length ≤ i * N
  | 0 => by simp [cmpL]
  | i + 1 => by
    have h1 := cmpL_le N xs ys i
    have h2 := cmpRow_le N xs ys i N
    rw [cmpL_succ, List.length_append, Nat.succ_mul]; omega
theorem cmp_two {x z x' z' : Int} (h : x < x' ∨ x = x' ∧ z < z') : cmp [x, z] [x', z'] < 0 := by
  rcases h with h | ⟨rfl, h⟩
  · simp only [cmp]; rw [if_neg (by omega), if_pos h]; decide
  · simp only [cmp, if_true]; rw [if_neg (by omega), if_pos h]; decide
theorem cmpL_str (N : Nat) (xs ys : List (List Int)) : ∀ i, Str (cmpL N xs ys i)
  | 0 => by simp [cmpL, Str]
  | i + 1 => by
    rw [cmpL_succ, Str, List.pairwise_append]
    refine ⟨cmpL_str N xs ys i, ?_, ?_⟩
    · rw [cmpRow, List.pairwise_map]
      exact ((List.pairwise_lt_range (n := N)).filter _).imp fun {a b} h => cmp_two (.inr ⟨rfl, Int.ofNat_lt.2 h⟩)
    · intro a ha b hb
      simp only [cmpL, cmpRow, List.mem_flatMap, List.mem_map, List.mem_filter, List.mem_range] at ha hb
      obtain ⟨x, h1, z, _, rfl⟩ := ha
      obtain ⟨z', _, rfl⟩ := hb
      exact cmp_two (.inl (by omega))
def impRow (ys : List (List Int)) (t : List Int) : List (List Int) := (ys.filter fun u => decide (t.getD 1 0 = u.getD 0 0)).map fun u => [t.getD 0 0, u.getD 1 0]
def impL (xs ys : List (List Int)) : List (List Int) := xs.flatMap (impRow ys)
theorem impRow_yes {ys : List (List Int)} {t : List Int} {j : Nat} (h : j < ys.length) (e : t.getD 1 0 = (ys[j]).getD 0 0) : impRow (ys.take (j + 1)) t = impRow (ys.take j) t ++ [[t.getD 0 0, (ys[j]).getD 1 0]] := by
  rw [impRow, List.take_add_one, List.getElem?_eq_getElem h, List.filter_append, Option.toList_some, List.filter_cons_of_pos (by simpa using e), List.map_append]; rfl
theorem impRow_no {ys : List (List Int)} {t : List Int} {j : Nat} (h : j < ys.length) (e : ¬ t.getD 1 0 = (ys[j]).getD 0 0) : impRow (ys.take (j + 1)) t = impRow (ys.take j) t := by
  rw [impRow, List.take_add_one, List.getElem?_eq_getElem h, List.filter_append, Option.toList_some, List.filter_cons_of_neg (by simpa using e), List.filter_nil, List.append_nil]; rfl
theorem impRow_le (ys : List (List Int)) (t : List Int) : (impRow ys t).length ≤ ys.length := by
  rw [impRow, List.length_map]; exact List.length_filter_le _ _
theorem impL_succ {xs ys : List (List Int)} {i : Nat} (h : i < xs.length) : impL (xs.take (i + 1)) ys = impL (xs.take i) ys ++ impRow ys xs[i] := by
  rw [impL, List.take_add_one, List.getElem?_eq_getElem h, List.flatMap_append]; simp [impL]
theorem impL_le (ys : List (List Int)) : ∀ xs : List (List Int), (impL xs ys).length ≤ xs.length * ys.length
  | [] => by simp [impL]
  | t :: xs => by
    have h1 := impL_le ys xs
    have h2 := impRow_le ys t
    have e : impL (t :: xs) ys = impRow ys t ++ impL xs ys := by simp [impL]
    rw [e, List.length_append, List.length_cons, Nat.succ_mul]; omega
theorem impL_len (xs ys : List (List Int)) : ∀ t ∈ impL xs ys, t.length = 2 := fun t ht => by
  simp only [impL, impRow, List.mem_flatMap, List.mem_map] at ht
  obtain ⟨x, _, z, _, rfl⟩ := ht
  rfl
theorem two_of {t : List Int} (h : t.length = 2) : t = [t.getD 0 0, t.getD 1 0] := by
  match t, h with
  | [a, b], _ => rfl
theorem nat_of {N : Nat} {n : Int} (hn : n = N) {t : List Int} (h : elB n t = true) {i : Nat} (hi : i < t.length) : ∃ x : Nat, x < N ∧ t.getD i 0 = x := by
  rw [elB, List.all_eq_true] at h
  have h1 := h _ (List.getElem_mem hi)
  simp only [decide_eq_true_eq] at h1
  refine ⟨(t[i]).toNat, by omega, ?_⟩
  rw [List.getD_eq_getElem?_getD, List.getElem?_eq_getElem hi]
  show t[i] = _
  omega
/-- the two ways make the same set -/
theorem comp_put {N : Nat} {n : Int} (hn : n = N) {xs ys : List (List Int)} (h1 : ∀ t ∈ xs, t.length = 2 ∧ elB n t = true) (h2 : ∀ t ∈ ys, t.length = 2 ∧ elB n t = true) : putF (impL xs ys) = cmpL N xs ys N := by
  obtain ⟨h3, h4⟩ := putF_str (impL_len xs ys)
  refine str_ext h3 (cmpL_str N xs ys N) fun t => (h4 t).trans ?_
  simp only [impL, impRow, cmpL, cmpRow, List.mem_flatMap, List.mem_map, List.mem_filter, List.mem_range, decide_eq_true_eq, hasY_iff]
  constructor
  · rintro ⟨u, hu, v, ⟨hv, e⟩, rfl⟩
    obtain ⟨hu2, hue⟩ := h1 u hu
    obtain ⟨hv2, hve⟩ := h2 v hv
    obtain ⟨x, hx, ex⟩ := nat_of hn hue (i := 0) (by omega)
    obtain ⟨y, hy, ey⟩ := nat_of hn hue (i := 1) (by omega)
    obtain ⟨z, hz, ez⟩ := nat_of hn hve (i := 1) (by omega)
    rw [two_of hu2, ex, ey] at hu
    rw [two_of hv2, ← e, ey, ez] at hv
    exact ⟨x, hx, z, ⟨hz, y, hy, hu, hv⟩, by rw [ex, ez]⟩
  · rintro ⟨x, hx, z, ⟨hz, y, hy, hu, hv⟩, rfl⟩
    exact ⟨_, hu, _, ⟨hv, rfl⟩, rfl⟩
end Go.Proofs.Ytiifdhdhjioefaa
