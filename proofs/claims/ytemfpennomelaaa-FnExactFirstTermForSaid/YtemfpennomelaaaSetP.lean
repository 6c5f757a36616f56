/- Lists of rows in order without repetition: what spec.l8Put and impl.different make, in plain terms. No program in sight; no conditions but those that are told. -/
import Derived.Test.YtemfpennomelaaaHas
import Derived.Test.YtemfpennomelaaaSrt
namespace Go.Proofs.Ytemfpennomelaaa
open Go Go.Proofs
set_option linter.unusedVariables false
theorem less_cmp {a b : List Int} (h : a.length = b.length) : less a b = true ↔ cmp a b < 0 := by
  have := cmp_less h
  cases e : less a b with
  | true => rw [e] at this; simp at this; simp; omega
  | false => rw [e] at this; simp at this; simp; omega
def Str (l : List (List Int)) : Prop := l.Pairwise fun a b => cmp a b < 0
theorem cmp_irrefl {a : List Int} (h : cmp a a < 0) : False := by rw [cmp_refl] at h; omega
def putL (l : List (List Int)) (t : List Int) : List (List Int) := if t ∈ l then l else l.take (placeOf l t) ++ t :: l.drop (placeOf l t)
theorem take_place (l : List (List Int)) (t : List Int) : l.take (placeOf l t) = l.takeWhile (fun u => less u t) ∧ l.drop (placeOf l t) = l.dropWhile (fun u => less u t) := by
  have h := List.takeWhile_append_dropWhile (p := fun u => less u t) (l := l)
  generalize hn : placeOf l t = n
  rw [placeOf] at hn
  generalize List.takeWhile (fun u => less u t) l = x at h hn
  generalize List.dropWhile (fun u => less u t) l = y at h
  subst h; subst hn
  exact ⟨List.take_left' rfl, List.drop_left' rfl⟩
theorem head_drop {p : List Int → Bool} {l : List (List Int)} {b : List Int} {r : List (List Int)} (h : l.dropWhile p = b :: r) : p b = false := by
  induction l with
  | nil => simp at h
  | cons x l ih =>
    rw [List.dropWhile_cons] at h
    split at h
    · exact ih h
    · rename_i hx
      cases h
      simpa using hx
theorem takeWhile_mem {p : List Int → Bool} {l : List (List Int)} {b : List Int} (h : b ∈ l.takeWhile p) : p b = true := by
  induction l with
  | nil => simp at h
  | cons x l ih =>
    rw [List.takeWhile_cons] at h
    split at h
    · rename_i hx
      rcases List.mem_cons.1 h with rfl | h
      · exact hx
      · exact ih h
    · cases h
theorem putL_str {l : List (List Int)} {t : List Int} {k : Nat} (hl : Str l) (hu : ∀ u ∈ l, u.length = k) (ht : t.length = k) : Str (putL l t) := by
  rw [putL]
  split
  · exact hl
  · rename_i hn
    obtain ⟨e1, e2⟩ := take_place l t
    rw [e1, e2]
    have hsplit := List.takeWhile_append_dropWhile (p := fun u => less u t) (l := l)
    have hl2 := hl
    rw [Str, ← hsplit, List.pairwise_append] at hl2
    have hd : ∀ b ∈ l.dropWhile (fun u => less u t), b ∈ l := fun b hb => (List.dropWhile_sublist _).subset hb
    have htw : ∀ b ∈ l.takeWhile (fun u => less u t), b ∈ l ∧ cmp b t < 0 := fun b hb => by
      have h1 := (List.takeWhile_sublist _).subset hb
      exact ⟨h1, (less_cmp (by rw [hu b h1, ht])).1 (takeWhile_mem (p := fun u => less u t) hb)⟩
    have hlow : ∀ b ∈ l.dropWhile (fun u => less u t), cmp t b < 0 := by
      cases hr : l.dropWhile (fun u => less u t) with
      | nil => intro b hb; cases hb
      | cons b0 r =>
        have h0 : b0 ∈ l := hd b0 (by rw [hr]; simp)
        have h1 : ¬ cmp b0 t < 0 := fun h => by
          have := head_drop hr
          rw [(less_cmp (by rw [hu b0 h0, ht])).2 h] at this; cases this
        have h2 : cmp t b0 < 0 := Decidable.byContradiction fun h => hn (by rw [cmp_eq h h1]; exact h0)
        intro b hb
        rcases List.mem_cons.1 hb with rfl | hb
        · exact h2
        · have h3 := hl2.2.1
          rw [hr, List.pairwise_cons] at h3
          exact cmp_trans h2 (h3.1 b hb)
    rw [Str, List.pairwise_append]
    refine ⟨hl2.1, List.pairwise_cons.2 ⟨hlow, hl2.2.1⟩, fun a ha b hb => ?_⟩
    rcases List.mem_cons.1 hb with rfl | hb
    · exact (htw a ha).2
    · exact hl2.2.2 a ha b hb
theorem str_sorted {l : List (List Int)} {k : Nat} (hl : Str l) (hu : ∀ u ∈ l, u.length = k) : Sorted l := fun i j hi hj => by
  rw [Str, List.pairwise_iff_getElem] at hl
  exact (less_cmp (by rw [hu _ (List.getElem_mem _), hu _ (List.getElem_mem _)])).2 (hl i j (by omega) hj hi)
/-! ### impl.different -/
section
variable {β : Type} [Inhabited β]
end
end Go.Proofs.Ytemfpennomelaaa
