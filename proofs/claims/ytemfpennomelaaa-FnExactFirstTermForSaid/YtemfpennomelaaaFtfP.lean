/- The least terms of the tuples of a subpower, in plain terms: two assignments of terms that are sound and closed are the same. No program in sight. -/
import Derived.Test.YtemfpennomelaaaSpanP
namespace Go.Proofs.Ytemfpennomelaaa
open Go Go.Proofs
set_option linter.unusedVariables false
/-- terms by length, then by their letters -/
def tlt (s t : List Int) : Bool := decide (s.length < t.length) || (decide (s.length = t.length) && less s t)
abbrev tle (s t : List Int) : Prop := s = t ∨ tlt s t = true
theorem tlt_iff {s t : List Int} : tlt s t = true ↔ s.length < t.length ∨ (s.length = t.length ∧ less s t = true) := by simp [tlt]
theorem tlt_irrefl (s : List Int) : tlt s s = false := by simp [tlt, less_irrefl]
theorem tlt_trans {a b c : List Int} (h1 : tlt a b = true) (h2 : tlt b c = true) : tlt a c = true := by
  rw [tlt_iff] at *
  rcases h1 with h1 | ⟨h1, h3⟩ <;> rcases h2 with h2 | ⟨h2, h4⟩
  · exact .inl (by omega)
  · exact .inl (by omega)
  · exact .inl (by omega)
  · exact .inr ⟨by omega, less_trans h3 h4⟩
theorem tle_trans {a b c : List Int} (h1 : tle a b) (h2 : tle b c) : tle a c := by
  rcases h1 with rfl | h1
  · exact h2
  · rcases h2 with rfl | h2
    · exact .inr h1
    · exact .inr (tlt_trans h1 h2)
theorem tle_antisymm {a b : List Int} (h1 : tle a b) (h2 : tle b a) : a = b := by
  rcases h1 with h1 | h1
  · exact h1
  · rcases h2 with h2 | h2
    · exact h2.symm
    · have := tlt_trans h1 h2
      rw [tlt_irrefl] at this
      cases this
theorem tle_len {a b : List Int} (h : tle a b) : a.length ≤ b.length := by
  rcases h with rfl | h
  · exact Nat.le_refl _
  · rw [tlt_iff] at h; omega
theorem less_app1 (v U V : List Int) : less (v ++ V) (v ++ U) = less V U := by
  induction v with
  | nil => rfl
  | cons x v ih => simp [less, ih]
theorem less_app2 : ∀ {v u : List Int} (V U : List Int), v.length = u.length → less v u = true → less (v ++ V) (u ++ U) = true
  | [], [], V, U, _, h => by simp [less] at h
  | [], _ :: _, V, U, h, _ => by simp at h
  | _ :: _, [], V, U, h, _ => by simp at h
  | x :: v, y :: u, V, U, h, h2 => by
    simp only [List.cons_append, less] at h2 ⊢
    split
    · rename_i e
      rw [if_pos e] at h2
      exact less_app2 V U (by simpa using h) h2
    · rename_i e
      rw [if_neg e] at h2
      exact h2
theorem tle_app {v u V U : List Int} (h1 : tle v u) (h2 : tle V U) : tle (v ++ V) (u ++ U) := by
  have l1 := tle_len h1
  have l2 := tle_len h2
  by_cases hl : v.length + V.length < u.length + U.length
  · exact .inr (tlt_iff.2 (.inl (by simp only [List.length_append]; omega)))
  · rcases h1 with rfl | h1
    · rcases h2 with rfl | h2
      · exact .inl rfl
      · rw [tlt_iff] at h2
        refine .inr (tlt_iff.2 (.inr ⟨by simp only [List.length_append]; omega, ?_⟩))
        rw [less_app1]
        rcases h2 with h2 | h2
        · omega
        · exact h2.2
    · rw [tlt_iff] at h1
      refine .inr (tlt_iff.2 (.inr ⟨by simp only [List.length_append]; omega, ?_⟩))
      rcases h1 with h1 | h1
      · omega
      · exact less_app2 V U h1.1 h1.2
theorem tle_cons {x : Int} {V U : List Int} (h : tle V U) : tle (x :: V) (x :: U) := tle_app (v := [x]) (u := [x]) (.inl rfl) h
theorem tle_flat : ∀ {vs us : List (List Int)}, vs.length = us.length → (∀ i (h1 : i < vs.length) (h2 : i < us.length), tle vs[i] us[i]) → tle vs.flatten us.flatten
  | [], [], _, _ => .inl rfl
  | [], _ :: _, h, _ => by simp at h
  | _ :: _, [], h, _ => by simp at h
  | v :: vs, u :: us, h, hi => by
    rw [List.flatten_cons, List.flatten_cons]
    exact tle_app (hi 0 (by simp) (by simp)) (tle_flat (by simpa using h) fun i h1 h2 => hi (i + 1) (Nat.succ_lt_succ h1) (Nat.succ_lt_succ h2))
/-- a term that makes a tuple -/
inductive Made (n : Int) (os : List (Int × List Int)) (k : Nat) (G : List (List Int)) : List Int → List Int → Prop
  | gen {i : Nat} (h : i < G.length) : Made n os k G [(i : Int)] G[i]
  | op {j : Nat} (hj : j < os.length) {us ts : List (List Int)} : ts.length = os[j].1.toNat → us.length = ts.length → (∀ i (h1 : i < us.length) (h2 : i < ts.length), Made n os k G us[i] ts[i]) →
      Made n os k G ((-1 - (j : Int)) :: us.flatten) (applyT n os[j].2 ts k)
theorem Made.ne {n : Int} {os : List (Int × List Int)} {k : Nat} {G : List (List Int)} {u t : List Int} (h : Made n os k G u t) : u ≠ [] := by
  cases h <;> simp
theorem Made.clo {n : Int} {os : List (Int × List Int)} {k : Nat} {G : List (List Int)} {u t : List Int} (h : Made n os k G u t) : Clo n os k G t := by
  induction h with
  | gen h => exact .gen (List.getElem_mem h)
  | op hj h1 h2 _ ih =>
    refine .op (List.getElem_mem hj) h1 fun u hu => ?_
    obtain ⟨i, hi, rfl⟩ := List.getElem_of_mem hu
    exact ih i (by omega) hi
/-- an assignment of terms to the tuples of a list (no term: []) that is sound and closed -/
structure BestT (n : Int) (os : List (Int × List Int)) (k : Nat) (G L : List (List Int)) (b : List Int → List Int) : Prop where
  sound : ∀ t ∈ L, b t ≠ [] → Made n os k G (b t) t ∧ (b t).length ≤ 60
  gen : ∀ i (h : i < G.length), b G[i] ≠ [] ∧ tle (b G[i]) [(i : Int)]
  op : ∀ j (hj : j < os.length) (ts : List (List Int)), ts.length = os[j].1.toNat → (∀ t ∈ ts, t ∈ L ∧ b t ≠ []) → 1 + (ts.map b).flatten.length ≤ 60 → b (applyT n os[j].2 ts k) ≠ [] ∧ tle (b (applyT n os[j].2 ts k)) ((-1 - (j : Int)) :: (ts.map b).flatten)
theorem flat_mem_len {us : List (List Int)} {i : Nat} (h : i < us.length) : us[i].length ≤ us.flatten.length := by
  induction us generalizing i with
  | nil => simp at h
  | cons u us ih =>
    rw [List.flatten_cons, List.length_append]
    cases i with
    | zero => exact Nat.le_add_right _ _
    | succ i => exact Nat.le_trans (ih (by simpa using h)) (Nat.le_add_left _ _)
theorem BestT.least {n : Int} {os : List (Int × List Int)} {k : Nat} {G L : List (List Int)} {b : List Int → List Int} (hb : BestT n os k G L b) (hL : ∀ t, Clo n os k G t → t ∈ L) {u t : List Int} (h : Made n os k G u t) (hu : u.length ≤ 60) : b t ≠ [] ∧ tle (b t) u := by
  induction h with
  | gen h => exact hb.gen _ h
  | @op j hj us ts h1 h2 hm ih =>
    have hle : ∀ i (k1 : i < us.length) (k2 : i < ts.length), b ts[i] ≠ [] ∧ tle (b ts[i]) us[i] := fun i k1 k2 => ih i k1 k2 (by
      have := flat_mem_len k1
      simp only [List.length_cons] at hu
      omega)
    have hfl : tle (ts.map b).flatten us.flatten := tle_flat (by simp [h2]) fun i k1 k2 => by
      rw [List.getElem_map]; exact (hle i k2 (by simpa using k1)).2
    have hlen := tle_len hfl
    simp only [List.length_cons] at hu
    obtain ⟨h3, h4⟩ := hb.op j hj ts h1 (fun t ht => by
      obtain ⟨i, hi, rfl⟩ := List.getElem_of_mem ht
      exact ⟨hL _ (hm i (by omega) hi).clo, (hle i (by omega) hi).1⟩) (by omega)
    exact ⟨h3, tle_trans h4 (tle_cons hfl)⟩
theorem BestT.uniq {n : Int} {os : List (Int × List Int)} {k : Nat} {G L L' : List (List Int)} {b b' : List Int → List Int} (hb : BestT n os k G L b) (hb' : BestT n os k G L' b') (hL : ∀ t, Clo n os k G t → t ∈ L) (hL' : ∀ t, Clo n os k G t → t ∈ L') {t : List Int} (h1 : t ∈ L) (h2 : t ∈ L') : b t = b' t := by
  by_cases e : b t = []
  · by_cases e' : b' t = []
    · rw [e, e']
    · obtain ⟨m, l⟩ := hb'.sound t h2 e'
      exact absurd e (hb.least hL m l).1
  · obtain ⟨m, l⟩ := hb.sound t h1 e
    obtain ⟨e', k1⟩ := hb'.least hL' m l
    obtain ⟨m', l'⟩ := hb'.sound t h2 e'
    exact (tle_antisymm k1 (hb.least hL m' l').2).symm
end Go.Proofs.Ytemfpennomelaaa
