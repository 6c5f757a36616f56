/- The search for least terms, the shortest first: from one place of the line to the next, and its end. No program in sight. -/
import Derived.Test.YtemfpennomelaaaFtfE
import Derived.Test.YtemfpennomelaaaSubT
namespace Go.Proofs.Ytemfpennomelaaa
open Go Go.Proofs
set_option linter.unusedVariables false
/-- every operation over tuples of done places is covered -/
def CovL (n : Int) (os : List (Int × List Int)) (k : Nat) (X : List (List Int)) (line : List Int) (out : List (List Int)) (j : Nat) (f : Int × List Int) : Prop := ∀ ts : List (List Int), ts.length = f.1.toNat → (∀ u ∈ ts, OnLine X line u) → CovO n os k X out j f.2 ts
structure Dj (n : Int) (os : List (Int × List Int)) (k : Nat) (G X : List (List Int)) (line : List Int) (out : List (List Int)) : Prop where
  len : out.length = X.length
  snd : SndO n os k G X out
  gen : GenO G X out G.length
  zero : ∀ j (hj : j < os.length), os[j].1 = 0 → CovO n os k X out j os[j].2 []
  mem : ∀ x ∈ line, 0 ≤ x ∧ x.toNat < X.length ∧ out.getD x.toNat [] ≠ []
  front : ∀ x ∈ line, ∀ i, i < X.length → (i : Int) ∉ line → out.getD i [] ≠ [] → tle (out.getD x.toNat []) (out.getD i [])
  cov : ∀ j (hj : j < os.length), 0 < os[j].1 → CovL n os k X line out j os[j]
  nodup : line.Nodup
/-- the least of those that are not done is the next -/
theorem Dj.next {n : Int} {os : List (Int × List Int)} {k : Nat} {G X : List (List Int)} {line : List Int} {out : List (List Int)} (h : Dj n os k G X line out) {p : Nat} (hp : p < X.length) (hne : out.getD p [] ≠ []) (hni : (p : Int) ∉ line) (hmin : ∀ i, i < X.length → (i : Int) ∉ line → out.getD i [] ≠ [] → tle (out.getD p []) (out.getD i [])) : Dk n os k G X (line ++ [(p : Int)]) p out := by
  refine ⟨h.len, h.snd, h.gen, h.zero, fun x hx => ?_, fun x hx i hi hni2 hne2 => ?_, by simp⟩
  · rcases List.mem_append.1 hx with hx | hx
    · obtain ⟨h1, h2, h3⟩ := h.mem x hx
      exact ⟨h1, h2, h3, tle_len (h.front x hx p hp hni hne)⟩
    · rw [List.mem_singleton] at hx
      subst hx
      exact ⟨by omega, by simpa using hp, by simpa using hne, by simp⟩
  · have h4 : (i : Int) ∉ line := fun h5 => hni2 (List.mem_append.2 (.inl h5))
    rcases List.mem_append.1 hx with hx | hx
    · exact h.front x hx i hi h4 hne2
    · rw [List.mem_singleton] at hx
      subst hx
      simpa using hmin i hi h4 hne2
theorem Dk.done {n : Int} {os : List (Int × List Int)} {k : Nat} {G X : List (List Int)} {line : List Int} {p : Nat} {out : List (List Int)} (h : Dk n os k G X line p out) (hn : line.Nodup) (hc : ∀ j (hj : j < os.length), 0 < os[j].1 → CovL n os k X line out j os[j]) : Dj n os k G X line out :=
  ⟨h.len, h.snd, h.gen, h.zero, fun x hx => by obtain ⟨h1, h2, h3, _⟩ := h.mem x hx; exact ⟨h1, h2, h3⟩, h.front, hc, hn⟩
theorem chosen_len (xs : List (List Int)) (ns : List Int) : (chosen xs ns).length = ns.length := by simp [chosen]
theorem chosen_get {X : List (List Int)} {line : List Int} {i : Nat} (hi : i < line.length) (h0 : 0 ≤ line[i]) (hx : (line[i]).toNat < X.length) : (chosen X line).getD i [] = X[(line[i]).toNat] := by
  rw [List.getD_eq_getElem?_getD, List.getElem?_eq_getElem (by rw [chosen_len]; exact hi)]
  simp [chosen, List.getD_eq_getElem?_getD, List.getElem?_eq_getElem hx]
theorem on_line {X : List (List Int)} {line : List Int} {u : List Int} (hm : ∀ x ∈ line, 0 ≤ x ∧ x.toNat < X.length) (h : u ∈ chosen X line) : OnLine X line u := by
  obtain ⟨x, hx, rfl⟩ := List.mem_map.1 h
  obtain ⟨h1, h2⟩ := hm x hx
  exact ⟨x.toNat, h2, by rw [Int.toNat_of_nonneg h1]; exact hx, by rw [List.getD_eq_getElem?_getD, List.getElem?_eq_getElem h2]; rfl⟩
theorem of_line {X : List (List Int)} {line : List Int} {u : List Int} (h : OnLine X line u) : u ∈ chosen X line := by
  obtain ⟨i, hi, h1, rfl⟩ := h
  exact List.mem_map.2 ⟨(i : Int), h1, by rw [Int.toNat_natCast, List.getD_eq_getElem?_getD, List.getElem?_eq_getElem hi]; rfl⟩
/-- what was covered before and what was tried with the new place is all -/
theorem cov_all {n : Int} {os : List (Int × List Int)} {k : Nat} {X : List (List Int)} {line : List Int} {p : Int} {out : List (List Int)} {j : Nat} {f : Int × List Int} (hm : ∀ x ∈ line ++ [p], 0 ≤ x ∧ x.toNat < X.length) (hold : CovL n os k X line out j f)
    (hnum : ∀ i : Nat, (i : Int) < pw ((line.length : Int) + 1) f.1.toNat → (line.length : Int) ∈ lowd (i : Int) ((line.length : Int) + 1) f.1.toNat → CovO n os k X out j f.2 (chosen (chosen X (line ++ [p])) (lowd (i : Int) ((line.length : Int) + 1) f.1.toNat))) : CovL n os k X (line ++ [p]) out j f := fun ts hl hts => by
  obtain ⟨i, hi, e⟩ := chosen_all (X := chosen X (line ++ [p])) (r := f.1.toNat) hl (fun u hu => of_line (hts u hu))
  have hlen : ((chosen X (line ++ [p])).length : Int) = (line.length : Int) + 1 := by rw [chosen_len]; simp
  rw [hlen] at hi e
  by_cases hin : (line.length : Int) ∈ lowd (i : Int) ((line.length : Int) + 1) f.1.toNat
  · rw [← e]; exact hnum i hi hin
  · refine hold ts hl fun u hu => ?_
    rw [← e] at hu
    obtain ⟨x, hx, rfl⟩ := List.mem_map.1 hu
    have h1 := low_at (c := line.length + 1) (i := i) (k := f.1.toNat) (by rw [show ((line.length + 1 : Nat) : Int) = (line.length : Int) + 1 by omega]; exact hi) x (by rw [show ((line.length + 1 : Nat) : Int) = (line.length : Int) + 1 by omega]; exact hx)
    have h2 : x ≠ (line.length : Int) := fun h3 => hin (h3 ▸ hx)
    have h3 : x.toNat < line.length := by omega
    have h4 : line[x.toNat] ∈ line := List.getElem_mem h3
    obtain ⟨h5, h6⟩ := hm line[x.toNat] (List.mem_append.2 (.inl h4))
    have h7 : (line ++ [p])[x.toNat]'(by simp; omega) = line[x.toNat] := List.getElem_append_left h3
    refine ⟨(line[x.toNat]).toNat, h6, by rw [Int.toNat_of_nonneg h5]; exact h4, ?_⟩
    rw [chosen_get (by simp; omega) (by rw [h7]; exact h5) (by simp only [h7]; exact h6)]
    simp only [h7]
/-- at the end the terms are the least -/
theorem Dj.best {n : Int} {os : List (Int × List Int)} {k : Nat} {G X : List (List Int)} {line : List Int} {out : List (List Int)} (h : Dj n os k G X line out) (hn : X.Nodup) (hop : ∀ f ∈ os, 0 ≤ f.1) (hend : ∀ i, i < X.length → out.getD i [] ≠ [] → (i : Int) ∈ line) : BestT n os k G X (bO X out) := by
  refine best_of hn h.snd h.gen fun j hj ts hl ht => ?_
  by_cases h0 : os[j].1 = 0
  · have : ts = [] := List.eq_nil_of_length_eq_zero (by rw [hl, h0]; rfl)
    subst this
    exact h.zero j hj h0
  · refine h.cov j hj (by have := hop _ (List.getElem_mem hj); omega) ts hl fun u hu => ?_
    obtain ⟨h1, h2⟩ := ht u hu
    obtain ⟨i, hi, rfl⟩ := List.getElem_of_mem h1
    rw [bO_at hn hi] at h2
    exact ⟨i, hi, hend i hi h2, rfl⟩
end Go.Proofs.Ytemfpennomelaaa
