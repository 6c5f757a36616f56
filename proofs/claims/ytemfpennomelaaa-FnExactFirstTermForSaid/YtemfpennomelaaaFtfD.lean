/- Lists of terms beside a list of tuples: they only grow better; what is sound and what is covered stays so. No program in sight. -/
import Derived.Test.YtemfpennomelaaaFtfP
namespace Go.Proofs.Ytemfpennomelaaa
open Go Go.Proofs
set_option linter.unusedVariables false
theorem less_total : ∀ {a b : List Int}, a.length = b.length → a = b ∨ less a b = true ∨ less b a = true
  | [], [], _ => .inl rfl
  | [], _ :: _, h => by simp at h
  | _ :: _, [], h => by simp at h
  | x :: a, y :: b, h => by
    by_cases e : x = y
    · subst e
      rcases less_total (a := a) (b := b) (by simpa using h) with h1 | h1 | h1
      · exact .inl (by rw [h1])
      · exact .inr (.inl (by simpa [less] using h1))
      · exact .inr (.inr (by simpa [less] using h1))
    · by_cases l : x < y
      · exact .inr (.inl (by simp [less, e, l]))
      · exact .inr (.inr (by simp [less, Ne.symm e]; omega))
theorem tle_of_not {s t : List Int} (h : tlt t s = false) : tle s t := by
  by_cases hl : s.length < t.length
  · exact .inr (tlt_iff.2 (.inl hl))
  · have h2 : ¬ (t.length < s.length ∨ (t.length = s.length ∧ less t s = true)) := fun h3 => by rw [tlt_iff.2 h3] at h; cases h
    have hl2 : s.length = t.length := by omega
    rcases less_total hl2 with h3 | h3 | h3
    · exact .inl h3
    · exact .inr (tlt_iff.2 (.inr ⟨hl2, h3⟩))
    · exact absurd (.inr ⟨hl2.symm, h3⟩) h2
/-- the term of a tuple -/
def bO (L out : List (List Int)) (t : List Int) : List Int := out.getD (L.idxOf t) []
theorem idx_get {L : List (List Int)} (hn : L.Nodup) {i : Nat} (h : i < L.length) : L.idxOf L[i] = i := by
  have h1 : L.idxOf L[i] < L.length := List.idxOf_lt_length_of_mem (List.getElem_mem h)
  have h2 : L[L.idxOf L[i]] = L[i] := List.getElem_idxOf h1
  refine Classical.byContradiction fun e => ?_
  have h3 := List.pairwise_iff_getElem.1 hn
  rcases Nat.lt_or_gt_of_ne e with h4 | h4
  · exact h3 _ _ h1 h h4 h2
  · exact h3 _ _ h h1 h4 h2.symm
theorem bO_at {L out : List (List Int)} (hn : L.Nodup) {i : Nat} (h : i < L.length) : bO L out L[i] = out.getD i [] := by rw [bO, idx_get hn h]
/-- the second list is as good as the first everywhere -/
def Imp (a b : List (List Int)) : Prop := b.length = a.length ∧ ∀ i, a.getD i [] ≠ [] → b.getD i [] ≠ [] ∧ tle (b.getD i []) (a.getD i [])
theorem Imp.refl (a : List (List Int)) : Imp a a := ⟨rfl, fun _ h => ⟨h, .inl rfl⟩⟩
theorem Imp.trans {a b c : List (List Int)} (h : Imp a b) (k : Imp b c) : Imp a c := ⟨k.1.trans h.1, fun i hi => by
  obtain ⟨h1, h2⟩ := h.2 i hi
  obtain ⟨h3, h4⟩ := k.2 i h1
  exact ⟨h3, tle_trans h4 h2⟩⟩
/-- a better term takes the place -/
def bet (out : List (List Int)) (p : Nat) (t : List Int) : List (List Int) := if out.getD p [] = [] ∨ tlt t (out.getD p []) = true then out.set p t else out
theorem bet_len (out : List (List Int)) (p : Nat) (t : List Int) : (bet out p t).length = out.length := by rw [bet]; split <;> simp
theorem getD_set_eq {out : List (List Int)} {p : Nat} {t : List Int} (hp : p < out.length) : (out.set p t).getD p [] = t := by
  rw [List.getD_eq_getElem?_getD, List.getElem?_set_self hp]; rfl
theorem getD_set_ne {out : List (List Int)} {p i : Nat} {t : List Int} (h : i ≠ p) : (out.set p t).getD i [] = out.getD i [] := by
  rw [List.getD_eq_getElem?_getD, List.getElem?_set_ne (Ne.symm h), ← List.getD_eq_getElem?_getD]
theorem bet_ne {out : List (List Int)} {p i : Nat} {t : List Int} (h : i ≠ p) : (bet out p t).getD i [] = out.getD i [] := by
  rw [bet]; split
  · exact getD_set_ne h
  · rfl
theorem bet_eq {out : List (List Int)} {p : Nat} {t : List Int} (hp : p < out.length) : (bet out p t).getD p [] = t ∨ ((bet out p t).getD p [] = out.getD p [] ∧ out.getD p [] ≠ [] ∧ tle (out.getD p []) t) := by
  rw [bet]; split
  · exact .inl (getD_set_eq hp)
  · rename_i h
    refine .inr ⟨rfl, fun e => h (.inl e), tle_of_not ?_⟩
    cases h2 : tlt t (out.getD p []) with
    | true => exact absurd (.inr h2) h
    | false => rfl
theorem bet_at {out : List (List Int)} {p : Nat} {t : List Int} (hp : p < out.length) (ht : t ≠ []) : (bet out p t).getD p [] ≠ [] ∧ tle ((bet out p t).getD p []) t := by
  rcases bet_eq (t := t) hp with h | ⟨h, h2, h3⟩
  · rw [h]; exact ⟨ht, .inl rfl⟩
  · rw [h]; exact ⟨h2, h3⟩
theorem bet_imp {out : List (List Int)} {p : Nat} {t : List Int} (hp : p < out.length) (ht : t ≠ []) : Imp out (bet out p t) := ⟨bet_len _ _ _, fun i hi => by
  by_cases e : i = p
  · subst e
    rw [bet]; split
    · rename_i h
      rw [getD_set_eq hp]
      rcases h with h | h
      · exact absurd h hi
      · exact ⟨ht, .inr h⟩
    · exact ⟨hi, .inl rfl⟩
  · rw [bet_ne e]; exact ⟨hi, .inl rfl⟩⟩
theorem bet_keep {out : List (List Int)} {p i : Nat} {t : List Int} (hi : out.getD i [] ≠ []) (hl : (out.getD i []).length < t.length) : (bet out p t).getD i [] = out.getD i [] := by
  by_cases e : i = p
  · subst e
    rw [bet, if_neg]
    rintro (h | h)
    · exact hi h
    · rw [tlt_iff] at h; omega
  · exact bet_ne e
/-- each term makes its tuple -/
def SndO (n : Int) (os : List (Int × List Int)) (k : Nat) (G L out : List (List Int)) : Prop := ∀ i (h : i < L.length), out.getD i [] ≠ [] → Made n os k G (out.getD i []) L[i] ∧ (out.getD i []).length ≤ 60
theorem SndO.bet {n : Int} {os : List (Int × List Int)} {k : Nat} {G L out : List (List Int)} (h : SndO n os k G L out) {p : Nat} (hl : out.length = L.length) (hp : p < L.length) {t : List Int} (hm : Made n os k G t L[p]) (h60 : t.length ≤ 60) : SndO n os k G L (bet out p t) := fun i hi hne => by
  by_cases e : i = p
  · subst e
    rcases bet_eq (t := t) (show i < out.length by omega) with h1 | ⟨h1, h2, _⟩
    · rw [h1]; exact ⟨hm, h60⟩
    · rw [h1]; exact h i hi h2
  · rw [bet_ne e] at hne ⊢; exact h i hi hne
/-- the generators have terms -/
def GenO (G L out : List (List Int)) (m : Nat) : Prop := ∀ i (h : i < G.length), i < m → bO L out G[i] ≠ [] ∧ tle (bO L out G[i]) [(i : Int)]
theorem GenO.imp {G L out out' : List (List Int)} {m : Nat} (h : GenO G L out m) (hi : Imp out out') : GenO G L out' m := fun i k1 k2 => by
  obtain ⟨h1, h2⟩ := h i k1 k2
  obtain ⟨h3, h4⟩ := hi.2 _ h1
  exact ⟨h3, tle_trans h4 h2⟩
/-- an operation over tuples has its term -/
def CovO (n : Int) (os : List (Int × List Int)) (k : Nat) (L out : List (List Int)) (j : Nat) (tb : List Int) (ts : List (List Int)) : Prop :=
  1 + (ts.map (bO L out)).flatten.length ≤ 60 → bO L out (applyT n tb ts k) ≠ [] ∧ tle (bO L out (applyT n tb ts k)) ((-1 - (j : Int)) :: (ts.map (bO L out)).flatten)
theorem CovO.imp {n : Int} {os : List (Int × List Int)} {k : Nat} {L out out' : List (List Int)} {j : Nat} {tb : List Int} {ts : List (List Int)} (h : CovO n os k L out j tb ts) (hi : Imp out out') (hk : ∀ t ∈ ts, bO L out' t = bO L out t) : CovO n os k L out' j tb ts := by
  have e : ts.map (bO L out') = ts.map (bO L out) := List.map_congr_left hk
  rw [CovO, e]
  intro h60
  obtain ⟨h1, h2⟩ := h h60
  obtain ⟨h3, h4⟩ := hi.2 _ h1
  exact ⟨h3, tle_trans h4 h2⟩
theorem best_of {n : Int} {os : List (Int × List Int)} {k : Nat} {G L out : List (List Int)} (hn : L.Nodup) (hs : SndO n os k G L out) (hg : GenO G L out G.length) (hc : ∀ j (hj : j < os.length) (ts : List (List Int)), ts.length = os[j].1.toNat → (∀ t ∈ ts, t ∈ L ∧ bO L out t ≠ []) → CovO n os k L out j os[j].2 ts) : BestT n os k G L (bO L out) where
  sound t ht hne := by
    obtain ⟨i, hi, rfl⟩ := List.getElem_of_mem ht
    rw [bO_at hn hi] at hne ⊢
    exact hs i hi hne
  gen i h := hg i h h
  op j hj ts h1 h2 h3 := hc j hj ts h1 h2 h3
end Go.Proofs.Ytemfpennomelaaa
