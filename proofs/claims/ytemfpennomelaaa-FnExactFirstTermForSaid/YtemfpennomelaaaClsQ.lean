/- The reference's closure in plain terms: a line of rows, the same rows in order. No program in sight. -/
import Derived.Test.YtemfpennomelaaaClsR
import Derived.Test.YtemfpennomelaaaSubP
namespace Go.Proofs.Ytemfpennomelaaa
open Go Go.Proofs
set_option linter.unusedVariables false
/-- the line of the rows that were found, and the same rows in order -/
structure ClsInv (n : Int) (os : List (Int × List Int)) (k : Nat) (G : List (List Int)) (Ln O : PS) : Prop where
  nd : (Ln.map Prod.snd).Nodup
  clo : ∀ t ∈ Ln.map Prod.snd, Clo n os k G t
  perm : O.Perm Ln
  str : Str (O.map Prod.snd)
theorem ClsInv.nil (n : Int) (os : List (Int × List Int)) (k : Nat) (G : List (List Int)) : ClsInv n os k G [] [] := ⟨.nil, (fun t h => by cases h), .refl _, .nil⟩
/-- the list in order with one more row -/
def insO (O : PS) (w : Sv) (t : List Int) : PS := O.take (placeOf (O.map Prod.snd) t) ++ (w, t) :: O.drop (placeOf (O.map Prod.snd) t)
theorem insO_fst (O : PS) (w : Sv) (t : List Int) : (insO O w t).map Prod.fst = (O.map Prod.fst).take (placeOf (O.map Prod.snd) t) ++ w :: (O.map Prod.fst).drop (placeOf (O.map Prod.snd) t) := by simp [insO, List.map_take, List.map_drop]
theorem insO_snd {O : PS} {t : List Int} (w : Sv) (h : t ∉ O.map Prod.snd) : (insO O w t).map Prod.snd = putL (O.map Prod.snd) t := by
  rw [putL, if_neg h]; simp [insO, List.map_take, List.map_drop]
theorem insO_perm (O : PS) (w : Sv) (t : List Int) : (insO O w t).Perm ((w, t) :: O) := by
  have h : (insO O w t).Perm ((w, t) :: (O.take (placeOf (O.map Prod.snd) t) ++ O.drop (placeOf (O.map Prod.snd) t))) := List.perm_middle
  rwa [List.take_append_drop] at h
theorem ClsInv.mem {n : Int} {os : List (Int × List Int)} {k : Nat} {G : List (List Int)} {Ln O : PS} (h : ClsInv n os k G Ln O) (t : List Int) : t ∈ O.map Prod.snd ↔ t ∈ Ln.map Prod.snd := (h.perm.map Prod.snd).mem_iff
theorem ClsInv.len {n : Int} {os : List (Int × List Int)} {k : Nat} {G : List (List Int)} {Ln O : PS} (h : ClsInv n os k G Ln O) : O.length = Ln.length := h.perm.length_eq
theorem ClsInv.add {n : Int} {os : List (Int × List Int)} {k : Nat} {G : List (List Int)} {Ln O : PS} (h : ClsInv n os k G Ln O) {w : Sv} {t : List Int} (ht : Clo n os k G t) (hk : ∀ u ∈ O.map Prod.snd, u.length = k) (htk : t.length = k) (hn : t ∉ O.map Prod.snd) : ClsInv n os k G (Ln ++ [(w, t)]) (insO O w t) := by
  refine ⟨?_, ?_, ?_, ?_⟩
  · rw [List.map_append, List.nodup_append]
    refine ⟨h.nd, by simp, fun a ha b hb e => ?_⟩
    simp only [List.map_cons, List.map_nil, List.mem_singleton] at hb
    subst hb; subst e
    exact hn ((h.mem _).2 ha)
  · intro u hu
    rw [List.map_append, List.mem_append] at hu
    rcases hu with hu | hu
    · exact h.clo u hu
    · simp only [List.map_cons, List.map_nil, List.mem_singleton] at hu
      subst hu; exact ht
  · exact (insO_perm O w t).trans ((h.perm.cons _).trans (List.perm_append_comm (l₁ := [(w, t)])))
  · rw [insO_snd w hn]
    exact putL_str h.str hk htk
/-- the values of an operation for rows of M are in L -/
def ValIn (n : Int) (k : Nat) (f : Int × List Int) (M L : List (List Int)) : Prop := ∀ ts : List (List Int), ts.length = f.1.toNat → (∀ u ∈ ts, u ∈ M) → applyT n f.2 ts k ∈ L
/-- those of all operations that have arguments -/
def AllIn (n : Int) (os : List (Int × List Int)) (k : Nat) (M L : List (List Int)) : Prop := ∀ f ∈ os, 0 < f.1 → ValIn n k f M L
theorem ValIn.mono {n : Int} {k : Nat} {f : Int × List Int} {M L L' : List (List Int)} (h : ValIn n k f M L) (hl : L <+: L') : ValIn n k f M L' := fun ts h1 h2 => hl.subset (h ts h1 h2)
/-- the rows with the digits of the numbers below i, where the last row is among them -/
def NumIn (n : Int) (k m i : Nat) (f : Int × List Int) (M L : List (List Int)) : Prop := ∀ j, j < i → (m : Int) ∈ lowd (j : Int) ((m : Int) + 1) f.1.toNat → applyT n f.2 (chosen M (lowd (j : Int) ((m : Int) + 1) f.1.toNat)) k ∈ L
theorem num_all {n : Int} {k m i : Nat} {f : Int × List Int} {M L : List (List Int)} (hM : M.length = m + 1) (h : NumIn n k m i f M L) (hi : ¬ (i : Int) < pw ((m : Int) + 1) f.1.toNat) (h0 : ValIn n k f (M.take m) L) : ValIn n k f M L := by
  intro ts hl ht
  have e : ((M.length : Nat) : Int) = (m : Int) + 1 := by omega
  obtain ⟨j, h1, h2⟩ := chosen_all (X := M) hl ht
  rw [e] at h1 h2
  by_cases hm : (m : Int) ∈ lowd (j : Int) ((m : Int) + 1) f.1.toNat
  · have := h j (by omega) hm
    rwa [h2] at this
  · refine h0 ts hl fun u hu => ?_
    rw [← h2] at hu
    obtain ⟨x, hx, rfl⟩ := List.mem_map.1 hu
    have h3 := lowd_range' (j : Int) ((m : Int) + 1) (by omega) (by omega) _ x hx
    have h4 : x ≠ (m : Int) := fun e => hm (e ▸ hx)
    rw [List.getD_eq_getElem?_getD, List.getElem?_eq_getElem (show x.toNat < M.length by omega)]
    exact List.mem_take_iff_getElem.2 ⟨x.toNat, by omega, rfl⟩
/-- the rows that the closure begins with -/
def firstL (n : Int) (os : List (Int × List Int)) (k : Nat) (G : List (List Int)) : List (List Int) := G ++ (os.filter fun f => decide (f.1 = 0)).map fun f => applyT n f.2 [] k
theorem first_clo {n : Int} {os : List (Int × List Int)} {k : Nat} {G : List (List Int)} : ∀ t ∈ firstL n os k G, Clo n os k G t := fun t ht => by
  rw [firstL, List.mem_append] at ht
  rcases ht with ht | ht
  · exact .gen ht
  · obtain ⟨f, hf, rfl⟩ := List.mem_map.1 ht
    obtain ⟨h1, h2⟩ := List.mem_filter.1 hf
    simp only [decide_eq_true_eq] at h2
    exact .op h1 (by rw [h2]; rfl) (fun u hu => by cases hu)
theorem cls_all {n : Int} {os : List (Int × List Int)} {k : Nat} {G L : List (List Int)} (hop : ∀ f ∈ os, 0 ≤ f.1) (h1 : ∀ t ∈ firstL n os k G, t ∈ L) (h2 : AllIn n os k L L) {t : List Int} (h : Clo n os k G t) : t ∈ L := by
  refine ClosedU.clo (G := G) ?_ (fun u hu => h1 u (by rw [firstL, List.mem_append]; exact .inl hu)) h
  intro f hf ts hl ht
  rcases Int.lt_or_eq_of_le (hop f hf) with h3 | h3
  · exact h2 f hf h3 ts hl ht
  · have : ts = [] := List.length_eq_zero_iff.1 (by omega)
    subst this
    refine h1 _ ?_
    rw [firstL, List.mem_append]
    exact .inr (List.mem_map.2 ⟨f, List.mem_filter.2 ⟨hf, by simp; omega⟩, rfl⟩)
/-- what the closure answers -/
def ClsYes (n : Int) (os : List (Int × List Int)) (k : Nat) (G X : List (List Int)) : Prop := Str X ∧ (∀ t ∈ X, Clo n os k G t) ∧ (X.length ≤ mostV os → ∀ t, Clo n os k G t → t ∈ X)
theorem str_nodup {X : List (List Int)} (h : Str X) : X.Nodup := List.Pairwise.imp (fun {a b} (h : cmp a b < 0) (e : a = b) => cmp_irrefl (a := a) (by rw [← e] at h; exact h)) h
end Go.Proofs.Ytemfpennomelaaa
