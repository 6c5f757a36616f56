/- The subpower that tuples generate, in plain terms: the least set that holds them and is closed; lists of it. No program in sight. -/
import Derived.Test.YtemfpennomelaaaAppl
import Derived.Test.YtemfpennomelaaaAlg
import Derived.Test.YtemfpennomelaaaSetP
namespace Go.Proofs.Ytemfpennomelaaa
open Go Go.Proofs
set_option linter.unusedVariables false
inductive Clo (n : Int) (os : List (Int × List Int)) (k : Nat) (G : List (List Int)) : List Int → Prop
  | gen {t : List Int} : t ∈ G → Clo n os k G t
  | op {f : Int × List Int} {ts : List (List Int)} : f ∈ os → ts.length = f.1.toNat → (∀ u, u ∈ ts → Clo n os k G u) → Clo n os k G (applyT n f.2 ts k)
def TupOk (n : Int) (k : Nat) (t : List Int) : Prop := t.length = k ∧ elB n t = true
theorem ap_ok {n : Int} {os : List (Int × List Int)} {k : Nat} (ha : algB n os = true) (hk : k ≤ 1048576) {f : Int × List Int} (hf : f ∈ os) {ts : List (List Int)} (hl : ts.length = f.1.toNat) (ht : ∀ u ∈ ts, TupOk n k u) : ApOk n f.2 ts k := by
  obtain ⟨h1, h8, _, ho⟩ := algB_at ha
  have h2 := ho f hf
  simp only [opB, Bool.and_eq_true, decide_eq_true_eq] at h2
  obtain ⟨⟨h0, h3⟩, h4, h5⟩ := h2
  exact ⟨h1, h8, by omega, by rw [hl]; exact h4, fun t h => ⟨Nat.le_of_eq (ht t h).1.symm, (ht t h).2⟩, hk⟩
theorem ap_tup {n : Int} {os : List (Int × List Int)} {k : Nat} (ha : algB n os = true) (hk : k ≤ 1048576) {f : Int × List Int} (hf : f ∈ os) {ts : List (List Int)} (hl : ts.length = f.1.toNat) (ht : ∀ u ∈ ts, TupOk n k u) : TupOk n k (applyT n f.2 ts k) := by
  have h2 := (algB_at ha).2.2.2 f hf
  simp only [opB, Bool.and_eq_true, decide_eq_true_eq] at h2
  exact ⟨applyT_length _ _ _ _, applyT_el (ap_ok ha hk hf hl ht) h2.2.2⟩
theorem Clo.ok {n : Int} {os : List (Int × List Int)} {k : Nat} {G : List (List Int)} (ha : algB n os = true) (hk : k ≤ 1048576) (hG : ∀ t ∈ G, TupOk n k t) {t : List Int} (h : Clo n os k G t) : TupOk n k t := by
  induction h with
  | gen h => exact hG _ h
  | op hf hl _ ih => exact ap_tup ha hk hf hl ih
theorem nodup_le : ∀ {L M : List (List Int)}, L.Nodup → (∀ t ∈ L, t ∈ M) → L.length ≤ M.length
  | [], _, _, _ => Nat.zero_le _
  | t :: L, M, hn, h => by
    rw [List.nodup_cons] at hn
    have h1 : t ∈ M := h t (by simp)
    have h2 := nodup_le (L := L) (M := M.erase t) hn.2 (fun u hu => (List.mem_erase_of_ne (fun e => hn.1 (by rw [← e]; exact hu))).2 (h u (by simp [hu])))
    have h3 := List.length_erase_of_mem h1
    have h4 := List.length_pos_of_mem h1
    rw [List.length_cons]; omega
def ClosedU (n : Int) (os : List (Int × List Int)) (k : Nat) (L : List (List Int)) : Prop := ∀ f ∈ os, ∀ ts : List (List Int), ts.length = f.1.toNat → (∀ u ∈ ts, u ∈ L) → applyT n f.2 ts k ∈ L
theorem ClosedU.clo {n : Int} {os : List (Int × List Int)} {k : Nat} {G L : List (List Int)} (hc : ClosedU n os k L) (hG : ∀ t ∈ G, t ∈ L) {t : List Int} (h : Clo n os k G t) : t ∈ L := by
  induction h with
  | gen h => exact hG _ h
  | op hf hl _ ih => exact hc _ hf _ hl ih
/-- the greatest number of tuples -/
def maxA : List (Int × List Int) → Int → Int
  | [], m => m
  | f :: os, m => maxA os (max m f.1)
def mostV (os : List (Int × List Int)) : Nat := if maxA os 0 = 3 then 40 else if maxA os 0 = 2 then 200 else 300
theorem mostV_le (os : List (Int × List Int)) : mostV os ≤ 300 := by rw [mostV]; split <;> (try split) <;> omega
theorem maxA_take {os : List (Int × List Int)} {m : Int} : ∀ {j : Nat} (h : j < os.length), maxA (os.take (j + 1)) m = max (maxA (os.take j) m) os[j].1 := by
  induction os generalizing m with
  | nil => intro j h; simp at h
  | cons f os ih =>
    intro j h
    cases j with
    | zero => simp [maxA]
    | succ j => simpa [maxA] using ih (m := max m f.1) (j := j) (by simpa using h)
/-- what a list of the generated tuples is, or that there are too many -/
def SpanYes (n : Int) (os : List (Int × List Int)) (k : Nat) (G L : List (List Int)) : Prop := L.Nodup ∧ (∀ t, t ∈ L ↔ Clo n os k G t) ∧ L.length ≤ mostV os
def SpanNo (n : Int) (os : List (Int × List Int)) (k : Nat) (G : List (List Int)) : Prop := ∃ M : List (List Int), M.Nodup ∧ (∀ t ∈ M, Clo n os k G t) ∧ mostV os < M.length
theorem span_not {n : Int} {os : List (Int × List Int)} {k : Nat} {G L : List (List Int)} (h : SpanYes n os k G L) (h2 : SpanNo n os k G) : False := by
  obtain ⟨M, h3, h4, h5⟩ := h2
  have := nodup_le h3 (fun t ht => (h.2.1 t).2 (h4 t ht))
  have := h.2.2
  omega
/-- a tuple is added to a list unless it is there -/
def addT (L : List (List Int)) (t : List Int) : List (List Int) := if t ∈ L then L else L ++ [t]
theorem addT_mem (L : List (List Int)) (t u : List Int) : u ∈ addT L t ↔ u = t ∨ u ∈ L := by
  rw [addT]; split
  · rename_i h; exact ⟨.inr, fun k => k.elim (fun e => e ▸ h) id⟩
  · rw [List.mem_append, List.mem_singleton]; exact Or.comm
theorem addT_nodup {L : List (List Int)} (h : L.Nodup) (t : List Int) : (addT L t).Nodup := by
  rw [addT]; split
  · exact h
  · rename_i hn
    rw [List.nodup_append]
    exact ⟨h, by simp, fun a ha b hb e => hn (by rw [List.mem_singleton] at hb; rw [← hb, ← e]; exact ha)⟩
theorem addT_pre (L : List (List Int)) (t : List Int) : L <+: addT L t := by
  rw [addT]; split
  · exact List.prefix_refl _
  · exact List.prefix_append _ _
theorem addT_le (L : List (List Int)) (t : List Int) : (addT L t).length ≤ L.length + 1 := by
  rw [addT]; split
  · omega
  · simp
/-- what is asked of the rows when an operation is applied, and what holds afterwards -/
structure NewPre (n : Int) (os : List (Int × List Int)) (k : Nat) (G : List (List Int)) (L : List (List Int)) : Prop where
  nd : L.Nodup
  clo : ∀ t ∈ L, Clo n os k G t
theorem NewPre.add {n : Int} {os : List (Int × List Int)} {k : Nat} {G L : List (List Int)} (h : NewPre n os k G L) {t : List Int} (ht : Clo n os k G t) : NewPre n os k G (addT L t) :=
  ⟨addT_nodup h.nd t, fun u hu => ((addT_mem L t u).1 hu).elim (fun e => e ▸ ht) (h.clo u)⟩
/-- the values for all rows of M that go on the rows A are there, where a new row is among them -/
def Cov (n : Int) (k : Nat) (f : Int × List Int) (A M : List (List Int)) (old : Nat) (fr : Bool) (L : List (List Int)) : Prop :=
  ∀ us : List (List Int), us.length + A.length = f.1.toNat → (∀ u ∈ us, u ∈ M) → (fr = true ∨ (∃ u ∈ us, u ∉ M.take old) ∨ (f.1 = 0 ∧ old = 0)) → applyT n f.2 (A ++ us) k ∈ L
def NewPost (n : Int) (os : List (Int × List Int)) (k : Nat) (G : List (List Int)) (f : Int × List Int) (A M : List (List Int)) (old : Nat) (fr : Bool) (L L' : List (List Int)) (b : Bool) : Prop :=
  L <+: L' ∧ NewPre n os k G L' ∧ (b = false → mostV os < L'.length) ∧ (b = true → L'.length ≤ mostV os ∧ Cov n k f A M old fr L')
theorem Cov.leaf {n : Int} {k : Nat} {f : Int × List Int} {A M : List (List Int)} {old : Nat} {fr : Bool} {L : List (List Int)} (hl : A.length = f.1.toNat) (h : (fr = true ∨ (f.1 = 0 ∧ old = 0)) → applyT n f.2 A k ∈ L) : Cov n k f A M old fr L := by
  intro us h1 h2 h3
  have : us = [] := List.length_eq_zero_iff.1 (by omega)
  subst this
  rw [List.append_nil]
  refine h ?_
  rcases h3 with h3 | ⟨u, hu, _⟩ | h3
  · exact .inl h3
  · cases hu
  · exact .inr h3
theorem Cov.node {n : Int} {k : Nat} {f : Int × List Int} {A M : List (List Int)} {old : Nat} {fr : Bool} {L : List (List Int)} (hl : A.length < f.1.toNat) (h : ∀ j (hj : j < M.length), Cov n k f (A ++ [M[j]]) M old (fr || decide (old ≤ j)) L) : Cov n k f A M old fr L := by
  intro us h1 h2 h3
  cases us with
  | nil => simp at h1; omega
  | cons u us =>
    obtain ⟨j, hj, e⟩ := List.getElem_of_mem (h2 u (by simp))
    have h4 := h j hj us (by simp at h1 ⊢; omega) (fun v hv => h2 v (by simp [hv])) ?_
    · rw [e, List.append_assoc] at h4; exact h4
    · rcases h3 with h3 | ⟨v, hv, hno⟩ | h3
      · exact .inl (by rw [h3]; rfl)
      · rcases List.mem_cons.1 hv with rfl | hv
        · by_cases ho : old ≤ j
          · exact .inl (by rw [decide_eq_true ho, Bool.or_true])
          · exfalso
            apply hno
            rw [← e]
            exact List.mem_take_iff_getElem.2 ⟨j, by omega, rfl⟩
        · exact .inr (.inl ⟨v, hv, hno⟩)
      · exfalso; rw [h3.1] at hl; simp at hl
theorem Cov.mono {n : Int} {k : Nat} {f : Int × List Int} {A M : List (List Int)} {old : Nat} {fr : Bool} {L L' : List (List Int)} (h : Cov n k f A M old fr L) (hl : L <+: L') : Cov n k f A M old fr L' :=
  fun us h1 h2 h3 => hl.subset (h us h1 h2 h3)
end Go.Proofs.Ytemfpennomelaaa
