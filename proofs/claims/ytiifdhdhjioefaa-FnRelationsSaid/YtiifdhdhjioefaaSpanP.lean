/- The subpower that tuples generate, in plain terms: the least set that holds them and is closed; lists of it. No program in sight. -/
import Derived.Test.YtiifdhdhjioefaaAppl
import Derived.Test.YtiifdhdhjioefaaAlg
import Derived.Test.YtiifdhdhjioefaaSetP
namespace Go.Proofs.Ytiifdhdhjioefaa
open Go Go.Proofs
set_option linter.unusedVariables false
inductive Clo (n : Int) (os : List (Int × List Int)) (k : Nat) (G : List (List Int)) : List Int → Prop
  | gen {t : List Int} : t ∈ G → Clo n os k G t
  | op {f : Int × List Int} {ts : List (List Int)} : f ∈ os → ts.length = f.1.toNat → (∀ u, u ∈ ts → Clo n os k G u) → Clo n os k G (applyT n f.2 ts k)
def TupOk (n : Int) (k : Nat) (t : List Int) : Prop := t.length = k ∧ elB n t = true
theorem ap_ok {n : Int} {os : List (Int × List Int)} {k : Nat} (ha : algB n os = true) (hk : k ≤ 1048576) {f : Int × List Int} (hf : f ∈ os) {ts : List (List Int)} (hl : ts.length = f.1.toNat) (ht : ∀ u ∈ ts, TupOk n k u) : ApOk n f.2 ts k := by
  obtain ⟨h1, h8, _, ho⟩ := algB_at ha
  have h2 := ho f hf
  simp only [opB, Bool.and_eq_true, decide_eq_true_eq] at h2
  obtain ⟨⟨h0, h3⟩, h4, h5⟩ := h2
  exact ⟨h1, h8, by omega, by rw [hl]; exact h4, fun t h => ⟨Nat.le_of_eq (ht t h).1.symm, (ht t h).2⟩, hk⟩
theorem ap_tup {n : Int} {os : List (Int × List Int)} {k : Nat} (ha : algB n os = true) (hk : k ≤ 1048576) {f : Int × List Int} (hf : f ∈ os) {ts : List (List Int)} (hl : ts.length = f.1.toNat) (ht : ∀ u ∈ ts, TupOk n k u) : TupOk n k (applyT n f.2 ts k) := by
  have h2 := (algB_at ha).2.2.2 f hf
  simp only [opB, Bool.and_eq_true, decide_eq_true_eq] at h2
  exact ⟨applyT_length _ _ _ _, applyT_el (ap_ok ha hk hf hl ht) h2.2.2⟩
theorem Clo.ok {n : Int} {os : List (Int × List Int)} {k : Nat} {G : List (List Int)} (ha : algB n os = true) (hk : k ≤ 1048576) (hG : ∀ t ∈ G, TupOk n k t) {t : List Int} (h : Clo n os k G t) : TupOk n k t := by
  induction h with
  | gen h => exact hG _ h
  | op hf hl _ ih => exact ap_tup ha hk hf hl ih
theorem nodup_le : ∀ {L M : List (List Int)}, L.Nodup → (∀ t ∈ L, t ∈ M) → L.length ≤ M.length
  | [], _, _, _ => Nat.zero_le _
  | t :: L, M, hn, h => by
    rw [List.nodup_cons] at hn
    have h1 : t ∈ M := h t (by simp)
    have h2 := nodup_le (L := L) (M := M.erase t) hn.2 (fun u hu => (List.mem_erase_of_ne (fun e => hn.1 (by rw [← e]; exact hu))).2 (h u (by simp [hu])))
    have h3 := List.length_erase_of_mem h1
    have h4 := List.length_pos_of_mem h1
    rw [List.length_cons]; omega
def ClosedU (n : Int) (os : List (Int × List Int)) (k : Nat) (L : List (List Int)) : Prop := ∀ f ∈ os, ∀ ts : List (List Int), ts.length = f.1.toNat → (∀ u ∈ ts, u ∈ L) → applyT n f.2 ts k ∈ L
theorem ClosedU.clo {n : Int} {os : List (Int × List Int)} {k : Nat} {G L : List (List Int)} (hc : ClosedU n os k L) (hG : ∀ t ∈ G, t ∈ L) {t : List Int} (h : Clo n os k G t) : t ∈ L := by
  induction h with
  | gen h => exact hG _ h
  | op hf hl _ ih => exact hc _ hf _ hl ih
/-- a tuple is added to a list unless it is there -/
def addT (L : List (List Int)) (t : List Int) : List (List Int) := if t ∈ L then L else L ++ [t]
theorem addT_mem (L : List (List Int)) (t u : List Int) : u ∈ addT L t ↔ u = t ∨ u ∈ L := by
  rw [addT]; split
  · rename_i h; exact ⟨.inr, fun k => k.elim (fun e => e ▸ h) id⟩
  · rw [List.mem_append, List.mem_singleton]; exact Or.comm
theorem addT_nodup {L : List (List Int)} (h : L.Nodup) (t : List Int) : (addT L t).Nodup := by
  rw [addT]; split
  · exact h
  · rename_i hn
    rw [List.nodup_append]
    exact ⟨h, by simp, fun a ha b hb e => hn (by rw [List.mem_singleton] at hb; rw [← hb, ← e]; exact ha)⟩
/-- what is asked of the rows when an operation is applied, and what holds afterwards -/
structure NewPre (n : Int) (os : List (Int × List Int)) (k : Nat) (G : List (List Int)) (L : List (List Int)) : Prop where
  nd : L.Nodup
  clo : ∀ t ∈ L, Clo n os k G t
theorem NewPre.add {n : Int} {os : List (Int × List Int)} {k : Nat} {G L : List (List Int)} (h : NewPre n os k G L) {t : List Int} (ht : Clo n os k G t) : NewPre n os k G (addT L t) :=
  ⟨addT_nodup h.nd t, fun u hu => ((addT_mem L t u).1 hu).elim (fun e => e ▸ ht) (h.clo u)⟩
/-- the values for all rows of M that go on the rows A are there, where a new row is among them -/
def Cov (n : Int) (k : Nat) (f : Int × List Int) (A M : List (List Int)) (old : Nat) (fr : Bool) (L : List (List Int)) : Prop :=
  ∀ us : List (List Int), us.length + A.length = f.1.toNat → (∀ u ∈ us, u ∈ M) → (fr = true ∨ (∃ u ∈ us, u ∉ M.take old) ∨ (f.1 = 0 ∧ old = 0)) → applyT n f.2 (A ++ us) k ∈ L
theorem Cov.mono {n : Int} {k : Nat} {f : Int × List Int} {A M : List (List Int)} {old : Nat} {fr : Bool} {L L' : List (List Int)} (h : Cov n k f A M old fr L) (hl : L <+: L') : Cov n k f A M old fr L' :=
  fun us h1 h2 h3 => hl.subset (h us h1 h2 h3)
end Go.Proofs.Ytiifdhdhjioefaa
