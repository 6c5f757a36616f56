/- Valid algebras: spec.l2Good, impl.IsAlgebra: the same answer. Proved for this program; conditions: lengths below 2^62. -/
import Derived.Test.YtiifdhdhjioefaaOps
import Derived.Test.YtiifdhdhjioefaaAppl
import Derived.Test.YtiifdhdhjioefaaSetP
import Derived.Test.YtiifdhdhjioefaaKeys
import Derived.Test.YtiifdhdhjioefaaPatL
namespace Go.Proofs.Ytiifdhdhjioefaa
open Go Go.Proofs
set_option linter.unusedVariables false

def algB (n : Int) (os : List (Int × List Int)) : Bool := decide (1 ≤ n ∧ n ≤ 8) && decide ((os.length : Int) ≤ 4) && os.all fun f => opB n f.1 f.2
theorem algB_at {n : Int} {os : List (Int × List Int)} (h : algB n os = true) : 1 ≤ n ∧ n ≤ 8 ∧ os.length ≤ 4 ∧ ∀ f ∈ os, opB n f.1 f.2 = true := by
  simp only [algB, Bool.and_eq_true, decide_eq_true_eq, List.all_eq_true] at h
  exact ⟨h.1.1.1, h.1.1.2, by omega, h.2⟩
end Go.Proofs.Ytiifdhdhjioefaa
/- The subpower that tuples generate, in plain terms: the least set that holds them and is closed; lists of it. No program in sight. -/
namespace Go.Proofs.Ytiifdhdhjioefaa
open Go Go.Proofs
set_option linter.unusedVariables false
inductive Clo (n : Int) (os : List (Int × List Int)) (k : Nat) (G : List (List Int)) : List Int → Prop
  | gen {t : List Int} : t ∈ G → Clo n os k G t
  | op {f : Int × List Int} {ts : List (List Int)} : f ∈ os → ts.length = f.1.toNat → (∀ u, u ∈ ts → Clo n os k G u) → Clo n os k G (applyT n f.2 ts k)
def TupOk (n : Int) (k : Nat) (t : List Int) : Prop := t.length = k ∧ elB n t = true
theorem ap_ok {n : Int} {os : List (Int × List Int)} {k : Nat} (ha : algB n os = true) (hk : k ≤ 1048576) {f : Int × List Int} (hf : f ∈ os) {ts : List (List Int)} (hl : ts.length = f.1.toNat) (ht : ∀ u ∈ ts, TupOk n k u) : ApOk n f.2 ts k := by
  obtain ⟨h1, h8, _, ho⟩ := algB_at ha
  have h2 := ho f hf
  simp only [opB, Bool.and_eq_true, decide_eq_true_eq] at h2
  obtain ⟨⟨h0, h3⟩, h4, h5⟩ := h2
  exact ⟨h1, h8, by omega, by rw [hl]; exact h4, fun t h => ⟨Nat.le_of_eq (ht t h).1.symm, (ht t h).2⟩, hk⟩
theorem ap_tup {n : Int} {os : List (Int × List Int)} {k : Nat} (ha : algB n os = true) (hk : k ≤ 1048576) {f : Int × List Int} (hf : f ∈ os) {ts : List (List Int)} (hl : ts.length = f.1.toNat) (ht : ∀ u ∈ ts, TupOk n k u) : TupOk n k (applyT n f.2 ts k) := by
  have h2 := (algB_at ha).2.2.2 f hf
  simp only [opB, Bool.and_eq_true, decide_eq_true_eq] at h2
  exact ⟨applyT_length _ _ _ _, applyT_el (ap_ok ha hk hf hl ht) h2.2.2⟩
theorem Clo.ok {n : Int} {os : List (Int × List Int)} {k : Nat} {G : List (List Int)} (ha : algB n os = true) (hk : k ≤ 1048576) (hG : ∀ t ∈ G, TupOk n k t) {t : List Int} (h : Clo n os k G t) : TupOk n k t := by
  induction h with
  | gen h => exact hG _ h
  | op hf hl _ ih => exact ap_tup ha hk hf hl ih
def ClosedU (n : Int) (os : List (Int × List Int)) (k : Nat) (L : List (List Int)) : Prop := ∀ f ∈ os, ∀ ts : List (List Int), ts.length = f.1.toNat → (∀ u ∈ ts, u ∈ L) → applyT n f.2 ts k ∈ L
theorem ClosedU.clo {n : Int} {os : List (Int × List Int)} {k : Nat} {G L : List (List Int)} (hc : ClosedU n os k L) (hG : ∀ t ∈ G, t ∈ L) {t : List Int} (h : Clo n os k G t) : t ∈ L := by
  induction h with
  | gen h => exact hG _ h
  | op hf hl _ ih => exact hc _ hf _ hl ih
/-- the greatest number of tuples -/
def maxA : List (Int × List Int) → Int → Int
  | [], m => m
  | f :: os, m => maxA os (max m f.1)
def mostV (os : List (Int × List Int)) : Nat := if maxA os 0 = 3 then 40 else if maxA os 0 = 2 then 200 else 300
theorem mostV_le (os : List (Int × List Int)) : mostV os ≤ 300 := by rw [mostV]; split <;> (try split) <;> omega
theorem maxA_take {os : List (Int × List Int)} {m : Int} : ∀ {j : Nat} (h : j < os.length), maxA (os.take (j + 1)) m = max (maxA (os.take j) m) os[j].1 := by
  induction os generalizing m with
  | nil => intro j h; simp at h
  | cons f os ih =>
    intro j h
    cases j with
    | zero => simp [maxA]
    | succ j => simpa [maxA] using ih (m := max m f.1) (j := j) (by simpa using h)
/-- a tuple is added to a list unless it is there -/
def addT (L : List (List Int)) (t : List Int) : List (List Int) := if t ∈ L then L else L ++ [t]
theorem addT_mem (L : List (List Int)) (t u : List Int) : u ∈ addT L t ↔ u = t ∨ u ∈ L := by
  rw [addT]; split
  · rename_i h; exact ⟨.inr, fun k => k.elim (fun e => e ▸ h) id⟩
  · rw [List.mem_append, List.mem_singleton]; exact Or.comm
theorem addT_nodup {L : List (List Int)} (h : L.Nodup) (t : List Int) : (addT L t).Nodup := by
  rw [addT]; split
  · exact h
  · rename_i hn
    rw [List.nodup_append]
    exact ⟨h, by simp, fun a ha b hb e => hn (by rw [List.mem_singleton] at hb; rw [← hb, ← e]; exact ha)⟩
/-- what is asked of the rows when an operation is applied, and what holds afterwards -/
structure NewPre (n : Int) (os : List (Int × List Int)) (k : Nat) (G : List (List Int)) (L : List (List Int)) : Prop where
  nd : L.Nodup
  clo : ∀ t ∈ L, Clo n os k G t
theorem NewPre.add {n : Int} {os : List (Int × List Int)} {k : Nat} {G L : List (List Int)} (h : NewPre n os k G L) {t : List Int} (ht : Clo n os k G t) : NewPre n os k G (addT L t) :=
  ⟨addT_nodup h.nd t, fun u hu => ((addT_mem L t u).1 hu).elim (fun e => e ▸ ht) (h.clo u)⟩
/-- the values for all rows of M that go on the rows A are there, where a new row is among them -/
def Cov (n : Int) (k : Nat) (f : Int × List Int) (A M : List (List Int)) (old : Nat) (fr : Bool) (L : List (List Int)) : Prop :=
  ∀ us : List (List Int), us.length + A.length = f.1.toNat → (∀ u ∈ us, u ∈ M) → (fr = true ∨ (∃ u ∈ us, u ∉ M.take old) ∨ (f.1 = 0 ∧ old = 0)) → applyT n f.2 (A ++ us) k ∈ L
theorem Cov.mono {n : Int} {k : Nat} {f : Int × List Int} {A M : List (List Int)} {old : Nat} {fr : Bool} {L L' : List (List Int)} (h : Cov n k f A M old fr L) (hl : L <+: L') : Cov n k f A M old fr L' :=
  fun us h1 h2 h3 => hl.subset (h us h1 h2 h3)
end Go.Proofs.Ytiifdhdhjioefaa
/- The span of tuples: impl.mostTuples, applyTuples, span.add. Proved for this program; conditions: valid operations, tuples of elements. -/
namespace Go.Proofs.Ytiifdhdhjioefaa
open Go Go.Proofs
set_option linter.unusedVariables false
end Go.Proofs.Ytiifdhdhjioefaa

/- The span of tuples: impl.span.applyNew. Proved for this program; conditions: a valid algebra, tuples of elements. -/
namespace Go.Proofs.Ytiifdhdhjioefaa
open Go Go.Proofs
set_option linter.unusedVariables false
theorem Cov.fr {n : Int} {k : Nat} {f : Int × List Int} {A M : List (List Int)} {old : Nat} {f1 f2 : Bool} {L : List (List Int)} (h : Cov n k f A M old f1 L) (h2 : f2 = true → f1 = true) : Cov n k f A M old f2 L :=
  fun us h3 h4 h5 => h us h3 h4 (h5.imp h2 id)
end Go.Proofs.Ytiifdhdhjioefaa

/- The span of tuples: impl.spanOf. Proved for this program; conditions: a valid algebra, tuples of elements. -/
namespace Go.Proofs.Ytiifdhdhjioefaa
open Go Go.Proofs
set_option linter.unusedVariables false
/-- the operations up to a place are covered for the rows of M -/
def CovAll (n : Int) (os : List (Int × List Int)) (k : Nat) (M : List (List Int)) (old j : Nat) (L : List (List Int)) : Prop := ∀ f ∈ os.take j, Cov n k f [] M old false L
theorem CovAll.succ {n : Int} {os : List (Int × List Int)} {k : Nat} {M : List (List Int)} {old j : Nat} {L L' : List (List Int)} (h : CovAll n os k M old j L) (hj : j < os.length) (hl : L <+: L') (h2 : Cov n k os[j] [] M old false L') : CovAll n os k M old (j + 1) L' := fun f hf => by
  rw [List.take_add_one, List.getElem?_eq_getElem hj, List.mem_append] at hf
  rcases hf with hf | hf
  · exact (h f hf).mono hl
  · rw [Option.toList_some, List.mem_singleton] at hf
    subst hf; exact h2
end Go.Proofs.Ytiifdhdhjioefaa
