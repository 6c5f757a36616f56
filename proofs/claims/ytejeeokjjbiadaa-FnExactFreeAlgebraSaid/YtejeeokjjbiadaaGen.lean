/- The subpower that tuples generate: spec.l8Gens, GenerateSubpower, impl.areGens, GenerateSubpower: the same answer. Proved for this program; conditions: lengths below 2^42. -/
import Derived.Test.YtejeeokjjbiadaaClsC
import Derived.Test.YtejeeokjjbiadaaSubT
import Derived.Test.YtejeeokjjbiadaaRelOf
namespace Go.Proofs.Ytejeeokjjbiadaa
open Go Go.Proofs
set_option linter.unusedVariables false
/-- the subpower in order, or that it has too many tuples -/
def GenIs (n : Int) (os : List (Int × List Int)) (k : Nat) (G : List (List Int)) (o : Option (List (List Int))) : Prop := match o with
  | some X => Str X ∧ SpanYes n os k G X
  | none => SpanNo n os k G
theorem span_ex (n : Int) (os : List (Int × List Int)) (k : Nat) (G : List (List Int)) : ∀ (d : Nat) (M : List (List Int)), M.Nodup → (∀ t ∈ M, Clo n os k G t) → M.length + d = mostV os + 1 → (∃ L, SpanYes n os k G L) ∨ SpanNo n os k G
  | 0, M, h1, h2, h3 => .inr ⟨M, h1, h2, by omega⟩
  | d + 1, M, h1, h2, h3 => by
    by_cases h : ∃ t, Clo n os k G t ∧ t ∉ M
    · obtain ⟨t, h4, h5⟩ := h
      exact span_ex n os k G d (t :: M) (List.nodup_cons.2 ⟨h5, h1⟩) (fun u hu => (List.mem_cons.1 hu).elim (fun e => e ▸ h4) (h2 u)) (by rw [List.length_cons]; omega)
    · exact .inl ⟨M, h1, fun t => ⟨h2 t, fun ht => Decidable.byContradiction fun hn => h ⟨t, ht, hn⟩⟩, by omega⟩
theorem span_sort {n : Int} {os : List (Int × List Int)} {k : Nat} {G L : List (List Int)} (ha : algB n os = true) (hk : k ≤ 1048576) (hG : ∀ t ∈ G, TupOk n k t) (h : SpanYes n os k G L) : Str (putF L) ∧ SpanYes n os k G (putF L) := by
  have hLk : ∀ u ∈ L, u.length = k := fun u hu => (((h.2.1 u).1 hu).ok ha hk hG).1
  obtain ⟨h1, h2⟩ := putF_str hLk
  have hl := putF_le L
  exact ⟨h1, str_nodup h1, fun t => (h2 t).trans (h.2.1 t), Nat.le_trans hl h.2.2⟩
def genO (ok : Bool) (o : Option (List (List Int))) : Option (List (List Int)) := if ok then o else none
abbrev GenRes (o : Option (List (List Int))) (r : VP) (S' : List HP) : Prop := ∃ s : Sv, r = vtup [vlit (vsv s), vbool o.isSome] ∧ S' = [hsl (tS tInt) (vsv s) (o.getD [])]
theorem gen_yes {n : Int} {os : List (Int × List Int)} {k : Nat} {G X : List (List Int)} {o : Option (List (List Int))} (ho : GenIs n os k G o) (h : ClsYes n os k G X) : (X.length ≤ mostV os ∧ o = some X) ∨ (¬ X.length ≤ mostV os ∧ o = none) := by
  cases o with
  | some Y =>
    obtain ⟨h1, h2⟩ := ho
    obtain ⟨h3, h4⟩ := cls_span h h2
    exact .inl ⟨h3, by rw [str_ext h.1 h1 h4]⟩
  | none => exact .inr ⟨cls_spanNo h ho, rfl⟩
theorem gen_span {n : Int} {os : List (Int × List Int)} {k : Nat} {G L : List (List Int)} {o : Option (List (List Int))} (ha : algB n os = true) (hk : k ≤ 1048576) (hG : ∀ t ∈ G, TupOk n k t) (ho : GenIs n os k G o) (h : SpanYes n os k G L) : o = some (putF L) := by
  obtain ⟨h1, h2⟩ := span_sort ha hk hG h
  cases o with
  | some Y =>
    obtain ⟨h3, h4⟩ := ho
    rw [str_ext h3 h1 fun t => (h4.2.1 t).trans (h2.2.1 t).symm]
  | none => exact (span_not h ho).elim
theorem gen_no {n : Int} {os : List (Int × List Int)} {k : Nat} {G : List (List Int)} {o : Option (List (List Int))} (ho : GenIs n os k G o) (h : SpanNo n os k G) : o = none := by
  cases o with
  | some Y => exact (span_not ho.2 h).elim
  | none => rfl
end Go.Proofs.Ytejeeokjjbiadaa
