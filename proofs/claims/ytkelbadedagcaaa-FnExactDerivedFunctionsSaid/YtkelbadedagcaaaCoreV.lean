/- Slices that are frozen for good, with their capacity known: parts of these. Proved for every program P; conditions: indices in bounds. -/
import Derived.Test.YtkelbadedagcaaaCoreU
namespace Go.Proofs.Ytkelbadedagcaaa
open Go
set_option linter.unusedVariables false
/-- knowledge that lasts: this slice value, of enough capacity, reads as xs -/
def hfz {α : Type} (k : Nat) (r : α → List VP) (s : Sv) (xs : List α) : HP :=
  ⟨fun c fs => fs = [] ∧ s.2.1 = xs.length ∧ xs.length ≤ s.2.2 ∧ (vsl k r xs).p c (vsv s), fun {_ _ _} hl _ h => ⟨h.1, h.2.1, h.2.2.1, (vsl k r xs).mono hl h.2.2.2⟩⟩
theorem vsl_take {k : Nat} {α : Type} {r : α → List VP} {xs : List α} {c : Ctx} {ao : Option Addr} {len cap : Nat} {i m : Nat} (h : (vsl k r xs).p c (.slice ao len cap)) (hi : i ≤ xs.length) : (vsl k r (xs.take i)).p c (.slice ao i m) := by
  obtain ⟨ao2, len2, cap2, e, hl, h2⟩ := h
  injection e with e1 e2 e3
  subst e1
  refine ⟨ao, i, m, rfl, by simp; omega, ?_⟩
  rcases h2 with rfl | ⟨b, o, rfl, h3, h4⟩
  · exact .inl (by simp)
  · exact .inr ⟨b, o, rfl, h3, fun j x hx => h4 j x (by rw [List.getElem?_take] at hx; split at hx <;> simp_all)⟩
theorem vsl_drop {k : Nat} {α : Type} {r : α → List VP} {xs : List α} {c : Ctx} {ao : Option Addr} {len cap : Nat} {i m : Nat} (h : (vsl k r xs).p c (.slice ao len cap)) (hi : i ≤ xs.length) {ao2 : Option Addr} (ha : i < xs.length → ao2 = ao.map (·.add (i * k))) : (vsl k r (xs.drop i)).p c (.slice ao2 (xs.length - i) m) := by
  obtain ⟨ao3, len2, cap2, e, hl, h2⟩ := h
  injection e with e1 e2 e3
  subst e1
  refine ⟨ao2, xs.length - i, m, rfl, by simp, ?_⟩
  rcases h2 with rfl | ⟨b, o, rfl, h3, h4⟩
  · exact .inl (by simp)
  · rcases Nat.lt_or_eq_of_le hi with h5 | h5
    · have e := ha h5
      refine .inr ⟨b, o + i * k, by rw [e]; simp [add_zero_addr], h3, fun j x hx => ?_⟩
      obtain ⟨h6, h7⟩ := h4 (i + j) x (by rw [List.getElem?_drop] at hx; exact hx)
      refine ⟨h6, ?_⟩
      rw [Nat.add_assoc, ← Nat.add_mul]
      exact h7
    · exact .inl (by rw [List.drop_eq_nil_iff]; omega)
section
variable {P : Program} {n : Nat} {ops : Array Oper} {l : List Oper} {K : Slots → List HP → Prop} {φ : Slots} {S : List HP} {d : Option Tmp} {ty : TypeId} {ps : String} {af : Array Edge} {g : Option (Nat × Bool)}
/-- v[:i] of a frozen slice -/
theorem VOp.sliceFzHi {t e k : Nat} [ht : IsSl P t e k] {α : Type} {k' : Nat} {r : α → List VP} {s : Sv} {xs : List α} {x y : Operand} {i : Nat} (hx : opd φ x = some (vlit (vsv s))) (hh : Has S (hfz k' r s xs)) (hy : opd φ y = some (vint (i : Int)))
    (hi : i ≤ xs.length) : VOp P n φ S ⟨d, .slice t x none (some y) none, ty, ps, af, g⟩ (vsl k' r (xs.take i)) := by
  refine ⟨fun c a hf ⟨fs, hs⟩ => ?_⟩
  have h1 : a.eval x = vsv s := hf.opd hx
  have hy' : a.eval y = .int .i64 (i : Int) := hf.opd hy
  obtain ⟨f, _, _, h2, h3, h4⟩ := hh.get hs.all
  obtain ⟨ao, len, cap⟩ := s
  (try dsimp only at h2 h3)
  have h5 : i ≤ cap := by omega
  refine ⟨.slice ao i cap, ?_, vsl_take h4 hi⟩
  intro w' hw'
  simp [execOp, h1, hy', Instr.sliceAt, Instr.slice, Instr.sliceBounds, Instr.sliceBound, asIntOf, run_underlying ht.u, ht.s, h5]
  intro h6; cases ao <;> simp [Addr.add]
/-- v[i:] of a frozen slice -/
theorem VOp.sliceFzLo {t e k : Nat} [ht : IsSl P t e k] {α : Type} {r : α → List VP} {s : Sv} {xs : List α} {x y : Operand} {i : Nat} (hx : opd φ x = some (vlit (vsv s))) (hh : Has S (hfz k r s xs)) (hy : opd φ y = some (vint (i : Int)))
    (hi : i ≤ xs.length) : VOp P n φ S ⟨d, .slice t x (some y) none none, ty, ps, af, g⟩ (vsl k r (xs.drop i)) := by
  refine ⟨fun c a hf ⟨fs, hs⟩ => ?_⟩
  have h1 : a.eval x = vsv s := hf.opd hx
  have hy' : a.eval y = .int .i64 (i : Int) := hf.opd hy
  obtain ⟨f, _, _, h2, h3, h4⟩ := hh.get hs.all
  obtain ⟨ao, len, cap⟩ := s
  (try dsimp only at h2 h3)
  subst h2
  refine ⟨.slice (if cap = i then ao else ao.map (·.add (i * k))) (xs.length - i) (cap - i), ?_, vsl_drop h4 hi (fun h5 => by rw [if_neg (by omega)])⟩
  intro w' hw'
  simp [execOp, h1, hy', Instr.sliceAt, Instr.slice, Instr.sliceBounds, Instr.sliceBound, asIntOf, run_underlying ht.u, ht.s, hi]
end
end Go.Proofs.Ytkelbadedagcaaa
