/- Slices that are frozen for good, with their capacity known: parts of these. Proved for every program P; conditions: indices in bounds. -/
import Derived.Test.YtodlpdedldhebaaCoreU
namespace Go.Proofs.Ytodlpdedldhebaa
open Go
set_option linter.unusedVariables false
/-- knowledge that lasts: this slice value, of enough capacity, reads as xs -/
def hfz {α : Type} (k : Nat) (r : α → List VP) (s : Sv) (xs : List α) : HP :=
  ⟨fun c fs => fs = [] ∧ s.2.1 = xs.length ∧ xs.length ≤ s.2.2 ∧ (vsl k r xs).p c (vsv s), fun {_ _ _} hl _ h => ⟨h.1, h.2.1, h.2.2.1, (vsl k r xs).mono hl h.2.2.2⟩⟩
theorem Ent.toFz {φ : Slots} {S S' : List HP} {α : Type} {t : TR α} {r : α → List VP} [Frz t r] {s : Sv} {xs : List α} (hr : Rem S (hsl t (vsv s) xs) S') : Ent φ S φ (hfz t.k r s xs :: S') := fun c n a hf hs => by
  obtain ⟨fs, f, hs⟩ := hs.rem hr
  obtain ⟨hall, hnd, hown, hfro, hdis⟩ := hs
  simp only [List.flatten_cons] at hnd hown
  simp only [List.mem_append] at hown
  have hndB := List.nodup_append.1 hnd
  have hle : c.le ⟨fun b => c.F b ∨ b ∈ f, c.U, c.w⟩ := ⟨fun _ h => .inl h, rfl, fun _ _ => rfl, Nat.le_refl _, rfl, rfl, rfl⟩
  cases hall with
  | cons h1 h2 =>
    have h3 : ownS t ⟨fun b => c.F b ∨ b ∈ f, c.U, c.w⟩ (vsv s) xs f := ownS.mono hle.v (fun _ _ => rfl) h1
    have h4 : s.2.1 = xs.length ∧ xs.length ≤ s.2.2 := by
      rcases h1 with ⟨rfl, e, _⟩ | ⟨b, cap, arr, tt, vss, fss, e, _, _, hc, _⟩
      · injection e with _ e2 e3
        exact ⟨by simp [e2], by simp⟩
      · injection e with _ e2 e3
        exact ⟨e2, by rw [e3]; exact hc⟩
    refine ⟨_, hle, hf.le hle, [] :: fs, .cons ⟨rfl, h4.1, h4.2, ownS.frz h3 (fun b hb => .inr hb)⟩ (h2.keep hle.v fun _ _ => rfl), ?_, ?_, ?_, ?_⟩
    · simpa using hndB.2.1
    · intro b hb
      simp only [List.flatten_cons, List.nil_append] at hb
      refine ⟨?_, (hown b (.inr hb)).2⟩
      rintro (h | h)
      · exact (hown b (.inr hb)).1 h
      · exact hndB.2.2 b h b hb rfl
    · rintro b ((h | h) | h)
      · exact hfro b (.inl h)
      · exact (hown b (.inl h)).2.2
      · exact hfro b (.inr h)
    · rintro b (h | h) hu
      · exact hdis b h hu
      · exact (hown b (.inl h)).2.1 hu
theorem Run.toFz {P : Program} {n : Nat} {x : Code} {Q : Post} {φ : Slots} {S S' : List HP} {α : Type} {t : TR α} {r : α → List VP} [Frz t r] {s : Sv} {xs : List α} (hr : Rem S (hsl t (vsv s) xs) S') (h : Run P n x Q φ (hfz t.k r s xs :: S')) : Run P n x Q φ S := Run.weaken (Ent.toFz hr) h
theorem vsl_take {k : Nat} {α : Type} {r : α → List VP} {xs : List α} {c : Ctx} {ao : Option Addr} {len cap : Nat} {i m : Nat} (h : (vsl k r xs).p c (.slice ao len cap)) (hi : i ≤ xs.length) : (vsl k r (xs.take i)).p c (.slice ao i m) := by
  obtain ⟨ao2, len2, cap2, e, hl, h2⟩ := h
  injection e with e1 e2 e3
  subst e1
  refine ⟨ao, i, m, rfl, by simp; omega, ?_⟩
  rcases h2 with rfl | ⟨b, o, rfl, h3, h4⟩
  · exact .inl (by simp)
  · exact .inr ⟨b, o, rfl, h3, fun j x hx => h4 j x (by rw [List.getElem?_take] at hx; split at hx <;> simp_all)⟩
theorem vsl_drop {k : Nat} {α : Type} {r : α → List VP} {xs : List α} {c : Ctx} {ao : Option Addr} {len cap : Nat} {i m : Nat} (h : (vsl k r xs).p c (.slice ao len cap)) (hi : i ≤ xs.length) {ao2 : Option Addr} (ha : i < xs.length → ao2 = ao.map (·.add (i * k))) : (vsl k r (xs.drop i)).p c (.slice ao2 (xs.length - i) m) := by
  obtain ⟨ao3, len2, cap2, e, hl, h2⟩ := h
  injection e with e1 e2 e3
  subst e1
  refine ⟨ao2, xs.length - i, m, rfl, by simp, ?_⟩
  rcases h2 with rfl | ⟨b, o, rfl, h3, h4⟩
  · exact .inl (by simp)
  · rcases Nat.lt_or_eq_of_le hi with h5 | h5
    · have e := ha h5
      refine .inr ⟨b, o + i * k, by rw [e]; simp [add_zero_addr], h3, fun j x hx => ?_⟩
      obtain ⟨h6, h7⟩ := h4 (i + j) x (by rw [List.getElem?_drop] at hx; exact hx)
      refine ⟨h6, ?_⟩
      rw [Nat.add_assoc, ← Nat.add_mul]
      exact h7
    · exact .inl (by rw [List.drop_eq_nil_iff]; omega)
section
variable {P : Program} {n : Nat} {ops : Array Oper} {l : List Oper} {K : Slots → List HP → Prop} {φ : Slots} {S : List HP} {d : Option Tmp} {ty : TypeId} {ps : String} {af : Array Edge} {g : Option (Nat × Bool)}
/-- an operation that yields a value and looks at no memory -/
structure VOpQ (P : Program) (n : Nat) (φ : Slots) (S : List HP) (o : Oper) (r : VP) : Prop where
  run : ∀ c a, FH c n φ a → SH c S → ∃ v, (∀ w', (execOp a.eval o).run P w' = .ok (.value v) w') ∧ r.p c v
theorem VOpQ.v {o : Oper} {r : VP} (h : VOpQ P n φ S o r) : VOp P n φ S o r := ⟨fun c a hf hs => by
  obtain ⟨v, h1, h2⟩ := h.run c a hf hs
  exact ⟨v, fun w' _ => h1 w', h2⟩⟩
/-- v[:i] of a frozen slice -/
theorem VOpQ.sliceFzHi {t e k : Nat} [ht : IsSl P t e k] {α : Type} {k' : Nat} {r : α → List VP} {s : Sv} {xs : List α} {x y : Operand} {i : Nat} (hx : opd φ x = some (vlit (vsv s))) (hh : Has S (hfz k' r s xs)) (hy : opd φ y = some (vint (i : Int)))
    (hi : i ≤ xs.length) : VOpQ P n φ S ⟨d, .slice t x none (some y) none, ty, ps, af, g⟩ (vsl k' r (xs.take i)) := by
  refine ⟨fun c a hf ⟨fs, hs⟩ => ?_⟩
  have h1 : a.eval x = vsv s := hf.opd hx
  have hy' : a.eval y = .int .i64 (i : Int) := hf.opd hy
  obtain ⟨f, _, _, h2, h3, h4⟩ := hh.get hs.all
  obtain ⟨ao, len, cap⟩ := s
  (try dsimp only at h2 h3)
  have h5 : i ≤ cap := by omega
  refine ⟨.slice ao i cap, ?_, vsl_take h4 hi⟩
  intro w'
  simp [execOp, h1, hy', Instr.sliceAt, Instr.slice, Instr.sliceBounds, Instr.sliceBound, asIntOf, run_underlying ht.u, ht.s, h5]
  intro h6; cases ao <;> simp [Addr.add]
/-- v[i:] of a frozen slice -/
theorem VOpQ.sliceFzLo {t e k : Nat} [ht : IsSl P t e k] {α : Type} {r : α → List VP} {s : Sv} {xs : List α} {x y : Operand} {i : Nat} (hx : opd φ x = some (vlit (vsv s))) (hh : Has S (hfz k r s xs)) (hy : opd φ y = some (vint (i : Int)))
    (hi : i ≤ xs.length) : VOpQ P n φ S ⟨d, .slice t x (some y) none none, ty, ps, af, g⟩ (vsl k r (xs.drop i)) := by
  refine ⟨fun c a hf ⟨fs, hs⟩ => ?_⟩
  have h1 : a.eval x = vsv s := hf.opd hx
  have hy' : a.eval y = .int .i64 (i : Int) := hf.opd hy
  obtain ⟨f, _, _, h2, h3, h4⟩ := hh.get hs.all
  obtain ⟨ao, len, cap⟩ := s
  (try dsimp only at h2 h3)
  subst h2
  refine ⟨.slice (if cap = i then ao else ao.map (·.add (i * k))) (xs.length - i) (cap - i), ?_, vsl_drop h4 hi (fun h5 => by rw [if_neg (by omega)])⟩
  intro w'
  simp [execOp, h1, hy', Instr.sliceAt, Instr.slice, Instr.sliceBounds, Instr.sliceBound, asIntOf, run_underlying ht.u, ht.s, hi]
theorem VOp.sliceFzHi {t e k : Nat} [ht : IsSl P t e k] {α : Type} {k' : Nat} {r : α → List VP} {s : Sv} {xs : List α} {x y : Operand} {i : Nat} (hx : opd φ x = some (vlit (vsv s))) (hh : Has S (hfz k' r s xs)) (hy : opd φ y = some (vint (i : Int)))
    (hi : i ≤ xs.length) : VOp P n φ S ⟨d, .slice t x none (some y) none, ty, ps, af, g⟩ (vsl k' r (xs.take i)) := (VOpQ.sliceFzHi hx hh hy hi).v
theorem VOp.sliceFzLo {t e k : Nat} [ht : IsSl P t e k] {α : Type} {r : α → List VP} {s : Sv} {xs : List α} {x y : Operand} {i : Nat} (hx : opd φ x = some (vlit (vsv s))) (hh : Has S (hfz k r s xs)) (hy : opd φ y = some (vint (i : Int)))
    (hi : i ≤ xs.length) : VOp P n φ S ⟨d, .slice t x (some y) none none, ty, ps, af, g⟩ (vsl k r (xs.drop i)) := (VOpQ.sliceFzLo hx hh hy hi).v
end
end Go.Proofs.Ytodlpdedldhebaa
