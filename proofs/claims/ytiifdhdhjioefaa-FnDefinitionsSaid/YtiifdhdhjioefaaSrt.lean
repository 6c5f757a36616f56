/- What a sort by exchanges asks of its list: a function that compares two places and one that exchanges them. Proved for every program P; no conditions. -/
import Derived.Test.YtiifdhdhjioefaaSortP
namespace Go.Proofs.Ytiifdhdhjioefaa
open Go Go.Proofs
set_option linter.unusedVariables false
def ltL (x y : List Int) : Bool := decide (cmp x y < 0)
def leL (x y : List Int) : Prop := ltL y x = false
theorem ltL_le {x y : List Int} (h : ltL x y = true) : leL x y := by
  rw [leL, ltL, decide_eq_false_iff_not]
  exact fun k => cmp_neg (of_decide_eq_true h) k
theorem leL_trans (x y z : List Int) (h : leL x y) (k : leL y z) : leL x z := by
  rw [leL, ltL, decide_eq_false_iff_not] at *
  intro q
  by_cases e : cmp x y < 0
  · exact k (cmp_trans q e)
  · have := cmp_eq e h
    subst this
    exact k q
theorem ltL_eq (x y : List Int) : ltL x y = decide (cmp x y < 0) := rfl
attribute [irreducible] ltL
/-- the function f, called with two places and vs, exchanges what stands at these places of the list in chunk A -/
structure Swp (P : Program) (f : FuncId) (vs : List Value) (A : List (List Int) → HP) (m : Nat) : Prop where
  run : ∀ (xs : List (List Int)) (i j : Nat) (c : Ctx) (S : List HP), xs.length = m → i < m → j < m → i ≠ j → SH c (A xs :: S) →
    ∃ v w' F', (callFunc f ([Value.int .i64 (i : Int), Value.int .i64 (j : Int)] ++ vs).toArray).run P c.w = .ok (.value v) w' ∧ c.le ⟨F', c.U, w'⟩ ∧ SH ⟨F', c.U, w'⟩ (A (swapL xs i j) :: S)
structure Lss (P : Program) (f : FuncId) (vs : List Value) (A : List (List Int) → HP) (m : Nat) : Prop where
  enter : Enters P f
  run : ∀ (xs : List (List Int)) (i j : Int), xs.length = m → 0 ≤ i → i.toNat < m → 0 ≤ j → j.toNat < m →
    Spec P f ([vint i, vint j] ++ vs.map vlit) [A xs] (fun r S' => r = vbool (ltL (at' xs i.toNat) (at' xs j.toNat)) ∧ S' = [A xs])
structure Srt (P : Program) (fl : FuncId) (vl : List Value) (fs : FuncId) (vs : List Value) (A : List (List Int) → HP) (m : Nat) : Prop where
  less : Lss P fl vl A m
  swap : Swp P fs vs A m
  big : m ≤ 1000000
/-- sort's pair of functions -/
abbrev dat (fl : FuncId) (vl : List Value) (fs : FuncId) (vs : List Value) : List VP := [vlit (.func (.func fl) #[] vl.toArray), vlit (.func (.func fs) #[] vs.toArray)]
theorem EOp.swap {P : Program} {n : Nat} {φ : Slots} {S : List HP} {d : Option Tmp} {ty : TypeId} {ps : String} {af : Array Edge} {g : Option (Nat × Bool)} {f : FuncId} {vs : List Value} {A : List (List Int) → HP} {m t : Nat} {x y : Operand} {ts : Array TypeId} {i j : Int} {xs : List (List Int)} {S1 : List HP}
    (hs : Swp P f vs A m) (hfn : φ.get t = some (vlit (.func (.func f) #[] vs.toArray))) (hx : opd φ x = some (vint i)) (hy : opd φ y = some (vint j)) (hr : Rem S (A xs) S1) (hl : xs.length = m)
    (hi0 : 0 ≤ i) (hi : i.toNat < m) (hj0 : 0 ≤ j) (hj : j.toNat < m) (hij : i ≠ j) :
    EOp P n φ S ⟨d, .call ⟨.value (.tmp t), #[x, y], ts⟩, ty, ps, af, g⟩ (fun r S' => r = vany ∧ S' = A (swapL xs i.toNat j.toNat) :: S1) := by
  refine ⟨fun c a hf hs0 => ?_⟩
  have h1 : a.eval x = .int .i64 i := hf.opd hx
  have h2 : a.eval y = .int .i64 j := hf.opd hy
  have h3 : a.tmps.getD t undef = .func (.func f) #[] vs.toArray := hf.slot t _ hfn
  have h4 : a.eval (.tmp t) = .func (.func f) #[] vs.toArray := h3
  obtain ⟨gs, fr, hs1⟩ := hs0.rem hr
  obtain ⟨v, w', F', e1, e2, e3⟩ := hs.run xs i.toNat j.toNat c S1 hl hi hj (by omega) ⟨_, hs1⟩
  refine ⟨v, w', F', vany, _, ?_, e2, trivial, e3, rfl, rfl⟩
  rw [Int.toNat_of_nonneg hi0, Int.toNat_of_nonneg hj0] at e1
  rw [← e1]
  simp [execOp, resolve, h4, h1, h2, Deferred.ofValue, invoke]
/-! ### what ends a merge of one element -/
theorem shl_fin {a m b i : Nat} {xs ys : List (List Int)} (hm : m = a + 1) (hY : SegS leL xs m b) (h1 : m ≤ i) (h2 : i ≤ b) (h3 : i = m ∨ leL (at' xs (i - 1)) (at' xs a)) (h4 : i = b ∨ leL (at' xs a) (at' xs i)) (h : Shl a (i - 1) xs ys) : Mrg leL a b xs ys := by
  subst hm
  refine h.mrg hY (by omega) (by omega) leL_trans (fun p hp1 hp2 => ?_) (fun p hp1 hp2 => ?_)
  · have h5 := h3.resolve_left (by omega)
    by_cases e : p = i - 1
    · rw [e]; exact h5
    · exact leL_trans _ _ _ (hY p (i - 1) (by omega) (by omega) (by omega)) h5
  · have h5 := h4.resolve_left (by omega)
    by_cases e : p = i
    · rw [e]; exact h5
    · exact leL_trans _ _ _ h5 (hY i p (by omega) (by omega) (by omega))
theorem shr_fin {a m i : Nat} {xs ys : List (List Int)} (hX : SegS leL xs a m) (h1 : a ≤ i) (h2 : i ≤ m) (h3 : i = a ∨ leL (at' xs (i - 1)) (at' xs m)) (h4 : i = m ∨ leL (at' xs m) (at' xs i)) (h : Shr i m xs ys) : Mrg leL a (m + 1) xs ys := by
  refine h.mrg hX (by omega) (by omega) leL_trans (fun p hp1 hp2 => ?_) (fun p hp1 hp2 => ?_)
  · have h5 := h3.resolve_left (by omega)
    by_cases e : p = i - 1
    · rw [e]; exact h5
    · exact leL_trans _ _ _ (hX p (i - 1) (by omega) (by omega) (by omega)) h5
  · have h5 := h4.resolve_left (by omega)
    by_cases e : p = i
    · rw [e]; exact h5
    · exact leL_trans _ _ _ h5 (hX i p (by omega) (by omega) (by omega))
theorem SegS.one {xs : List (List Int)} (a : Nat) : SegS leL xs a (a + 1) := fun i j h1 h2 h3 => by omega
theorem SegS.less {xs : List (List Int)} {a b b' : Nat} (h : SegS leL xs a b) (hb : b' ≤ b) : SegS leL xs a b' := fun i j h1 h2 h3 => h i j h1 h2 (by omega)
theorem SegS.keep {xs ys : List (List Int)} {a b p q : Nat} (h : SegS leL xs p q) (k : Mv a b xs ys) (hd : q ≤ a ∨ b ≤ p) : SegS leL ys p q := fun i j h1 h2 h3 => by
  rw [k.out i (by omega), k.out j (by omega)]; exact h i j h1 h2 h3
end Go.Proofs.Ytiifdhdhjioefaa
