/- What a sort by exchanges asks of its list: a function that compares two places and one that exchanges them. Proved for every program P; no conditions. -/
import Derived.Test.YtemfpennomelaaaSortP
namespace Go.Proofs.Ytemfpennomelaaa
open Go Go.Proofs
set_option linter.unusedVariables false
def ltL (x y : List Int) : Bool := decide (cmp x y < 0)
def leL (x y : List Int) : Prop := ltL y x = false
attribute [irreducible] ltL
/-- the function f, called with two places and vs, exchanges what stands at these places of the list in chunk A -/
structure Swp (P : Program) (f : FuncId) (vs : List Value) (A : List (List Int) → HP) (m : Nat) : Prop where
  run : ∀ (xs : List (List Int)) (i j : Nat) (c : Ctx) (S : List HP), xs.length = m → i < m → j < m → i ≠ j → SH c (A xs :: S) →
    ∃ v w' F', (callFunc f ([Value.int .i64 (i : Int), Value.int .i64 (j : Int)] ++ vs).toArray).run P c.w = .ok (.value v) w' ∧ c.le ⟨F', c.U, w'⟩ ∧ SH ⟨F', c.U, w'⟩ (A (swapL xs i j) :: S)
structure Lss (P : Program) (f : FuncId) (vs : List Value) (A : List (List Int) → HP) (m : Nat) : Prop where
  enter : Enters P f
  run : ∀ (xs : List (List Int)) (i j : Int), xs.length = m → 0 ≤ i → i.toNat < m → 0 ≤ j → j.toNat < m →
    Spec P f ([vint i, vint j] ++ vs.map vlit) [A xs] (fun r S' => r = vbool (ltL (at' xs i.toNat) (at' xs j.toNat)) ∧ S' = [A xs])
structure Srt (P : Program) (fl : FuncId) (vl : List Value) (fs : FuncId) (vs : List Value) (A : List (List Int) → HP) (m : Nat) : Prop where
  less : Lss P fl vl A m
  swap : Swp P fs vs A m
  big : m ≤ 1000000
theorem EOp.swap {P : Program} {n : Nat} {φ : Slots} {S : List HP} {d : Option Tmp} {ty : TypeId} {ps : String} {af : Array Edge} {g : Option (Nat × Bool)} {f : FuncId} {vs : List Value} {A : List (List Int) → HP} {m t : Nat} {x y : Operand} {ts : Array TypeId} {i j : Int} {xs : List (List Int)} {S1 : List HP}
    (hs : Swp P f vs A m) (hfn : φ.get t = some (vlit (.func (.func f) #[] vs.toArray))) (hx : opd φ x = some (vint i)) (hy : opd φ y = some (vint j)) (hr : Rem S (A xs) S1) (hl : xs.length = m)
    (hi0 : 0 ≤ i) (hi : i.toNat < m) (hj0 : 0 ≤ j) (hj : j.toNat < m) (hij : i ≠ j) :
    EOp P n φ S ⟨d, .call ⟨.value (.tmp t), #[x, y], ts⟩, ty, ps, af, g⟩ (fun r S' => r = vany ∧ S' = A (swapL xs i.toNat j.toNat) :: S1) := by
  refine ⟨fun c a hf hs0 => ?_⟩
  have h1 : a.eval x = .int .i64 i := hf.opd hx
  have h2 : a.eval y = .int .i64 j := hf.opd hy
  have h3 : a.tmps.getD t undef = .func (.func f) #[] vs.toArray := hf.slot t _ hfn
  have h4 : a.eval (.tmp t) = .func (.func f) #[] vs.toArray := h3
  obtain ⟨gs, fr, hs1⟩ := hs0.rem hr
  obtain ⟨v, w', F', e1, e2, e3⟩ := hs.run xs i.toNat j.toNat c S1 hl hi hj (by omega) ⟨_, hs1⟩
  refine ⟨v, w', F', vany, _, ?_, e2, trivial, e3, rfl, rfl⟩
  rw [Int.toNat_of_nonneg hi0, Int.toNat_of_nonneg hj0] at e1
  rw [← e1]
  simp [execOp, resolve, h4, h1, h2, Deferred.ofValue, invoke]
/-! ### what ends a merge of one element -/
theorem SegS.one {xs : List (List Int)} (a : Nat) : SegS leL xs a (a + 1) := fun i j h1 h2 h3 => by omega
theorem SegS.less {xs : List (List Int)} {a b b' : Nat} (h : SegS leL xs a b) (hb : b' ≤ b) : SegS leL xs a b' := fun i j h1 h2 h3 => h i j h1 h2 (by omega)
theorem SegS.keep {xs ys : List (List Int)} {a b p q : Nat} (h : SegS leL xs p q) (k : Mv a b xs ys) (hd : q ≤ a ∨ b ≤ p) : SegS leL ys p q := fun i j h1 h2 h3 => by
  rw [k.out i (by omega), k.out j (by omega)]; exact h i j h1 h2 h3
end Go.Proofs.Ytemfpennomelaaa
