/- Clones, in plain terms: adding compositions round by round, all of them (impl) or those with a new argument (spec): the same outcome. No program, no conditions but ranges. -/
import Derived.Test.YtiifdhdhjioefaaAppl
import Derived.Test.YtiifdhdhjioefaaNext
namespace Go.Proofs.Ytiifdhdhjioefaa
open Go Go.Proofs
set_option linter.unusedVariables false

abbrev CS := List (List Int) × List (Int × List Int)
def addC (c : CS) (t : List Int) (st : Int × List Int) : CS := if t ∈ c.1 then c else (c.1 ++ [t], c.2 ++ [st])
def fresh (K k b i : Nat) : Bool := (lowd (i : Int) (K : Int) k).any (fun x => decide ((b : Int) ≤ x)) || b == 0
def many (K : Nat) (f : Int × List Int) : Nat := (pw (K : Int) f.1.toNat).toNat
/-! ### what steps leave -/
theorem chosen_pre {xs ys : List (List Int)} (h : xs <+: ys) {ns : List Int} (hn : ∀ x ∈ ns, 0 ≤ x ∧ x.toNat < xs.length) : chosen ys ns = chosen xs ns := by
  apply List.map_congr_left
  intro x hx
  obtain ⟨zs, rfl⟩ := h
  rw [List.getD_eq_getElem?_getD, List.getD_eq_getElem?_getD, List.getElem?_append_left (hn x hx).2]
/-! ### numbers and digits -/
/-- the compositions of functions that stand below b are there -/
def Closed (n : Int) (size : Nat) (ops : List (Int × List Int)) (b : Nat) (c : CS) : Prop :=
  b ≤ c.1.length ∧ ∀ f ∈ ops, ∀ ns : List Int, ns.length = f.1.toNat → (∀ x ∈ ns, 0 ≤ x ∧ x < (b : Int)) → applyT n f.2 (chosen c.1 ns) size ∈ c.1
theorem Closed.mono {n : Int} {size : Nat} {ops : List (Int × List Int)} {b : Nat} {c c' : CS} (h : Closed n size ops b c) (hp : c.1 <+: c'.1) : Closed n size ops b c' :=
  ⟨Nat.le_trans h.1 hp.length_le, fun f hf ns hl hn => by
    rw [chosen_pre hp (fun x hx => by have := hn x hx; have := h.1; omega)]
    exact hp.subset (h.2 f hf ns hl hn)⟩
end Go.Proofs.Ytiifdhdhjioefaa
