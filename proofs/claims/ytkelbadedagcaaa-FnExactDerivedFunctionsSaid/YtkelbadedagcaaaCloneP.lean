/- Clones, in plain terms: adding compositions round by round, all of them (impl) or those with a new argument (spec): the same outcome. No program, no conditions but ranges. -/
import Derived.Test.YtkelbadedagcaaaAppl
import Derived.Test.YtkelbadedagcaaaNext
namespace Go.Proofs.Ytkelbadedagcaaa
open Go Go.Proofs
set_option linter.unusedVariables false

abbrev CS := List (List Int) × List (Int × List Int)
def addC (c : CS) (t : List Int) (st : Int × List Int) : CS := if t ∈ c.1 then c else (c.1 ++ [t], c.2 ++ [st])
/-- no more than 60 are kept -/
def addO (c : CS) (t : List Int) (st : Int × List Int) : Option CS := if t ∈ c.1 then some c else if c.1.length = 60 then none else some (c.1 ++ [t], c.2 ++ [st])
def stepO (n : Int) (size : Nat) (f : Int × List Int) (j : Nat) (K : Nat) (c : CS) (i : Nat) : Option CS :=
  addO c (applyT n f.2 (chosen c.1 (lowd (i : Int) (K : Int) f.1.toNat)) size) ((j : Int), lowd (i : Int) (K : Int) f.1.toNat)
def fresh (K k b i : Nat) : Bool := (lowd (i : Int) (K : Int) k).any (fun x => decide ((b : Int) ≤ x)) || b == 0
def many (K : Nat) (f : Int × List Int) : Nat := (pw (K : Int) f.1.toNat).toNat
def opL (n : Int) (size K : Nat) (c : CS) (p : (Int × List Int) × Nat) : Option CS := (List.range' 0 (many K p.1)).foldlM (stepO n size p.1 p.2 K) c
def rndL (n : Int) (size : Nat) (ops : List (Int × List Int)) (K : Nat) (c : CS) : Option CS := ops.zipIdx.foldlM (opL n size K) c
def cloneR (n : Int) (size : Nat) (ops : List (Int × List Int)) : Nat → CS → Int → Option CS
  | 0, c, _ => some c
  | f + 1, c, old => if old < (c.1.length : Int) then (rndL n size ops c.1.length c).bind fun c' => cloneR n size ops f c' (c.1.length : Int) else some c
/-! ### what steps leave -/
theorem chosen_pre {xs ys : List (List Int)} (h : xs <+: ys) {ns : List Int} (hn : ∀ x ∈ ns, 0 ≤ x ∧ x.toNat < xs.length) : chosen ys ns = chosen xs ns := by
  apply List.map_congr_left
  intro x hx
  obtain ⟨zs, rfl⟩ := h
  rw [List.getD_eq_getElem?_getD, List.getD_eq_getElem?_getD, List.getElem?_append_left (hn x hx).2]
/-! ### numbers and digits -/
/-- the compositions of functions that stand below b are there -/
def Closed (n : Int) (size : Nat) (ops : List (Int × List Int)) (b : Nat) (c : CS) : Prop :=
  b ≤ c.1.length ∧ ∀ f ∈ ops, ∀ ns : List Int, ns.length = f.1.toNat → (∀ x ∈ ns, 0 ≤ x ∧ x < (b : Int)) → applyT n f.2 (chosen c.1 ns) size ∈ c.1
theorem Closed.mono {n : Int} {size : Nat} {ops : List (Int × List Int)} {b : Nat} {c c' : CS} (h : Closed n size ops b c) (hp : c.1 <+: c'.1) : Closed n size ops b c' :=
  ⟨Nat.le_trans h.1 hp.length_le, fun f hf ns hl hn => by
    rw [chosen_pre hp (fun x hx => by have := hn x hx; have := h.1; omega)]
    exact hp.subset (h.2 f hf ns hl hn)⟩
end Go.Proofs.Ytkelbadedagcaaa
