/- The named conditions: impl.ConditionNamed: the condition of each name. Proved for this program; no conditions. -/
import Derived.Test.YtemfpennomelaaaDoorStrI
namespace Go.Proofs.YtemfpennomelaaaDoor
open Go Go.Proofs
set_option linter.unusedVariables false
def chkP (p : List UInt8) : Bool := decide (0 ≤ Lib.indexByte p 61 ∧ (Lib.indexByte p 61).toNat < p.length ∧ p.length ≤ 100)
theorem chk_all {L : List (List UInt8)} (h : L.all chkP = true) : ∀ p ∈ L, (∃ m : Nat, Lib.indexByte p 61 = m ∧ m < p.length) ∧ p.length ≤ 100 := fun p hp => by
  have h1 := List.all_eq_true.1 h p hp
  simp only [chkP, decide_eq_true_eq] at h1
  exact ⟨⟨(Lib.indexByte p 61).toNat, by omega, h1.2.1⟩, h1.2.2⟩
theorem ks_no {name : ByteArray} (h : name ∉ kvT.map Prod.fst) : ksGet kvT name = .empty := ksGet_out h
theorem implNamed_c (name : ByteArray) : Spec Tryd.prog 6 [vstr name] [] (NmRes (nmC name) (decide (0 < (nmC name).1))) := by
  by_cases h0 : name = kMalcev
  · have e := nmC_malcev  h0
    rw [e]
    subst h0
    have h := implYes_c kMalcev [48, 49, 49, 61, 48, 59, 48, 48, 49, 61, 49] (by rfl) (by decide) (by decide) (chk_all (by decide))
    rwa [show arP (splitB 59 [48, 49, 49, 61, 48, 59, 48, 48, 49, 61, 49]) = 3 by decide, show (splitB 59 [48, 49, 49, 61, 48, 59, 48, 48, 49, 61, 49]).map ruleP = [([0, 1, 1], [0]), ([0, 0, 1], [1])] by decide] at h
  by_cases h1 : name = kMajority
  · have e := nmC_majority h0 h1
    rw [e]
    subst h1
    have h := implYes_c kMajority [48, 48, 49, 61, 48, 59, 48, 49, 48, 61, 48, 59, 49, 48, 48, 61, 48] (by rfl) (by decide) (by decide) (chk_all (by decide))
    rwa [show arP (splitB 59 [48, 48, 49, 61, 48, 59, 48, 49, 48, 61, 48, 59, 49, 48, 48, 61, 48]) = 3 by decide, show (splitB 59 [48, 48, 49, 61, 48, 59, 48, 49, 48, 61, 48, 59, 49, 48, 48, 61, 48]).map ruleP = [([0, 0, 1], [0]), ([0, 1, 0], [0]), ([1, 0, 0], [0])] by decide] at h
  by_cases h2 : name = kMinority
  · have e := nmC_minority h0 h1 h2
    rw [e]
    subst h2
    have h := implYes_c kMinority [48, 48, 49, 61, 49, 59, 48, 49, 48, 61, 49, 59, 49, 48, 48, 61, 49] (by rfl) (by decide) (by decide) (chk_all (by decide))
    rwa [show arP (splitB 59 [48, 48, 49, 61, 49, 59, 48, 49, 48, 61, 49, 59, 49, 48, 48, 61, 49]) = 3 by decide, show (splitB 59 [48, 48, 49, 61, 49, 59, 48, 49, 48, 61, 49, 59, 49, 48, 48, 61, 49]).map ruleP = [([0, 0, 1], [1]), ([0, 1, 0], [1]), ([1, 0, 0], [1])] by decide] at h
  by_cases h3 : name = kPixley
  · have e := nmC_pixley h0 h1 h2 h3
    rw [e]
    subst h3
    have h := implYes_c kPixley [48, 49, 49, 61, 48, 59, 48, 49, 48, 61, 48, 59, 48, 48, 49, 61, 49] (by rfl) (by decide) (by decide) (chk_all (by decide))
    rwa [show arP (splitB 59 [48, 49, 49, 61, 48, 59, 48, 49, 48, 61, 48, 59, 48, 48, 49, 61, 49]) = 3 by decide, show (splitB 59 [48, 49, 49, 61, 48, 59, 48, 49, 48, 61, 48, 59, 48, 48, 49, 61, 49]).map ruleP = [([0, 1, 1], [0]), ([0, 1, 0], [0]), ([0, 0, 1], [1])] by decide] at h
  by_cases h4 : name = kCommutative
  · have e := nmC_commutative h0 h1 h2 h3 h4
    rw [e]
    subst h4
    have h := implYes_c kCommutative [48, 48, 61, 48, 59, 48, 49, 61, 49, 48] (by rfl) (by decide) (by decide) (chk_all (by decide))
    rwa [show arP (splitB 59 [48, 48, 61, 48, 59, 48, 49, 61, 49, 48]) = 2 by decide, show (splitB 59 [48, 48, 61, 48, 59, 48, 49, 61, 49, 48]).map ruleP = [([0, 0], [0]), ([0, 1], [1, 0])] by decide] at h
  by_cases h5 : name = kWeak
  · have e := nmC_weak h0 h1 h2 h3 h4 h5
    rw [e]
    subst h5
    have h := implYes_c kWeak [48, 48, 48, 61, 48, 59, 48, 48, 49, 61, 48, 49, 48, 59, 48, 49, 48, 61, 49, 48, 48] (by rfl) (by decide) (by decide) (chk_all (by decide))
    rwa [show arP (splitB 59 [48, 48, 48, 61, 48, 59, 48, 48, 49, 61, 48, 49, 48, 59, 48, 49, 48, 61, 49, 48, 48]) = 3 by decide, show (splitB 59 [48, 48, 48, 61, 48, 59, 48, 48, 49, 61, 48, 49, 48, 59, 48, 49, 48, 61, 49, 48, 48]).map ruleP = [([0, 0, 0], [0]), ([0, 0, 1], [0, 1, 0]), ([0, 1, 0], [1, 0, 0])] by decide] at h
  have hno : name ∉ kvT.map Prod.fst := fun h => by
    simp only [kvT, List.map_cons, List.map_nil, List.mem_cons, List.not_mem_nil, or_false] at h
    rcases h with h | h | h | h | h | h
    · exact h0 h
    · exact h1 h
    · exact h2 h
    · exact h3 h
    · exact h4 h
    · exact h5 h
  rw [nmC_no h0 h1 h2 h3 h4 h5]
  exact implNo_c name (ks_no hno) (decide_eq_false hno)
end Go.Proofs.YtemfpennomelaaaDoor
