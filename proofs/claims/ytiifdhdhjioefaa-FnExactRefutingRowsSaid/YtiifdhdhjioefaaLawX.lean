/- The laws' marks by the size of an argument, the exact marks of a result. Proved for this program; conditions: sizes below 2^62. -/
import Derived.Test.YtiifdhdhjioefaaLawS
import Derived.Test.YtiifdhdhjioefaaLawG
namespace Go.Proofs.Ytiifdhdhjioefaa
open Go Go.Proofs
set_option linter.unusedVariables false

theorem sm_le1 {α : Type} (f g : α → Nat) (h : ∀ y, f y ≤ 1 + g y) : ∀ x : List α, sm (x.map f) ≤ x.length + sm (x.map g)
  | [] => by simp [sm]
  | y :: x => by
    have h1 := h y
    have h2 := sm_le1 f g h x
    simp only [List.map_cons, sm, List.length_cons]; omega
theorem sm_le_mul {α : Type} (f : α → Nat) (xs : List α) (b : Nat) (h : ∀ t ∈ xs, f t ≤ b) : sm (xs.map f) ≤ xs.length * b := by
  induction xs with
  | nil => simp [sm]
  | cons t xs ih =>
    have h1 := h t (by simp)
    have h2 := ih (fun u hu => h u (by simp [hu]))
    simp only [List.map_cons, sm, List.length_cons, Nat.succ_mul]; omega
theorem tot_sm : ∀ l : List Nat, tot l = sm l
  | [] => rfl
  | x :: l => by simp [sm, tot, tot_sm l]
theorem cntIntSS_le (x : List (List Int)) : sm (List.map (fun y : List Int => y.length) x) ≤ x.length + sm (List.map (fun y : List Int => y.length) x) := by
  exact sm_le1 (fun y : List Int => y.length) (fun y : List Int => y.length) (fun y => Nat.le_add_left _ _) x

theorem cntRule_le (x : (List Int) × (List Int)) : x.1.length + x.2.length ≤ x.1.length + x.2.length := by
  omega

theorem cntRuleS_le (x : List ((List Int) × (List Int))) : sm (List.map (fun y : (List Int) × (List Int) => y.1.length + y.2.length) x) ≤ x.length + sm (List.map (fun y : (List Int) × (List Int) => y.1.length + y.2.length) x) := by
  exact sm_le1 (fun y : (List Int) × (List Int) => y.1.length + y.2.length) (fun y : (List Int) × (List Int) => y.1.length + y.2.length) (fun y => Nat.le_trans (cntRule_le y) (Nat.le_add_left _ _)) x

theorem cntCondition_le (x : Int × (List ((List Int) × (List Int)))) : sm (List.map (fun y : (List Int) × (List Int) => y.1.length + y.2.length) x.2) ≤ x.2.length + sm (List.map (fun y : (List Int) × (List Int) => y.1.length + y.2.length) x.2) := by
  exact cntRuleS_le x.2

theorem cntOp_le (x : Int × (List Int)) : x.2.length ≤ x.2.length := by
  exact Nat.le_refl _

theorem cntOpS_le (x : List (Int × (List Int))) : sm (List.map (fun y : Int × (List Int) => 1 + y.2.length) x) ≤ x.length + sm (List.map (fun y : Int × (List Int) => y.2.length) x) := by
  exact sm_le1 (fun y : Int × (List Int) => 1 + y.2.length) (fun y : Int × (List Int) => y.2.length) (fun y => Nat.add_le_add_left (cntOp_le y) 1) x

theorem cntAlgebra_le (x : Int × (List (Int × (List Int)))) : sm (List.map (fun y : Int × (List Int) => 1 + y.2.length) x.2) ≤ x.2.length + sm (List.map (fun y : Int × (List Int) => y.2.length) x.2) := by
  exact cntOpS_le x.2

theorem markCondition_s (u : Value) (x : Int × (List ((List Int) × (List Int)))) (k : Int) (hk : 0 ≤ k) (hx : k + ((x.2.length + sm (List.map (fun y : (List Int) × (List Int) => y.1.length + y.2.length) x.2) : Nat) : Int) ≤ 4611686018427387904) :
    Spec Try.prog 57 [vagg [vint x.1, vlit u], vint k] [hsl (tPair (tS tInt) (tS tInt)) u x.2] (fun r S' => ∃ (y : Int × (List ((List Int) × (List Int)))) (k' : Int), r = vint k' ∧ S' = [hsl (tPair (tS tInt) (tS tInt)) u y.2] ∧ k ≤ k' ∧ k' ≤ k + ((x.2.length + sm (List.map (fun y : (List Int) × (List Int) => y.1.length + y.2.length) x.2) : Nat) : Int)) := by
  have h1 := cntCondition_le x
  exact (markCondition_m u x k hk (by omega) (by omega)).mono fun r S' ⟨y, h2, h3, _⟩ => ⟨y, _, h2, h3, by omega, by omega⟩

theorem markAlgebra_s (u : Value) (x : Int × (List (Int × (List Int)))) (k : Int) (hk : 0 ≤ k) (hx : k + ((x.2.length + sm (List.map (fun y : Int × (List Int) => y.2.length) x.2) : Nat) : Int) ≤ 4611686018427387904) :
    Spec Try.prog 48 [vagg [vint x.1, vlit u], vint k] [hsl (tPair tInt (tS tInt)) u x.2] (fun r S' => ∃ (y : Int × (List (Int × (List Int)))) (k' : Int), r = vint k' ∧ S' = [hsl (tPair tInt (tS tInt)) u y.2] ∧ k ≤ k' ∧ k' ≤ k + ((x.2.length + sm (List.map (fun y : Int × (List Int) => y.2.length) x.2) : Nat) : Int)) := by
  have h1 := cntAlgebra_le x
  exact (markAlgebra_m u x k hk (by omega) (by omega)).mono fun r S' ⟨y, h2, h3, _⟩ => ⟨y, _, h2, h3, by omega, by omega⟩

theorem IntSS_cxle (x : List (List Int)) : tot (x.map List.length) ≤ x.length + sm (List.map (fun y : List Int => y.length) x) := by
  have h1 := cntIntSS_le x
  rw [tot_sm]
  exact h1
theorem markIntSS_x (u : Value) (x : List (List Int)) (k : Int) (hk : 0 ≤ k) (hx : k + ((x.length + sm (List.map (fun y : List Int => y.length) x) : Nat) : Int) ≤ 4611686018427387904) :
    Spec Try.prog 49 [vlit u, vint k] [hsl (tS tInt) u x] (fun r S' => r = vint (k + ((tot (x.map List.length) : Nat) : Int)) ∧ S' = [hsl (tS tInt) u (mkS k (x.map List.length))]) := by
  have h1 := IntSS_cxle x
  exact markIntSS_c u x k hk (by omega) (by omega)
theorem heldIntSS_x (x : List (List Int)) (k : Int) (hk : 0 ≤ k) (hx : k + ((x.length + sm (List.map (fun y : List Int => y.length) x) : Nat) : Int) ≤ 4611686018427387904) :
    Spec Try.prog 58 [vsl 1 (fun t : List Int => [vsl 1 (fun x : Int => [vint x]) t]) (mkS k (x.map List.length)), vint k] [] (fun r S' => r = vint (k + ((tot (x.map List.length) : Nat) : Int)) ∧ S' = []) := by
  have h1 := IntSS_cxle x
  exact heldIntSS_c _ k hk (by simp; omega) (by omega)

end Go.Proofs.Ytiifdhdhjioefaa
