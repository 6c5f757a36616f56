/- The laws' helpers on lists of lists and on relations: eq, mark, held. Proved for this program; conditions: lengths and marks below 2^62. -/
import Derived.Test.YtemfpennomelaaaLawI
import Derived.Test.YtemfpennomelaaaLawG
import Derived.Test.YtemfpennomelaaaTypes
import Derived.Test.YtemfpennomelaaaAlg
namespace Go.Proofs.Ytemfpennomelaaa
open Go Go.Proofs

end Go.Proofs.Ytemfpennomelaaa
/- The laws' marks by the size of an argument, the exact marks of a result. Proved for this program; conditions: sizes below 2^62. -/
namespace Go.Proofs.Ytemfpennomelaaa
open Go Go.Proofs
set_option linter.unusedVariables false

theorem sm_le1 {α : Type} (f g : α → Nat) (h : ∀ y, f y ≤ 1 + g y) : ∀ x : List α, sm (x.map f) ≤ x.length + sm (x.map g)
  | [] => by simp [sm]
  | y :: x => by
    have h1 := h y
    have h2 := sm_le1 f g h x
    simp only [List.map_cons, sm, List.length_cons]; omega
theorem cntIntS_le (x : List Int) : x.length ≤ x.length := by
  exact Nat.le_refl _

theorem cntIntSS_le (x : List (List Int)) : sm (List.map (fun y : List Int => y.length) x) ≤ x.length + sm (List.map (fun y : List Int => y.length) x) := by
  exact sm_le1 (fun y : List Int => y.length) (fun y : List Int => y.length) (fun y => Nat.le_add_left _ _) x

theorem cntOp_le (x : Int × (List Int)) : x.2.length ≤ x.2.length := by
  exact Nat.le_refl _

theorem cntOpS_le (x : List (Int × (List Int))) : sm (List.map (fun y : Int × (List Int) => 1 + y.2.length) x) ≤ x.length + sm (List.map (fun y : Int × (List Int) => y.2.length) x) := by
  exact sm_le1 (fun y : Int × (List Int) => 1 + y.2.length) (fun y : Int × (List Int) => y.2.length) (fun y => Nat.add_le_add_left (cntOp_le y) 1) x

theorem cntAlgebra_le (x : Int × (List (Int × (List Int)))) : sm (List.map (fun y : Int × (List Int) => 1 + y.2.length) x.2) ≤ x.2.length + sm (List.map (fun y : Int × (List Int) => y.2.length) x.2) := by
  exact cntOpS_le x.2

theorem markIntS_s (u : Value) (x : List Int) (k : Int) (hk : 0 ≤ k) (hx : k + ((x.length : Nat) : Int) ≤ 4611686018427387904) :
    Spec Try.prog 16 [vlit u, vint k] [hsl tInt u x] (fun r S' => ∃ (y : List Int) (k' : Int), r = vint k' ∧ S' = [hsl tInt u y] ∧ k ≤ k' ∧ k' ≤ k + ((x.length : Nat) : Int)) := by
  have h1 := cntIntS_le x
  exact (markIntS_m u x k hk (by omega)).mono fun r S' ⟨y, h2, h3, _⟩ => ⟨y, _, h2, h3, by omega, by omega⟩

theorem markIntSS_s (u : Value) (x : List (List Int)) (k : Int) (hk : 0 ≤ k) (hx : k + ((x.length + sm (List.map (fun y : List Int => y.length) x) : Nat) : Int) ≤ 4611686018427387904) :
    Spec Try.prog 15 [vlit u, vint k] [hsl (tS tInt) u x] (fun r S' => ∃ (y : List (List Int)) (k' : Int), r = vint k' ∧ S' = [hsl (tS tInt) u y] ∧ k ≤ k' ∧ k' ≤ k + ((x.length + sm (List.map (fun y : List Int => y.length) x) : Nat) : Int)) := by
  have h1 := cntIntSS_le x
  exact (markIntSS_m u x k hk (by omega) (by omega)).mono fun r S' ⟨y, h2, h3, _⟩ => ⟨y, _, h2, h3, by omega, by omega⟩

theorem markAlgebra_s (u : Value) (x : Int × (List (Int × (List Int)))) (k : Int) (hk : 0 ≤ k) (hx : k + ((x.2.length + sm (List.map (fun y : Int × (List Int) => y.2.length) x.2) : Nat) : Int) ≤ 4611686018427387904) :
    Spec Try.prog 14 [vagg [vint x.1, vlit u], vint k] [hsl (tPair tInt (tS tInt)) u x.2] (fun r S' => ∃ (y : Int × (List (Int × (List Int)))) (k' : Int), r = vint k' ∧ S' = [hsl (tPair tInt (tS tInt)) u y.2] ∧ k ≤ k' ∧ k' ≤ k + ((x.2.length + sm (List.map (fun y : Int × (List Int) => y.2.length) x.2) : Nat) : Int)) := by
  have h1 := cntAlgebra_le x
  exact (markAlgebra_m u x k hk (by omega) (by omega)).mono fun r S' ⟨y, h2, h3, _⟩ => ⟨y, _, h2, h3, by omega, by omega⟩

theorem IntS_cxle (x : List Int) : x.length ≤ x.length := by
  exact Nat.le_refl _
theorem markIntS_x (u : Value) (x : List Int) (k : Int) (hk : 0 ≤ k) (hx : k + ((x.length : Nat) : Int) ≤ 4611686018427387904) :
    Spec Try.prog 16 [vlit u, vint k] [hsl tInt u x] (fun r S' => r = vint (k + ((x.length : Nat) : Int)) ∧ S' = [hsl tInt u (mkI k x.length)]) := by
  exact markIntS_c u x k hk hx
theorem heldIntS_x (x : List Int) (k : Int) (hk : 0 ≤ k) (hx : k + ((x.length : Nat) : Int) ≤ 4611686018427387904) :
    Spec Try.prog 17 [vsl 1 (fun x : Int => [vint x]) (mkI k x.length), vint k] [] (fun r S' => r = vint (k + ((x.length : Nat) : Int)) ∧ S' = []) := by
  exact heldIntS_c _ k hk hx

end Go.Proofs.Ytemfpennomelaaa
/- Answers that are a list of rows or nothing. Proved for every program; no conditions. -/
namespace Go.Proofs.Ytemfpennomelaaa
open Go Go.Proofs
set_option linter.unusedVariables false
end Go.Proofs.Ytemfpennomelaaa
/- Sizes of answers that are lists of rows. Proved for this program; conditions: told. -/
namespace Go.Proofs.Ytemfpennomelaaa
open Go Go.Proofs
set_option linter.unusedVariables false

theorem opsLen_of {os : List (Int × List Int)} (h : os.length + sm (List.map (fun y : Int × List Int => y.2.length) os) ≤ 1048576) : OpsLen os := fun f hf => by
  have h1 := sm_mem (fun y : Int × List Int => y.2.length) os f hf
  (try dsimp only at h1); omega
end Go.Proofs.Ytemfpennomelaaa
