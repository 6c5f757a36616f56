/- The laws' marks by the size of an argument, the exact marks of a result. Proved for this program; conditions: sizes below 2^62. -/
import Derived.Test.YtejeeokjjbiadaaLawS
import Derived.Test.YtejeeokjjbiadaaLawG
namespace Go.Proofs.Ytejeeokjjbiadaa
open Go Go.Proofs
set_option linter.unusedVariables false

theorem sm_le1 {α : Type} (f g : α → Nat) (h : ∀ y, f y ≤ 1 + g y) : ∀ x : List α, sm (x.map f) ≤ x.length + sm (x.map g)
  | [] => by simp [sm]
  | y :: x => by
    have h1 := h y
    have h2 := sm_le1 f g h x
    simp only [List.map_cons, sm, List.length_cons]; omega
theorem sm_le_mul {α : Type} (f : α → Nat) (xs : List α) (b : Nat) (h : ∀ t ∈ xs, f t ≤ b) : sm (xs.map f) ≤ xs.length * b := by
  induction xs with
  | nil => simp [sm]
  | cons t xs ih =>
    have h1 := h t (by simp)
    have h2 := ih (fun u hu => h u (by simp [hu]))
    simp only [List.map_cons, sm, List.length_cons, Nat.succ_mul]; omega
theorem tot_sm : ∀ l : List Nat, tot l = sm l
  | [] => rfl
  | x :: l => by simp [sm, tot, tot_sm l]
theorem cntIntS_le (x : List Int) : x.length ≤ x.length := by
  exact Nat.le_refl _

theorem cntIntSS_le (x : List (List Int)) : sm (List.map (fun y : List Int => y.length) x) ≤ x.length + sm (List.map (fun y : List Int => y.length) x) := by
  exact sm_le1 (fun y : List Int => y.length) (fun y : List Int => y.length) (fun y => Nat.le_add_left _ _) x

theorem cntRelation_le (x : Int × (List (List Int))) : sm (List.map (fun y : List Int => y.length) x.2) ≤ x.2.length + sm (List.map (fun y : List Int => y.length) x.2) := by
  exact cntIntSS_le x.2

theorem cntRelationS_le (x : List (Int × (List (List Int)))) : sm (List.map (fun y : Int × (List (List Int)) => 1 + sm (List.map (fun y : List Int => y.length) y.2)) x) ≤ x.length + sm (List.map (fun y : Int × (List (List Int)) => y.2.length + sm (List.map (fun y : List Int => y.length) y.2)) x) := by
  exact sm_le1 (fun y : Int × (List (List Int)) => 1 + sm (List.map (fun y : List Int => y.length) y.2)) (fun y : Int × (List (List Int)) => y.2.length + sm (List.map (fun y : List Int => y.length) y.2)) (fun y => Nat.add_le_add_left (cntRelation_le y) 1) x

theorem cntAtom_le (x : Int × (List Int)) : x.2.length ≤ x.2.length := by
  exact Nat.le_refl _

theorem cntAtomS_le (x : List (Int × (List Int))) : sm (List.map (fun y : Int × (List Int) => 1 + y.2.length) x) ≤ x.length + sm (List.map (fun y : Int × (List Int) => y.2.length) x) := by
  exact sm_le1 (fun y : Int × (List Int) => 1 + y.2.length) (fun y : Int × (List Int) => y.2.length) (fun y => Nat.add_le_add_left (cntAtom_le y) 1) x

theorem markIntS_s (u : Value) (x : List Int) (k : Int) (hk : 0 ≤ k) (hx : k + ((x.length : Nat) : Int) ≤ 4611686018427387904) :
    Spec Try.prog 33 [vlit u, vint k] [hsl tInt u x] (fun r S' => ∃ (y : List Int) (k' : Int), r = vint k' ∧ S' = [hsl tInt u y] ∧ k ≤ k' ∧ k' ≤ k + ((x.length : Nat) : Int)) := by
  have h1 := cntIntS_le x
  exact (markIntS_m u x k hk (by omega)).mono fun r S' ⟨y, h2, h3, _⟩ => ⟨y, _, h2, h3, by omega, by omega⟩

theorem markRelationS_s (u : Value) (x : List (Int × (List (List Int)))) (k : Int) (hk : 0 ≤ k) (hx : k + ((x.length + sm (List.map (fun y : Int × (List (List Int)) => y.2.length + sm (List.map (fun y : List Int => y.length) y.2)) x) : Nat) : Int) ≤ 4611686018427387904) :
    Spec Try.prog 72 [vlit u, vint k] [hsl (tPair tInt (tS (tS tInt))) u x] (fun r S' => ∃ (y : List (Int × (List (List Int)))) (k' : Int), r = vint k' ∧ S' = [hsl (tPair tInt (tS (tS tInt))) u y] ∧ k ≤ k' ∧ k' ≤ k + ((x.length + sm (List.map (fun y : Int × (List (List Int)) => y.2.length + sm (List.map (fun y : List Int => y.length) y.2)) x) : Nat) : Int)) := by
  have h1 := cntRelationS_le x
  exact (markRelationS_m u x k hk (by omega) ⟨by omega, fun y hy => by
      have h7 := sm_mem (fun y : Int × (List (List Int)) => y.2.length + sm (List.map (fun y : List Int => y.length) y.2)) x y hy
      (try dsimp only at h7)
      omega⟩).mono fun r S' ⟨y, h2, h3, _⟩ => ⟨y, _, h2, h3, by omega, by omega⟩

theorem markAtomS_s (u : Value) (x : List (Int × (List Int))) (k : Int) (hk : 0 ≤ k) (hx : k + ((x.length + sm (List.map (fun y : Int × (List Int) => y.2.length) x) : Nat) : Int) ≤ 4611686018427387904) :
    Spec Try.prog 73 [vlit u, vint k] [hsl (tPair tInt (tS tInt)) u x] (fun r S' => ∃ (y : List (Int × (List Int))) (k' : Int), r = vint k' ∧ S' = [hsl (tPair tInt (tS tInt)) u y] ∧ k ≤ k' ∧ k' ≤ k + ((x.length + sm (List.map (fun y : Int × (List Int) => y.2.length) x) : Nat) : Int)) := by
  have h1 := cntAtomS_le x
  exact (markAtomS_m u x k hk (by omega) (by omega)).mono fun r S' ⟨y, h2, h3, _⟩ => ⟨y, _, h2, h3, by omega, by omega⟩

theorem IntSS_cxle (x : List (List Int)) : tot (x.map List.length) ≤ x.length + sm (List.map (fun y : List Int => y.length) x) := by
  have h1 := cntIntSS_le x
  rw [tot_sm]
  exact h1
theorem markIntSS_x (u : Value) (x : List (List Int)) (k : Int) (hk : 0 ≤ k) (hx : k + ((x.length + sm (List.map (fun y : List Int => y.length) x) : Nat) : Int) ≤ 4611686018427387904) :
    Spec Try.prog 40 [vlit u, vint k] [hsl (tS tInt) u x] (fun r S' => r = vint (k + ((tot (x.map List.length) : Nat) : Int)) ∧ S' = [hsl (tS tInt) u (mkS k (x.map List.length))]) := by
  have h1 := IntSS_cxle x
  exact markIntSS_c u x k hk (by omega) (by omega)
theorem heldIntSS_x (x : List (List Int)) (k : Int) (hk : 0 ≤ k) (hx : k + ((x.length + sm (List.map (fun y : List Int => y.length) x) : Nat) : Int) ≤ 4611686018427387904) :
    Spec Try.prog 41 [vsl 1 (fun t : List Int => [vsl 1 (fun x : Int => [vint x]) t]) (mkS k (x.map List.length)), vint k] [] (fun r S' => r = vint (k + ((tot (x.map List.length) : Nat) : Int)) ∧ S' = []) := by
  have h1 := IntSS_cxle x
  exact heldIntSS_c _ k hk (by simp; omega) (by omega)

theorem Relation_cxle (x : List (List Int)) : tot (x.map List.length) ≤ x.length + sm (List.map (fun y : List Int => y.length) x) := IntSS_cxle x
set_option maxRecDepth 10000 in
theorem markRelation_x (u : Value) (a : Int) (x : List (List Int)) (k : Int) (hk : 0 ≤ k) (hx : k + ((x.length + sm (List.map (fun y : List Int => y.length) x) : Nat) : Int) ≤ 4611686018427387904) :
    Spec Try.prog 74 [vagg [vint a, vlit u], vint k] [hsl (tS tInt) u x] (fun r S' => r = vint (k + ((tot (x.map List.length) : Nat) : Int)) ∧ S' = [hsl (tS tInt) u (mkS k (x.map List.length))]) := by
  refine Spec.of_run2 (n := 10) Try.func74 rfl Try.results74 Try.ntmps74 rfl ?_
  repeat' (first | (with_reducible refine RL.done ?_) | (with_reducible refine RL.wanted ?_ ?_; exact rfl) | ((with_reducible show RH _ _ _ ⟨some 2, .box _ _, _, _, _, _⟩ _ _ _ _); (refine RH.boxAgg rfl rfl ?_; rintro _ _ ⟨b2, rfl, rfl⟩)) | ((with_reducible show RH _ _ _ ⟨_, .call ⟨.value (.func 40), _, _⟩, _, _, _, _⟩ _ _ _ _); refine RH.cW Try.call40 ?_; refine ⟨_, _, _, (by repeat (first | exact Pick.nil | (apply Pick.cons; (with_reducible repeat (first | exact Rem.head | apply Rem.tail))))), markIntSS_x _ x _ hk hx, ?_⟩; rintro _ _ ⟨rfl, rfl⟩; refine RL.nm ?_) | ((with_reducible show RH _ _ _ _ _ _ _ _); refine RH.val (hK := ?_)) | (with_reducible first | refine Run.seq ?_ | refine Run.region ?_ | refine Run.ret ?_) | (with_reducible refine seqN (K := Run _ _ _ _) ?_))
  refine ⟨eA, _, [hsl (tS tInt) u (mkS k (x.map List.length))], resA, ?_, ?_⟩
  · exact SEnt.ch (.cons .head rfl .nil)
  · exact ⟨rfl, rfl⟩
set_option maxRecDepth 10000 in
theorem heldRelation_x (a : Int) (x : List (List Int)) (k : Int) (hk : 0 ≤ k) (hx : k + ((x.length + sm (List.map (fun y : List Int => y.length) x) : Nat) : Int) ≤ 4611686018427387904) :
    Spec Try.prog 75 [vagg [vint a, vsl 1 (fun t : List Int => [vsl 1 (fun x : Int => [vint x]) t]) (mkS k (x.map List.length))], vint k] [] (fun r S' => r = vint (k + ((tot (x.map List.length) : Nat) : Int)) ∧ S' = []) := by
  refine Spec.of_run2 (n := 12) Try.func75 rfl Try.results75 Try.ntmps75 rfl ?_
  repeat' (first | (with_reducible first | refine RL.done ?_ | refine RL.app0 ?_) | (with_reducible refine RL.wanted ?_ ?_; exact rfl) | ((with_reducible show RH _ _ _ ⟨some 2, .box _ _, _, _, _, _⟩ _ _ _ _); (refine RH.boxAgg rfl rfl ?_; rintro _ _ ⟨b2, rfl, rfl⟩)) | ((with_reducible show RH _ _ _ ⟨_, .call ⟨.value (.func 41), _, _⟩, _, _, _, _⟩ _ _ _ _); refine RH.cP Try.call41 ?_; refine ⟨_, heldIntSS_x x _ hk hx, ?_⟩; rintro _ _ ⟨rfl, rfl⟩) | ((with_reducible show RH _ _ _ _ _ _ _ _); refine RH.val (hK := ?_)) | (with_reducible first | refine Run.seq ?_ | refine Run.region ?_ | refine Run.skip ?_ | refine Run.ret ?_) | (with_reducible show Run _ _ (.cond _ _ _) _ _ _; refine Run.condD rfl (fun h => ?_) (fun h => ?_)) | (with_reducible first | refine seqN (K := Run _ _ _ _) ?_ | refine seqR ?_))
  · omega
  · refine ⟨eA, _, [], resA, .ch .nil, ?_⟩
    exact ⟨rfl, rfl⟩

end Go.Proofs.Ytejeeokjjbiadaa
