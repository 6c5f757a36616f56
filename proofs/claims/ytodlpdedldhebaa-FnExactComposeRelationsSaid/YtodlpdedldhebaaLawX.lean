/- The laws' marks by the size of an argument, the exact marks of a result. Proved for this program; conditions: sizes below 2^62. -/
import Derived.Test.YtodlpdedldhebaaLawS
import Derived.Test.YtodlpdedldhebaaLawG
namespace Go.Proofs.Ytodlpdedldhebaa
open Go Go.Proofs
set_option linter.unusedVariables false

theorem sm_le1 {α : Type} (f g : α → Nat) (h : ∀ y, f y ≤ 1 + g y) : ∀ x : List α, sm (x.map f) ≤ x.length + sm (x.map g)
  | [] => by simp [sm]
  | y :: x => by
    have h1 := h y
    have h2 := sm_le1 f g h x
    simp only [List.map_cons, sm, List.length_cons]; omega
theorem sm_le_mul {α : Type} (f : α → Nat) (xs : List α) (b : Nat) (h : ∀ t ∈ xs, f t ≤ b) : sm (xs.map f) ≤ xs.length * b := by
  induction xs with
  | nil => simp [sm]
  | cons t xs ih =>
    have h1 := h t (by simp)
    have h2 := ih (fun u hu => h u (by simp [hu]))
    simp only [List.map_cons, sm, List.length_cons, Nat.succ_mul]; omega
theorem tot_sm : ∀ l : List Nat, tot l = sm l
  | [] => rfl
  | x :: l => by simp [sm, tot, tot_sm l]
theorem cntIntSS_le (x : List (List Int)) : sm (List.map (fun y : List Int => y.length) x) ≤ x.length + sm (List.map (fun y : List Int => y.length) x) := by
  exact sm_le1 (fun y : List Int => y.length) (fun y : List Int => y.length) (fun y => Nat.le_add_left _ _) x

theorem cntRelation_le (x : Int × (List (List Int))) : sm (List.map (fun y : List Int => y.length) x.2) ≤ x.2.length + sm (List.map (fun y : List Int => y.length) x.2) := by
  exact cntIntSS_le x.2

theorem markRelation_s (u : Value) (x : Int × (List (List Int))) (k : Int) (hk : 0 ≤ k) (hx : k + ((x.2.length + sm (List.map (fun y : List Int => y.length) x.2) : Nat) : Int) ≤ 4611686018427387904) :
    Spec Try.prog 22 [vagg [vint x.1, vlit u], vint k] [hsl (tS tInt) u x.2] (fun r S' => ∃ (y : Int × (List (List Int))) (k' : Int), r = vint k' ∧ S' = [hsl (tS tInt) u y.2] ∧ k ≤ k' ∧ k' ≤ k + ((x.2.length + sm (List.map (fun y : List Int => y.length) x.2) : Nat) : Int)) := by
  have h1 := cntRelation_le x
  exact (markRelation_m u x k hk (by omega) (by omega)).mono fun r S' ⟨y, h2, h3, _⟩ => ⟨y, _, h2, h3, by omega, by omega⟩

theorem IntSS_cxle (x : List (List Int)) : tot (x.map List.length) ≤ x.length + sm (List.map (fun y : List Int => y.length) x) := by
  have h1 := cntIntSS_le x
  rw [tot_sm]
  exact h1
theorem markIntSS_x (u : Value) (x : List (List Int)) (k : Int) (hk : 0 ≤ k) (hx : k + ((x.length + sm (List.map (fun y : List Int => y.length) x) : Nat) : Int) ≤ 4611686018427387904) :
    Spec Try.prog 21 [vlit u, vint k] [hsl (tS tInt) u x] (fun r S' => r = vint (k + ((tot (x.map List.length) : Nat) : Int)) ∧ S' = [hsl (tS tInt) u (mkS k (x.map List.length))]) := by
  have h1 := IntSS_cxle x
  exact markIntSS_c u x k hk (by omega) (by omega)
theorem heldIntSS_x (x : List (List Int)) (k : Int) (hk : 0 ≤ k) (hx : k + ((x.length + sm (List.map (fun y : List Int => y.length) x) : Nat) : Int) ≤ 4611686018427387904) :
    Spec Try.prog 43 [vsl 1 (fun t : List Int => [vsl 1 (fun x : Int => [vint x]) t]) (mkS k (x.map List.length)), vint k] [] (fun r S' => r = vint (k + ((tot (x.map List.length) : Nat) : Int)) ∧ S' = []) := by
  have h1 := IntSS_cxle x
  exact heldIntSS_c _ k hk (by simp; omega) (by omega)

theorem Relation_cxle (x : List (List Int)) : tot (x.map List.length) ≤ x.length + sm (List.map (fun y : List Int => y.length) x) := IntSS_cxle x
set_option maxRecDepth 10000 in
theorem markRelation_x (u : Value) (a : Int) (x : List (List Int)) (k : Int) (hk : 0 ≤ k) (hx : k + ((x.length + sm (List.map (fun y : List Int => y.length) x) : Nat) : Int) ≤ 4611686018427387904) :
    Spec Try.prog 22 [vagg [vint a, vlit u], vint k] [hsl (tS tInt) u x] (fun r S' => r = vint (k + ((tot (x.map List.length) : Nat) : Int)) ∧ S' = [hsl (tS tInt) u (mkS k (x.map List.length))]) := by
  refine Spec.of_run2 (n := 10) Try.func22 rfl Try.results22 Try.ntmps22 rfl ?_
  repeat' (first | (with_reducible first | refine RL.done ?_ | refine RL.app0 ?_ | refine RL.app1 ?_ | refine RL.app2 ?_ | refine RL.app3 ?_ | refine RL.app4 ?_) | (with_reducible refine RL.wanted ?_ ?_; exact rfl) | ((with_reducible show RH _ _ _ ⟨some 2, .box _ _, _, _, _, _⟩ _ _ _ _); first | (refine RH.boxAgg rfl rfl ?_; rintro _ _ ⟨b2, rfl, rfl⟩) | (refine RH.boxOne rfl rfl ?_; rintro _ _ ⟨b2, rfl, rfl⟩)) | ((with_reducible show RH _ _ _ ⟨_, .call ⟨.value (.func 21), _, _⟩, _, _, _, _⟩ _ _ _ _); refine RH.cW Try.call21 ?_; refine ⟨_, _, _, (by repeat (first | exact Pick.nil | (apply Pick.cons; (with_reducible repeat (first | exact Rem.head | apply Rem.tail))))), markIntSS_x _ x _ hk hx, ?_⟩; rintro _ _ ⟨rfl, rfl⟩; refine RL.nm ?_) | ((with_reducible show RH _ _ _ _ _ _ _ _); first | refine RH.val (hK := ?_) | refine RH.upd (hK := ?_) | (refine RH.lr (h := ?_); intro u)) | (with_reducible first | refine Run.seq ?_ | refine Run.region ?_ | refine Run.block ?_ | refine Run.skip ?_ | refine Run.exit ?_ | refine Run.ret ?_) | (with_reducible show Run _ _ (.cond _ _ _) _ _ _; first | refine Run.condT rfl ?_ | refine Run.condF rfl ?_ | refine Run.condD rfl (fun h => ?_) (fun h => ?_) | refine Run.condND rfl (fun h => ?_) (fun h => ?_) | refine Run.condNB rfl (fun h => ?_) (fun h => ?_) | refine Run.cond rfl (fun h => ?_) (fun h => ?_)) | (with_reducible first | refine seqN (K := Run _ _ _ _) ?_ | refine seqE ?_ | refine seqR ?_ | refine blockN ?_ | refine blockR ?_ | refine blockE ?_) | (with_reducible refine blockX ?_ ?_; exact rfl))
  refine ⟨eA, _, [hsl (tS tInt) u (mkS k (x.map List.length))], resA, ?_, ?_⟩
  · exact SEnt.ch (.cons .head rfl .nil)
  · exact ⟨rfl, rfl⟩
set_option maxRecDepth 10000 in
theorem heldRelation_x (a : Int) (x : List (List Int)) (k : Int) (hk : 0 ≤ k) (hx : k + ((x.length + sm (List.map (fun y : List Int => y.length) x) : Nat) : Int) ≤ 4611686018427387904) :
    Spec Try.prog 23 [vagg [vint a, vsl 1 (fun t : List Int => [vsl 1 (fun x : Int => [vint x]) t]) (mkS k (x.map List.length))], vint k] [] (fun r S' => r = vint (k + ((tot (x.map List.length) : Nat) : Int)) ∧ S' = []) := by
  refine Spec.of_run2 (n := 12) Try.func23 rfl Try.results23 Try.ntmps23 rfl ?_
  repeat' (first | (with_reducible first | refine RL.done ?_ | refine RL.app0 ?_ | refine RL.app1 ?_ | refine RL.app2 ?_ | refine RL.app3 ?_ | refine RL.app4 ?_) | (with_reducible refine RL.wanted ?_ ?_; exact rfl) | ((with_reducible show RH _ _ _ ⟨some 2, .box _ _, _, _, _, _⟩ _ _ _ _); first | (refine RH.boxAgg rfl rfl ?_; rintro _ _ ⟨b2, rfl, rfl⟩) | (refine RH.boxOne rfl rfl ?_; rintro _ _ ⟨b2, rfl, rfl⟩)) | ((with_reducible show RH _ _ _ ⟨_, .call ⟨.value (.func 43), _, _⟩, _, _, _, _⟩ _ _ _ _); refine RH.cP Try.call43 ?_; refine ⟨_, heldIntSS_x x _ hk hx, ?_⟩; rintro _ _ ⟨rfl, rfl⟩) | ((with_reducible show RH _ _ _ _ _ _ _ _); first | refine RH.val (hK := ?_) | refine RH.upd (hK := ?_) | (refine RH.lr (h := ?_); intro u)) | (with_reducible first | refine Run.seq ?_ | refine Run.region ?_ | refine Run.block ?_ | refine Run.skip ?_ | refine Run.exit ?_ | refine Run.ret ?_) | (with_reducible show Run _ _ (.cond _ _ _) _ _ _; first | refine Run.condT rfl ?_ | refine Run.condF rfl ?_ | refine Run.condD rfl (fun h => ?_) (fun h => ?_) | refine Run.condND rfl (fun h => ?_) (fun h => ?_) | refine Run.condNB rfl (fun h => ?_) (fun h => ?_) | refine Run.cond rfl (fun h => ?_) (fun h => ?_)) | (with_reducible first | refine seqN (K := Run _ _ _ _) ?_ | refine seqE ?_ | refine seqR ?_ | refine blockN ?_ | refine blockR ?_ | refine blockE ?_) | (with_reducible refine blockX ?_ ?_; exact rfl))
  · omega
  · refine ⟨eA, _, [], resA, .ch .nil, ?_⟩
    exact ⟨rfl, rfl⟩

end Go.Proofs.Ytodlpdedldhebaa
