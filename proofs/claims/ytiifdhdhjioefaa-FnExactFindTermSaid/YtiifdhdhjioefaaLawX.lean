/- The laws' marks by the size of an argument, the exact marks of a result. Proved for this program; conditions: sizes below 2^62. -/
import Derived.Test.YtiifdhdhjioefaaLawS
import Derived.Test.YtiifdhdhjioefaaLawG
namespace Go.Proofs.Ytiifdhdhjioefaa
open Go Go.Proofs
set_option linter.unusedVariables false

theorem sm_le1 {α : Type} (f g : α → Nat) (h : ∀ y, f y ≤ 1 + g y) : ∀ x : List α, sm (x.map f) ≤ x.length + sm (x.map g)
  | [] => by simp [sm]
  | y :: x => by
    have h1 := h y
    have h2 := sm_le1 f g h x
    simp only [List.map_cons, sm, List.length_cons]; omega
theorem sm_le_mul {α : Type} (f : α → Nat) (xs : List α) (b : Nat) (h : ∀ t ∈ xs, f t ≤ b) : sm (xs.map f) ≤ xs.length * b := by
  induction xs with
  | nil => simp [sm]
  | cons t xs ih =>
    have h1 := h t (by simp)
    have h2 := ih (fun u hu => h u (by simp [hu]))
    simp only [List.map_cons, sm, List.length_cons, Nat.succ_mul]; omega
/-- how many numbers are marked in structs with rows of these lengths, and the structs of marks from k on -/
def totP : List Nat → Nat
  | [] => 0
  | n :: r => 1 + n + totP r
def mkP (k : Int) : List Nat → List (Int × List Int)
  | [] => []
  | n :: r => (k, mkI (k + 1) n) :: mkP (k + 1 + n) r
theorem totP_sm : ∀ l : List Nat, totP l = sm (l.map fun n => 1 + n)
  | [] => rfl
  | x :: l => by simp [sm, totP, totP_sm l]
theorem totP_append (xs ys : List Nat) : totP (xs ++ ys) = totP xs + totP ys := by
  induction xs with
  | nil => simp [totP]
  | cons x xs ih => simp [totP, ih]; omega
theorem mkP_append (k : Int) (xs ys : List Nat) : mkP k (xs ++ ys) = mkP k xs ++ mkP (k + totP xs) ys := by
  induction xs generalizing k with
  | nil => simp [mkP, totP]
  | cons x xs ih => simp only [List.cons_append, mkP, ih, totP]; congr 3; omega
theorem mkP_length (k : Int) (xs : List Nat) : (mkP k xs).length = xs.length := by
  induction xs generalizing k with
  | nil => rfl
  | cons x xs ih => simp [mkP, ih]
theorem totP_take_le (xs : List Nat) (j : Nat) : totP (xs.take j) ≤ totP xs := by
  have := totP_append (xs.take j) (xs.drop j)
  rw [List.take_append_drop] at this; omega
theorem totP_take_succ (xs : List Nat) (j : Nat) (h : j < xs.length) : totP (xs.take (j + 1)) = totP (xs.take j) + (1 + xs[j]) := by
  rw [List.take_add_one, List.getElem?_eq_getElem h, totP_append]; simp [totP]
theorem mkP_get (k : Int) (xs : List Nat) (j : Nat) (h : j < (mkP k xs).length) : (mkP k xs)[j] = (k + totP (xs.take j), mkI (k + totP (xs.take j) + 1) (xs[j]'(by rwa [mkP_length] at h))) := by
  induction xs generalizing k j with
  | nil => simp [mkP] at h
  | cons x xs ih =>
    cases j with
    | zero => simp [mkP, totP]
    | succ j =>
      simp only [mkP, List.getElem_cons_succ, List.take_succ_cons, totP]
      rw [ih]
      have e : k + 1 + (x : Int) + (totP (List.take j xs) : Int) = k + ((1 + x + totP (List.take j xs) : Nat) : Int) := by omega
      rw [e]
theorem mkP_set (k : Int) (x : List (Int × List Int)) (j : Nat) (h : j < x.length) :
    (mkP k ((x.map fun y => y.2.length).take j) ++ x.drop j).set j (k + (totP ((x.map fun y => y.2.length).take j) : Int), mkI (k + (totP ((x.map fun y => y.2.length).take j) : Int) + 1) x[j].2.length) = mkP k ((x.map fun y => y.2.length).take (j + 1)) ++ x.drop (j + 1) := by
  have hl : (mkP k ((x.map fun y => y.2.length).take j)).length = j := by simp [mkP_length]; omega
  rw [List.set_append_right _ _ (by omega), hl, Nat.sub_self, List.drop_eq_getElem_cons h, List.set_cons_zero, List.take_add_one, mkP_append]
  simp [mkP, h]

theorem cntRule_le (x : (List Int) × (List Int)) : x.1.length + x.2.length ≤ x.1.length + x.2.length := by
  omega

theorem cntRuleS_le (x : List ((List Int) × (List Int))) : sm (List.map (fun y : (List Int) × (List Int) => y.1.length + y.2.length) x) ≤ x.length + sm (List.map (fun y : (List Int) × (List Int) => y.1.length + y.2.length) x) := by
  exact sm_le1 (fun y : (List Int) × (List Int) => y.1.length + y.2.length) (fun y : (List Int) × (List Int) => y.1.length + y.2.length) (fun y => Nat.le_trans (cntRule_le y) (Nat.le_add_left _ _)) x

theorem cntCondition_le (x : Int × (List ((List Int) × (List Int)))) : sm (List.map (fun y : (List Int) × (List Int) => y.1.length + y.2.length) x.2) ≤ x.2.length + sm (List.map (fun y : (List Int) × (List Int) => y.1.length + y.2.length) x.2) := by
  exact cntRuleS_le x.2

theorem cntOp_le (x : Int × (List Int)) : x.2.length ≤ x.2.length := by
  exact Nat.le_refl _

theorem cntOpS_le (x : List (Int × (List Int))) : sm (List.map (fun y : Int × (List Int) => 1 + y.2.length) x) ≤ x.length + sm (List.map (fun y : Int × (List Int) => y.2.length) x) := by
  exact sm_le1 (fun y : Int × (List Int) => 1 + y.2.length) (fun y : Int × (List Int) => y.2.length) (fun y => Nat.add_le_add_left (cntOp_le y) 1) x

theorem cntAlgebra_le (x : Int × (List (Int × (List Int)))) : sm (List.map (fun y : Int × (List Int) => 1 + y.2.length) x.2) ≤ x.2.length + sm (List.map (fun y : Int × (List Int) => y.2.length) x.2) := by
  exact cntOpS_le x.2

theorem cntCloneStep_le (x : Int × (List Int)) : x.2.length ≤ x.2.length := by
  exact Nat.le_refl _

theorem cntCloneStepS_le (x : List (Int × (List Int))) : sm (List.map (fun y : Int × (List Int) => 1 + y.2.length) x) ≤ x.length + sm (List.map (fun y : Int × (List Int) => y.2.length) x) := by
  exact sm_le1 (fun y : Int × (List Int) => 1 + y.2.length) (fun y : Int × (List Int) => y.2.length) (fun y => Nat.add_le_add_left (cntCloneStep_le y) 1) x

theorem markCondition_s (u : Value) (x : Int × (List ((List Int) × (List Int)))) (k : Int) (hk : 0 ≤ k) (hx : k + ((x.2.length + sm (List.map (fun y : (List Int) × (List Int) => y.1.length + y.2.length) x.2) : Nat) : Int) ≤ 4611686018427387904) :
    Spec Try.prog 57 [vagg [vint x.1, vlit u], vint k] [hsl (tPair (tS tInt) (tS tInt)) u x.2] (fun r S' => ∃ (y : Int × (List ((List Int) × (List Int)))) (k' : Int), r = vint k' ∧ S' = [hsl (tPair (tS tInt) (tS tInt)) u y.2] ∧ k ≤ k' ∧ k' ≤ k + ((x.2.length + sm (List.map (fun y : (List Int) × (List Int) => y.1.length + y.2.length) x.2) : Nat) : Int)) := by
  have h1 := cntCondition_le x
  exact (markCondition_m u x k hk (by omega) (by omega)).mono fun r S' ⟨y, h2, h3, _⟩ => ⟨y, _, h2, h3, by omega, by omega⟩

theorem markAlgebra_s (u : Value) (x : Int × (List (Int × (List Int)))) (k : Int) (hk : 0 ≤ k) (hx : k + ((x.2.length + sm (List.map (fun y : Int × (List Int) => y.2.length) x.2) : Nat) : Int) ≤ 4611686018427387904) :
    Spec Try.prog 48 [vagg [vint x.1, vlit u], vint k] [hsl (tPair tInt (tS tInt)) u x.2] (fun r S' => ∃ (y : Int × (List (Int × (List Int)))) (k' : Int), r = vint k' ∧ S' = [hsl (tPair tInt (tS tInt)) u y.2] ∧ k ≤ k' ∧ k' ≤ k + ((x.2.length + sm (List.map (fun y : Int × (List Int) => y.2.length) x.2) : Nat) : Int)) := by
  have h1 := cntAlgebra_le x
  exact (markAlgebra_m u x k hk (by omega) (by omega)).mono fun r S' ⟨y, h2, h3, _⟩ => ⟨y, _, h2, h3, by omega, by omega⟩

theorem CloneStepS_cxle (x : List (Int × (List Int))) : totP (x.map fun y => y.2.length) ≤ x.length + sm (List.map (fun y : Int × (List Int) => y.2.length) x) := by
  have h1 := cntCloneStepS_le x
  have h2 : totP (x.map fun y => y.2.length) = sm (List.map (fun y : Int × (List Int) => 1 + y.2.length) x) := by rw [totP_sm, List.map_map]; rfl
  omega
set_option maxRecDepth 10000 in
theorem markCloneStepS_x (u : Value) (x : List (Int × (List Int))) (k : Int) (hk : 0 ≤ k) (hx : k + ((x.length + sm (List.map (fun y : Int × (List Int) => y.2.length) x) : Nat) : Int) ≤ 4611686018427387904) :
    Spec Try.prog 62 [vlit u, vint k] [hsl (tPair tInt (tS tInt)) u x] (fun r S' => r = vint (k + ((totP (x.map fun y => y.2.length) : Nat) : Int)) ∧ S' = [hsl (tPair tInt (tS tInt)) u (mkP k (x.map fun y => y.2.length))]) := by
  have hle := CloneStepS_cxle x
  refine Spec.of_run2 (n := 27) Try.func62 rfl Try.results62 Try.ntmps62 rfl ?_
  repeat' (first | (with_reducible refine RL.done ?_) | (with_reducible refine RL.wanted ?_ ?_; exact rfl) | ((with_reducible show RH _ _ _ _ _ _ _ _); refine RH.val (hK := ?_)) | (with_reducible first | refine Run.seq ?_ | refine Run.region ?_ | refine Run.block ?_) | (with_reducible refine seqN (K := Run _ _ _ _) ?_))
  refine Run.loop (α := Nat) (fun j => [(0, vlit u), (1, vint (k + (totP ((x.map fun y => y.2.length).take j) : Int))), (5, vint (j : Int))]) (fun j => [hsl (tPair tInt (tS tInt)) u (mkP k ((x.map fun y => y.2.length).take j) ++ x.drop j)]) (fun j => j ≤ x.length) (fun j => x.length - j) 0 (by simp) (Ent.of (by (repeat (first | exact Sl.nil | refine Sl.cons rfl rfl ?_ | refine Sl.cons rfl (congrArg (fun z => vlit (Value.int .i64 z)) (by omega)) ?_ | refine Sl.cons rfl (by simp [totP]) ?_))) (.cons .head (by simp [mkP]) .nil)) ?_
  intro j hj
  have hl : (mkP k ((x.map fun y => y.2.length).take j) ++ x.drop j).length = x.length := by simp [mkP_length]; omega
  have hb := totP_take_le (x.map fun y => y.2.length) (j + 1)
  rcases Nat.lt_or_eq_of_le hj with h9 | rfl
  · have he0 : (mkP k ((x.map fun y => y.2.length).take j) ++ x.drop j)[j]? = some x[j] := by
      rw [List.getElem?_append_right (by simp [mkP_length]; omega)]; simp [mkP_length, Nat.min_eq_left hj, h9]
    have hs := totP_take_succ (x.map fun y => y.2.length) j (by simpa using h9)
    rw [List.getElem_map] at hs
    generalize hys : mkP k ((x.map fun y => y.2.length).take j) ++ x.drop j = ys at *
    have he : (ys[j]'(by omega)) = x[j] := by
      rw [List.getElem?_eq_getElem (by omega)] at he0
      exact Option.some.inj he0
    repeat' (first | (with_reducible refine RL.done ?_) | (with_reducible refine RL.wanted ?_ ?_; exact rfl) | ((with_reducible show RH _ _ _ ⟨_, .load _ (.tmp 22), _, _, _, _⟩ _ _ _ _); with_reducible refine RH.focusPI (t := tInt) j _ .head (List.getElem?_set_self (by omega)) ?_; intro u1) | ((with_reducible show RH _ _ _ ⟨_, .call ⟨.value (.func 50), _, _⟩, _, _, _, _⟩ _ _ _ _); refine RH.cW Try.call50 ?_; refine ⟨_, _, _, (by repeat (first | exact Pick.nil | (apply Pick.cons; (with_reducible repeat (first | exact Rem.head | apply Rem.tail))))), markIntS_c _ _ _ (by omega) (by (try dsimp only); rw [he]; omega), ?_⟩; rintro _ _ ⟨rfl, rfl⟩; refine RL.nm ?_) | ((with_reducible show RH _ _ _ _ _ _ _ _); first | refine RH.val (hK := ?_) | refine RH.upd (hK := ?_)) | (with_reducible first | refine Run.seq ?_ | refine Run.region ?_ | refine Run.block ?_ | refine Run.skip ?_ | refine Run.exit ?_ | refine Run.ret ?_) | (with_reducible show Run _ _ (.cond _ _ _) _ _ _; refine Run.condD rfl (fun h => ?_) (fun h => ?_)) | (with_reducible first | refine seqN (K := Run _ _ _ _) ?_ | refine seqE ?_ | refine blockN ?_ | refine blockE ?_))
    · with_reducible refine seqN ?_
      refine ⟨j + 1, by omega, by omega, (SEnt.unfocusPI (by simp only [List.length_set]; omega)).ent.trans (Ent.of (by (try dsimp only); rw [he]; (repeat (first | exact Sl.nil | refine Sl.cons rfl rfl ?_ | refine Sl.cons rfl (congrArg (fun z => vlit (Value.int .i64 z)) (by omega)) ?_))) (.cons .head (congrArg (hsl (tPair tInt (tS tInt)) u) ?_) .nil))⟩
      (try dsimp only)
      rw [List.set_set, he, ← hys]
      exact mkP_set k x j h9
    · omega
  · repeat' (first | (with_reducible refine RL.done ?_) | (with_reducible refine RL.wanted ?_ ?_; exact rfl) | ((with_reducible show RH _ _ _ _ _ _ _ _); first | refine RH.val (hK := ?_) | refine RH.upd (hK := ?_)) | (with_reducible first | refine Run.seq ?_ | refine Run.region ?_ | refine Run.block ?_ | refine Run.skip ?_ | refine Run.exit ?_ | refine Run.ret ?_) | (with_reducible show Run _ _ (.cond _ _ _) _ _ _; refine Run.condD rfl (fun h => ?_) (fun h => ?_)) | (with_reducible first | refine seqN (K := Run _ _ _ _) ?_ | refine seqE ?_ | refine blockE ?_))
    · omega
    · refine ⟨eA, _, [hsl (tPair tInt (tS tInt)) u (mkP k (x.map fun y => y.2.length))], resA, ?_, ?_⟩
      · exact SEnt.ch (.cons .head (by rw [List.take_of_length_le (by simp)]; simp) .nil)
      · exact ⟨by rw [List.take_of_length_le (by simp)]; rfl, rfl⟩
set_option maxRecDepth 10000 in
theorem heldCloneStepS_x (x : List (Int × (List Int))) (k : Int) (hk : 0 ≤ k) (hx : k + ((x.length + sm (List.map (fun y : Int × (List Int) => y.2.length) x) : Nat) : Int) ≤ 4611686018427387904) :
    Spec Try.prog 63 [vsl 2 (fun y : Int × (List Int) => [vint y.1, vsl 1 (fun x : Int => [vint x]) y.2]) (mkP k (x.map fun y => y.2.length)), vint k] [] (fun r S' => r = vint (k + ((totP (x.map fun y => y.2.length) : Nat) : Int)) ∧ S' = []) := by
  have hle := CloneStepS_cxle x
  refine Spec.of_run2 (n := 31) Try.func63 rfl Try.results63 Try.ntmps63 rfl ?_
  repeat' (first | (with_reducible refine RL.done ?_) | (with_reducible refine RL.wanted ?_ ?_; exact rfl) | ((with_reducible show RH _ _ _ _ _ _ _ _); refine RH.val (hK := ?_)) | (with_reducible first | refine Run.seq ?_ | refine Run.region ?_ | refine Run.block ?_) | (with_reducible refine seqN (K := Run _ _ _ _) ?_))
  have hm := mkP_length k (x.map fun y => y.2.length)
  simp only [List.length_map] at hm
  refine Run.loop (α := Nat) (fun j => [(0, vsl 2 (fun y : Int × (List Int) => [vint y.1, vsl 1 (fun x : Int => [vint x]) y.2]) (mkP k (x.map fun y => y.2.length))), (1, vint (k + (totP ((x.map fun y => y.2.length).take j) : Int))), (5, vint (j : Int))]) (fun j => []) (fun j => j ≤ x.length) (fun j => x.length - j) 0 (by simp) (Ent.of (by (repeat (first | exact Sl.nil | refine Sl.cons rfl rfl ?_ | refine Sl.cons rfl (congrArg (fun z => vlit (Value.int .i64 z)) (by omega)) ?_ | refine Sl.cons rfl (by simp [totP]) ?_))) .refl) ?_
  intro j hj
  have hb := totP_take_le (x.map fun y => y.2.length) (j + 1)
  rcases Nat.lt_or_eq_of_le hj with h9 | rfl
  · have he := mkP_get k (x.map fun y => y.2.length) j (by omega)
    have hs := totP_take_succ (x.map fun y => y.2.length) j (by simpa using h9)
    rw [List.getElem_map] at hs
    have he1 : (mkP k (x.map fun y => y.2.length))[j].1 = k + (totP ((x.map fun y => y.2.length).take j) : Int) := by rw [he]
    repeat' (first | (with_reducible first | refine RL.done ?_ | refine RL.app0 ?_) | (with_reducible refine RL.wanted ?_ ?_; exact rfl) | ((with_reducible show RH _ _ _ ⟨_, .call ⟨.value (.func 51), _, _⟩, _, _, _, _⟩ _ _ _ _); refine RH.cP Try.call51 ?_; refine ⟨_, heldIntS_e _ (x[j]'h9).2.length _ (by rw [he]; simp) (by omega) (by omega), ?_⟩; rintro _ _ ⟨rfl, rfl⟩) | ((with_reducible show RH _ _ _ _ _ _ _ _); refine RH.val (hK := ?_)) | (with_reducible first | refine Run.seq ?_ | refine Run.region ?_ | refine Run.block ?_ | refine Run.skip ?_ | refine Run.exit ?_ | refine Run.ret ?_) | (with_reducible show Run _ _ (.cond _ _ _) _ _ _; refine Run.condD rfl (fun h => ?_) (fun h => ?_)) | (with_reducible first | refine seqN (K := Run _ _ _ _) ?_ | refine seqE ?_ | refine seqR ?_ | refine blockN ?_ | refine blockR ?_ | refine blockE ?_))
    all_goals first
      | (with_reducible refine seqN ?_
         exact ⟨j + 1, by omega, by omega, Ent.of slA .refl⟩)
      | (exfalso; omega)
      | omega
  · repeat' (first | (with_reducible refine RL.done ?_) | (with_reducible refine RL.wanted ?_ ?_; exact rfl) | ((with_reducible show RH _ _ _ _ _ _ _ _); refine RH.val (hK := ?_)) | (with_reducible first | refine Run.seq ?_ | refine Run.region ?_ | refine Run.block ?_ | refine Run.skip ?_ | refine Run.exit ?_ | refine Run.ret ?_) | (with_reducible show Run _ _ (.cond _ _ _) _ _ _; refine Run.condD rfl (fun h => ?_) (fun h => ?_)) | (with_reducible first | refine seqN (K := Run _ _ _ _) ?_ | refine seqE ?_ | refine seqR ?_ | refine blockR ?_ | refine blockE ?_))
    all_goals first
      | omega
      | (refine ⟨eA, _, [], resA, .ch .nil, ?_⟩
         exact ⟨by rw [List.take_of_length_le (by simp)]; rfl, rfl⟩)

end Go.Proofs.Ytiifdhdhjioefaa
