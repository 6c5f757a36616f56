/- The exact marks of a condition: laws.markRuleS, markCondition, heldRuleS, heldCondition. Proved for this program; conditions: sizes below 2^62. -/
import Derived.Test.YtemfpennomelaaaDoorLawG
namespace Go.Proofs.YtemfpennomelaaaDoor
open Go Go.Proofs
set_option linter.unusedVariables false
/-- how many numbers are marked in pairs of rows of these lengths, and the pairs of marks from k on -/
def totR : List (Nat × Nat) → Nat
  | [] => 0
  | n :: r => n.1 + n.2 + totR r
def mkR (k : Int) : List (Nat × Nat) → List (List Int × List Int)
  | [] => []
  | n :: r => (mkI k n.1, mkI (k + n.1) n.2) :: mkR (k + n.1 + n.2) r
theorem totR_append (xs ys : List (Nat × Nat)) : totR (xs ++ ys) = totR xs + totR ys := by
  induction xs with
  | nil => simp [totR]
  | cons x xs ih => simp [totR, ih]; omega
theorem mkR_append (k : Int) (xs ys : List (Nat × Nat)) : mkR k (xs ++ ys) = mkR k xs ++ mkR (k + totR xs) ys := by
  induction xs generalizing k with
  | nil => simp [mkR, totR]
  | cons x xs ih => simp only [List.cons_append, mkR, ih, totR]; congr 3; omega
theorem mkR_length (k : Int) (xs : List (Nat × Nat)) : (mkR k xs).length = xs.length := by
  induction xs generalizing k with
  | nil => rfl
  | cons x xs ih => simp [mkR, ih]
theorem totR_take_le (xs : List (Nat × Nat)) (j : Nat) : totR (xs.take j) ≤ totR xs := by
  have := totR_append (xs.take j) (xs.drop j)
  rw [List.take_append_drop] at this; omega
theorem totR_take_succ (xs : List (Nat × Nat)) (j : Nat) (h : j < xs.length) : totR (xs.take (j + 1)) = totR (xs.take j) + (xs[j].1 + xs[j].2) := by
  rw [List.take_add_one, List.getElem?_eq_getElem h, totR_append]; simp [totR]
theorem mkR_get (k : Int) (xs : List (Nat × Nat)) (j : Nat) (h : j < (mkR k xs).length) : (mkR k xs)[j] = (mkI (k + totR (xs.take j)) (xs[j]'(by rwa [mkR_length] at h)).1, mkI (k + totR (xs.take j) + (xs[j]'(by rwa [mkR_length] at h)).1) (xs[j]'(by rwa [mkR_length] at h)).2) := by
  induction xs generalizing k j with
  | nil => simp [mkR] at h
  | cons x xs ih =>
    cases j with
    | zero => simp [mkR, totR]
    | succ j =>
      simp only [mkR, List.getElem_cons_succ, List.take_succ_cons, totR]
      rw [ih]
      have e : k + (x.1 : Int) + (x.2 : Int) + (totR (List.take j xs) : Int) = k + ((x.1 + x.2 + totR (List.take j xs) : Nat) : Int) := by omega
      rw [e]
abbrev shR (x : List (List Int × List Int)) : List (Nat × Nat) := x.map fun y => (y.1.length, y.2.length)
theorem mkR_set (k : Int) (x : List (List Int × List Int)) (j : Nat) (h : j < x.length) :
    (mkR k ((shR x).take j) ++ x.drop j).set j (mkI (k + (totR ((shR x).take j) : Int)) x[j].1.length, mkI (k + (totR ((shR x).take j) : Int) + x[j].1.length) x[j].2.length) = mkR k ((shR x).take (j + 1)) ++ x.drop (j + 1) := by
  have hl : (mkR k ((shR x).take j)).length = j := by simp [mkR_length]; omega
  rw [List.set_append_right _ _ (by omega), hl, Nat.sub_self, List.drop_eq_getElem_cons h, List.set_cons_zero, List.take_add_one, mkR_append]
  simp [mkR, h]
set_option maxRecDepth 10000 in
theorem markRuleS_x (u : Value) (x : List (List Int × List Int)) (k : Int) (hk : 0 ≤ k) (hx : k + (totR (shR x) : Int) ≤ 4611686018427387904) (hxl : x.length ≤ 4611686018427387904) :
    Spec Tryd.prog 20 [vlit u, vint k] [hsl (tPair (tS tInt) (tS tInt)) u x] (fun r S' => r = vint (k + (totR (shR x) : Int)) ∧ S' = [hsl (tPair (tS tInt) (tS tInt)) u (mkR k (shR x))]) := by
  refine Spec.of_run2 (n := 27) Tryd.func20 rfl Tryd.results20 Tryd.ntmps20 rfl ?_
  repeat' (first | (with_reducible first | refine RL.done ?_ | refine RL.app0 ?_ | refine RL.app1 ?_ | refine RL.app2 ?_ | refine RL.app3 ?_ | refine RL.app4 ?_) | (with_reducible refine RL.wanted ?_ ?_; exact rfl) | ((with_reducible show RH _ _ _ _ _ _ _ _); first | refine RH.val (hK := ?_) | refine RH.upd (hK := ?_) | (refine RH.lr (h := ?_); intro u)) | (with_reducible first | refine Run.seq ?_ | refine Run.region ?_ | refine Run.block ?_ | refine Run.skip ?_ | refine Run.exit ?_ | refine Run.ret ?_) | (with_reducible show Run _ _ (.cond _ _ _) _ _ _; first | refine Run.condT rfl ?_ | refine Run.condF rfl ?_ | refine Run.condD rfl (fun h => ?_) (fun h => ?_) | refine Run.condND rfl (fun h => ?_) (fun h => ?_) | refine Run.condNB rfl (fun h => ?_) (fun h => ?_) | refine Run.cond rfl (fun h => ?_) (fun h => ?_)) | (with_reducible first | refine seqN (K := Run _ _ _ _) ?_ | refine seqE ?_ | refine seqR ?_ | refine blockN ?_ | refine blockR ?_ | refine blockE ?_) | (with_reducible refine blockX ?_ ?_; exact rfl))
  refine Run.loop (α := Nat) (fun j => [(0, vlit u), (1, vint (k + (totR ((shR x).take j) : Int))), (5, vint (j : Int))]) (fun j => [hsl (tPair (tS tInt) (tS tInt)) u (mkR k ((shR x).take j) ++ x.drop j)]) (fun j => j ≤ x.length) (fun j => x.length - j) 0 (by simp) (Ent.of (by (repeat (first | exact Sl.nil | refine Sl.cons rfl rfl ?_ | refine Sl.cons rfl (congrArg (fun z => vlit (Value.int .i64 z)) (by omega)) ?_ | refine Sl.cons rfl (by simp [totR]) ?_))) (.cons .head (by simp [mkR]) .nil)) ?_
  intro j hj
  have hl : (mkR k ((shR x).take j) ++ x.drop j).length = x.length := by simp [mkR_length]; omega
  have hb := totR_take_le (shR x) (j + 1)
  rcases Nat.lt_or_eq_of_le hj with h9 | rfl
  · have he0 : (mkR k ((shR x).take j) ++ x.drop j)[j]? = some x[j] := by
      rw [List.getElem?_append_right (by simp [mkR_length]; omega)]; simp [mkR_length, Nat.min_eq_left hj, h9]
    have hs := totR_take_succ (shR x) j (by simpa using h9)
    rw [List.getElem_map] at hs
    have hset := mkR_set k x j h9
    generalize hys : mkR k ((shR x).take j) ++ x.drop j = ys at *
    have he : (ys[j]'(by omega)) = x[j] := by
      rw [List.getElem?_eq_getElem (by omega)] at he0
      exact Option.some.inj he0
    have he1 : (ys[j]'(by omega)).1.length = x[j].1.length := by rw [he]
    have he2 : (ys[j]'(by omega)).2.length = x[j].2.length := by rw [he]
    repeat' (first | (with_reducible first | refine RL.done ?_ | refine RL.app0 ?_ | refine RL.app1 ?_ | refine RL.app2 ?_ | refine RL.app3 ?_ | refine RL.app4 ?_) | (with_reducible refine RL.wanted ?_ ?_; exact rfl) | ((with_reducible show RH _ _ _ ⟨_, .load _ (.tmp 15), _, _, _, _⟩ _ _ _ _); with_reducible refine RH.focusPP j (ys[j]'(by omega)) .head (List.getElem?_eq_getElem (by omega)) ?_; intro u1 u2) | ((with_reducible show RH _ _ _ ⟨_, .call ⟨.value (.func 34), _, _⟩, _, _, _, _⟩ _ _ _ _); refine RH.cW Tryd.call34 ?_; refine ⟨_, _, _, (by repeat (first | exact Pick.nil | (apply Pick.cons; (with_reducible repeat (first | exact Rem.head | apply Rem.tail))))), markIntS_c u1 _ _ (by omega) (by omega), ?_⟩; rintro _ _ ⟨rfl, rfl⟩; refine RL.nm ?_) | ((with_reducible show RH _ _ _ ⟨_, .call ⟨.value (.func 34), _, _⟩, _, _, _, _⟩ _ _ _ _); refine RH.cW Tryd.call34 ?_; refine ⟨_, _, _, (by repeat (first | exact Pick.nil | (apply Pick.cons; (with_reducible repeat (first | exact Rem.head | apply Rem.tail))))), markIntS_c u2 _ _ (by omega) (by omega), ?_⟩; rintro _ _ ⟨rfl, rfl⟩; refine RL.nm ?_) | ((with_reducible show RH _ _ _ _ _ _ _ _); first | refine RH.val (hK := ?_) | refine RH.upd (hK := ?_) | (refine RH.lr (h := ?_); intro u)) | (with_reducible first | refine Run.seq ?_ | refine Run.region ?_ | refine Run.block ?_ | refine Run.skip ?_ | refine Run.exit ?_ | refine Run.ret ?_) | (with_reducible show Run _ _ (.cond _ _ _) _ _ _; first | refine Run.condT rfl ?_ | refine Run.condF rfl ?_ | refine Run.condD rfl (fun h => ?_) (fun h => ?_) | refine Run.condND rfl (fun h => ?_) (fun h => ?_) | refine Run.condNB rfl (fun h => ?_) (fun h => ?_) | refine Run.cond rfl (fun h => ?_) (fun h => ?_)) | (with_reducible first | refine seqN (K := Run _ _ _ _) ?_ | refine seqE ?_ | refine seqR ?_ | refine blockN ?_ | refine blockR ?_ | refine blockE ?_) | (with_reducible refine blockX ?_ ?_; exact rfl))
    · with_reducible refine seqN ?_
      refine ⟨j + 1, by omega, by omega, ((SEnt.ch (.cons (.tail .head) rfl (.cons .head rfl .refl))).trans (SEnt.unfocusPP (by first | omega | (simp only [List.length_set]; omega)))).ent.trans (Ent.of (by (try dsimp only); (repeat (first | exact Sl.nil | refine Sl.cons rfl rfl ?_ | refine Sl.cons rfl (congrArg (fun z => vlit (Value.int .i64 z)) (by omega)) ?_))) (.cons .head ?_ .nil))⟩
      (try dsimp only)
      rw [he, hset]
    · omega
  · repeat' (first | (with_reducible first | refine RL.done ?_ | refine RL.app0 ?_ | refine RL.app1 ?_ | refine RL.app2 ?_ | refine RL.app3 ?_ | refine RL.app4 ?_) | (with_reducible refine RL.wanted ?_ ?_; exact rfl) | ((with_reducible show RH _ _ _ _ _ _ _ _); first | refine RH.val (hK := ?_) | refine RH.upd (hK := ?_) | (refine RH.lr (h := ?_); intro u)) | (with_reducible first | refine Run.seq ?_ | refine Run.region ?_ | refine Run.block ?_ | refine Run.skip ?_ | refine Run.exit ?_ | refine Run.ret ?_) | (with_reducible show Run _ _ (.cond _ _ _) _ _ _; first | refine Run.condT rfl ?_ | refine Run.condF rfl ?_ | refine Run.condD rfl (fun h => ?_) (fun h => ?_) | refine Run.condND rfl (fun h => ?_) (fun h => ?_) | refine Run.condNB rfl (fun h => ?_) (fun h => ?_) | refine Run.cond rfl (fun h => ?_) (fun h => ?_)) | (with_reducible first | refine seqN (K := Run _ _ _ _) ?_ | refine seqE ?_ | refine seqR ?_ | refine blockN ?_ | refine blockR ?_ | refine blockE ?_) | (with_reducible refine blockX ?_ ?_; exact rfl))
    · omega
    · refine ⟨eA, _, [hsl (tPair (tS tInt) (tS tInt)) u (mkR k (shR x))], resA, ?_, ?_⟩
      · exact SEnt.ch (.cons .head (by rw [List.take_of_length_le (by simp)]; simp) .nil)
      · exact ⟨by rw [List.take_of_length_le (by simp)]; rfl, rfl⟩
set_option maxRecDepth 10000 in
theorem heldRuleS_x (x : List (List Int × List Int)) (k : Int) (hk : 0 ≤ k) (hx : k + (totR (shR x) : Int) ≤ 4611686018427387904) (hxl : x.length ≤ 4611686018427387904) :
    Spec Tryd.prog 21 [vsl 2 (fun y : (List Int) × (List Int) => [vsl 1 (fun x : Int => [vint x]) y.1, vsl 1 (fun x : Int => [vint x]) y.2]) ((mkR k (shR x))), vint k] [] (fun r S' => r = vint (k + (totR (shR x) : Int)) ∧ S' = []) := by
  have hm := mkR_length k (shR x)
  simp only [List.length_map] at hm
  refine Spec.of_run2 (n := 31) Tryd.func21 rfl Tryd.results21 Tryd.ntmps21 rfl ?_
  repeat' (first | (with_reducible first | refine RL.done ?_ | refine RL.app0 ?_ | refine RL.app1 ?_ | refine RL.app2 ?_ | refine RL.app3 ?_ | refine RL.app4 ?_) | (with_reducible refine RL.wanted ?_ ?_; exact rfl) | ((with_reducible show RH _ _ _ _ _ _ _ _); first | refine RH.val (hK := ?_) | refine RH.upd (hK := ?_) | (refine RH.lr (h := ?_); intro u)) | (with_reducible first | refine Run.seq ?_ | refine Run.region ?_ | refine Run.block ?_ | refine Run.skip ?_ | refine Run.exit ?_ | refine Run.ret ?_) | (with_reducible show Run _ _ (.cond _ _ _) _ _ _; first | refine Run.condT rfl ?_ | refine Run.condF rfl ?_ | refine Run.condD rfl (fun h => ?_) (fun h => ?_) | refine Run.condND rfl (fun h => ?_) (fun h => ?_) | refine Run.condNB rfl (fun h => ?_) (fun h => ?_) | refine Run.cond rfl (fun h => ?_) (fun h => ?_)) | (with_reducible first | refine seqN (K := Run _ _ _ _) ?_ | refine seqE ?_ | refine seqR ?_ | refine blockN ?_ | refine blockR ?_ | refine blockE ?_) | (with_reducible refine blockX ?_ ?_; exact rfl))
  refine Run.loop (α := Nat) (fun j => [(0, vsl 2 (fun y : (List Int) × (List Int) => [vsl 1 (fun x : Int => [vint x]) y.1, vsl 1 (fun x : Int => [vint x]) y.2]) ((mkR k (shR x)))), (1, vint (k + (totR ((shR x).take j) : Int))), (5, vint (j : Int))]) (fun j => []) (fun j => j ≤ x.length) (fun j => x.length - j) 0 (by simp) (Ent.of (by (repeat (first | exact Sl.nil | refine Sl.cons rfl rfl ?_ | refine Sl.cons rfl (congrArg (fun z => vlit (Value.int .i64 z)) (by omega)) ?_ | refine Sl.cons rfl (by simp [totR]) ?_))) .refl) ?_
  intro j hj
  have hb := totR_take_le (shR x) (j + 1)
  rcases Nat.lt_or_eq_of_le hj with h9 | rfl
  · have he := mkR_get k (shR x) j (by omega)
    have hs := totR_take_succ (shR x) j (by simpa using h9)
    rw [List.getElem_map] at hs
    have he1 : ((mkR k (shR x))[j]'(by omega)).1 = mkI (k + (totR ((shR x).take j) : Int)) x[j].1.length := by rw [he]; simp
    have he2 : ((mkR k (shR x))[j]'(by omega)).2 = mkI (k + (totR ((shR x).take j) : Int) + x[j].1.length) x[j].2.length := by rw [he]; simp
    repeat' (first | (with_reducible first | refine RL.done ?_ | refine RL.app0 ?_ | refine RL.app1 ?_ | refine RL.app2 ?_ | refine RL.app3 ?_ | refine RL.app4 ?_) | (with_reducible refine RL.wanted ?_ ?_; exact rfl) | ((with_reducible show RH _ _ _ ⟨_, .call ⟨.value (.func 35), _, _⟩, _, _, _, _⟩ _ _ _ _); refine RH.cP Tryd.call35 ?_; refine ⟨_, heldIntS_e _ x[j].1.length _ he1 (by omega) (by omega), ?_⟩; rintro _ _ ⟨rfl, rfl⟩) | ((with_reducible show RH _ _ _ ⟨_, .call ⟨.value (.func 35), _, _⟩, _, _, _, _⟩ _ _ _ _); refine RH.cP Tryd.call35 ?_; refine ⟨_, heldIntS_e _ x[j].2.length _ he2 (by omega) (by omega), ?_⟩; rintro _ _ ⟨rfl, rfl⟩) | ((with_reducible show RH _ _ _ _ _ _ _ _); first | refine RH.val (hK := ?_) | refine RH.upd (hK := ?_) | (refine RH.lr (h := ?_); intro u)) | (with_reducible first | refine Run.seq ?_ | refine Run.region ?_ | refine Run.block ?_ | refine Run.skip ?_ | refine Run.exit ?_ | refine Run.ret ?_) | (with_reducible show Run _ _ (.cond _ _ _) _ _ _; first | refine Run.condT rfl ?_ | refine Run.condF rfl ?_ | refine Run.condD rfl (fun h => ?_) (fun h => ?_) | refine Run.condND rfl (fun h => ?_) (fun h => ?_) | refine Run.condNB rfl (fun h => ?_) (fun h => ?_) | refine Run.cond rfl (fun h => ?_) (fun h => ?_)) | (with_reducible first | refine seqN (K := Run _ _ _ _) ?_ | refine seqE ?_ | refine seqR ?_ | refine blockN ?_ | refine blockR ?_ | refine blockE ?_) | (with_reducible refine blockX ?_ ?_; exact rfl))
    all_goals first
      | (with_reducible refine seqN ?_
         exact ⟨j + 1, by omega, by omega, Ent.of slA .refl⟩)
      | (exfalso; omega)
      | omega
  · repeat' (first | (with_reducible first | refine RL.done ?_ | refine RL.app0 ?_ | refine RL.app1 ?_ | refine RL.app2 ?_ | refine RL.app3 ?_ | refine RL.app4 ?_) | (with_reducible refine RL.wanted ?_ ?_; exact rfl) | ((with_reducible show RH _ _ _ _ _ _ _ _); first | refine RH.val (hK := ?_) | refine RH.upd (hK := ?_) | (refine RH.lr (h := ?_); intro u)) | (with_reducible first | refine Run.seq ?_ | refine Run.region ?_ | refine Run.block ?_ | refine Run.skip ?_ | refine Run.exit ?_ | refine Run.ret ?_) | (with_reducible show Run _ _ (.cond _ _ _) _ _ _; first | refine Run.condT rfl ?_ | refine Run.condF rfl ?_ | refine Run.condD rfl (fun h => ?_) (fun h => ?_) | refine Run.condND rfl (fun h => ?_) (fun h => ?_) | refine Run.condNB rfl (fun h => ?_) (fun h => ?_) | refine Run.cond rfl (fun h => ?_) (fun h => ?_)) | (with_reducible first | refine seqN (K := Run _ _ _ _) ?_ | refine seqE ?_ | refine seqR ?_ | refine blockN ?_ | refine blockR ?_ | refine blockE ?_) | (with_reducible refine blockX ?_ ?_; exact rfl))
    all_goals first
      | omega
      | (refine ⟨eA, _, [], resA, .ch .nil, ?_⟩
         exact ⟨by rw [List.take_of_length_le (by simp)]; rfl, rfl⟩)
set_option maxRecDepth 10000 in
theorem markCondition_x (u : Value) (a : Int) (x : List (List Int × List Int)) (k : Int) (hk : 0 ≤ k) (hx : k + (totR (shR x) : Int) ≤ 4611686018427387904) (hxl : x.length ≤ 4611686018427387904) :
    Spec Tryd.prog 8 [vagg [vint a, vlit u], vint k] [hsl (tPair (tS tInt) (tS tInt)) u x] (fun r S' => r = vint (k + (totR (shR x) : Int)) ∧ S' = [hsl (tPair (tS tInt) (tS tInt)) u (mkR k (shR x))]) := by
  refine Spec.of_run2 (n := 10) Tryd.func8 rfl Tryd.results8 Tryd.ntmps8 rfl ?_
  repeat' (first | (with_reducible first | refine RL.done ?_ | refine RL.app0 ?_ | refine RL.app1 ?_ | refine RL.app2 ?_ | refine RL.app3 ?_ | refine RL.app4 ?_) | (with_reducible refine RL.wanted ?_ ?_; exact rfl) | ((with_reducible show RH _ _ _ ⟨some 2, .box _ _, _, _, _, _⟩ _ _ _ _); first | (refine RH.boxAgg rfl rfl ?_; rintro _ _ ⟨b2, rfl, rfl⟩) | (refine RH.boxOne rfl rfl ?_; rintro _ _ ⟨b2, rfl, rfl⟩)) | ((with_reducible show RH _ _ _ ⟨_, .call ⟨.value (.func 20), _, _⟩, _, _, _, _⟩ _ _ _ _); refine RH.cW Tryd.call20 ?_; refine ⟨_, _, _, (by repeat (first | exact Pick.nil | (apply Pick.cons; (with_reducible repeat (first | exact Rem.head | apply Rem.tail))))), markRuleS_x u x _ hk hx hxl, ?_⟩; rintro _ _ ⟨rfl, rfl⟩; refine RL.nm ?_) | ((with_reducible show RH _ _ _ _ _ _ _ _); first | refine RH.val (hK := ?_) | refine RH.upd (hK := ?_) | (refine RH.lr (h := ?_); intro u)) | (with_reducible first | refine Run.seq ?_ | refine Run.region ?_ | refine Run.block ?_ | refine Run.skip ?_ | refine Run.exit ?_ | refine Run.ret ?_) | (with_reducible show Run _ _ (.cond _ _ _) _ _ _; first | refine Run.condT rfl ?_ | refine Run.condF rfl ?_ | refine Run.condD rfl (fun h => ?_) (fun h => ?_) | refine Run.condND rfl (fun h => ?_) (fun h => ?_) | refine Run.condNB rfl (fun h => ?_) (fun h => ?_) | refine Run.cond rfl (fun h => ?_) (fun h => ?_)) | (with_reducible first | refine seqN (K := Run _ _ _ _) ?_ | refine seqE ?_ | refine seqR ?_ | refine blockN ?_ | refine blockR ?_ | refine blockE ?_) | (with_reducible refine blockX ?_ ?_; exact rfl))
  refine ⟨eA, _, [hsl (tPair (tS tInt) (tS tInt)) u (mkR k (shR x))], resA, ?_, ?_⟩
  · exact SEnt.ch (.cons .head rfl .nil)
  · exact ⟨rfl, rfl⟩
set_option maxRecDepth 10000 in
theorem heldCondition_x (a : Int) (x : List (List Int × List Int)) (k : Int) (hk : 0 ≤ k) (hx : k + (totR (shR x) : Int) ≤ 4611686018427387904) (hxl : x.length ≤ 4611686018427387904) :
    Spec Tryd.prog 9 [vagg [vint a, vsl 2 (fun y : (List Int) × (List Int) => [vsl 1 (fun x : Int => [vint x]) y.1, vsl 1 (fun x : Int => [vint x]) y.2]) ((mkR k (shR x)))], vint k] [] (fun r S' => r = vint (k + (totR (shR x) : Int)) ∧ S' = []) := by
  refine Spec.of_run2 (n := 12) Tryd.func9 rfl Tryd.results9 Tryd.ntmps9 rfl ?_
  repeat' (first | (with_reducible first | refine RL.done ?_ | refine RL.app0 ?_ | refine RL.app1 ?_ | refine RL.app2 ?_ | refine RL.app3 ?_ | refine RL.app4 ?_) | (with_reducible refine RL.wanted ?_ ?_; exact rfl) | ((with_reducible show RH _ _ _ ⟨some 2, .box _ _, _, _, _, _⟩ _ _ _ _); first | (refine RH.boxAgg rfl rfl ?_; rintro _ _ ⟨b2, rfl, rfl⟩) | (refine RH.boxOne rfl rfl ?_; rintro _ _ ⟨b2, rfl, rfl⟩)) | ((with_reducible show RH _ _ _ ⟨_, .call ⟨.value (.func 21), _, _⟩, _, _, _, _⟩ _ _ _ _); refine RH.cP Tryd.call21 ?_; refine ⟨_, heldRuleS_x x _ hk hx hxl, ?_⟩; rintro _ _ ⟨rfl, rfl⟩) | ((with_reducible show RH _ _ _ _ _ _ _ _); first | refine RH.val (hK := ?_) | refine RH.upd (hK := ?_) | (refine RH.lr (h := ?_); intro u)) | (with_reducible first | refine Run.seq ?_ | refine Run.region ?_ | refine Run.block ?_ | refine Run.skip ?_ | refine Run.exit ?_ | refine Run.ret ?_) | (with_reducible show Run _ _ (.cond _ _ _) _ _ _; first | refine Run.condT rfl ?_ | refine Run.condF rfl ?_ | refine Run.condD rfl (fun h => ?_) (fun h => ?_) | refine Run.condND rfl (fun h => ?_) (fun h => ?_) | refine Run.condNB rfl (fun h => ?_) (fun h => ?_) | refine Run.cond rfl (fun h => ?_) (fun h => ?_)) | (with_reducible first | refine seqN (K := Run _ _ _ _) ?_ | refine seqE ?_ | refine seqR ?_ | refine blockN ?_ | refine blockR ?_ | refine blockE ?_) | (with_reducible refine blockX ?_ ?_; exact rfl))
  · omega
  · refine ⟨eA, _, [], resA, .ch .nil, ?_⟩
    exact ⟨rfl, rfl⟩
end Go.Proofs.YtemfpennomelaaaDoor
