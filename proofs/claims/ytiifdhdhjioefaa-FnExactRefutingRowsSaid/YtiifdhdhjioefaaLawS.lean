/- The laws' helpers on lists of lists and on relations: eq, mark, held. Proved for this program; conditions: lengths and marks below 2^62. -/
import Derived.Test.YtiifdhdhjioefaaLawI
namespace Go.Proofs.Ytiifdhdhjioefaa
open Go Go.Proofs

/-- how many are in the rows of these lengths, and the rows of marks from k on -/
def tot : List Nat → Nat
  | [] => 0
  | n :: r => n + tot r
def mkS (k : Int) : List Nat → List (List Int)
  | [] => []
  | n :: r => mkI k n :: mkS (k + n) r
theorem tot_append (xs ys : List Nat) : tot (xs ++ ys) = tot xs + tot ys := by
  induction xs with
  | nil => simp [tot]
  | cons x xs ih => simp [tot, ih]; omega
theorem mkS_append (k : Int) (xs ys : List Nat) : mkS k (xs ++ ys) = mkS k xs ++ mkS (k + tot xs) ys := by
  induction xs generalizing k with
  | nil => simp [mkS, tot]
  | cons x xs ih => simp only [List.cons_append, mkS, ih, tot]; congr 3; omega
theorem mkS_length (k : Int) (xs : List Nat) : (mkS k xs).length = xs.length := by
  induction xs generalizing k with
  | nil => rfl
  | cons x xs ih => simp [mkS, ih]
theorem tot_take_le (xs : List Nat) (j : Nat) : tot (xs.take j) ≤ tot xs := by
  have := tot_append (xs.take j) (xs.drop j)
  rw [List.take_append_drop] at this; omega
theorem tot_take_succ (xs : List Nat) (j : Nat) (h : j < xs.length) : tot (xs.take (j + 1)) = tot (xs.take j) + xs[j] := by
  rw [List.take_add_one, List.getElem?_eq_getElem h, tot_append]; simp [tot]
theorem mkS_get (k : Int) (xs : List Nat) (j : Nat) (h : j < (mkS k xs).length) : (mkS k xs)[j] = mkI (k + tot (xs.take j)) (xs[j]'(by rwa [mkS_length] at h)) := by
  induction xs generalizing k j with
  | nil => simp [mkS] at h
  | cons x xs ih =>
    cases j with
    | zero => simp [mkS, tot]
    | succ j =>
      simp only [mkS, List.getElem_cons_succ, List.take_succ_cons, tot]
      rw [ih]; congr 1; omega

theorem mkS_set (k : Int) (xs : List (List Int)) (j : Nat) (h : j < xs.length) :
    (mkS k ((xs.map List.length).take j) ++ xs.drop j).set j (mkI (k + tot ((xs.map List.length).take j)) xs[j].length) = mkS k ((xs.map List.length).take (j + 1)) ++ xs.drop (j + 1) := by
  have hl : (mkS k ((xs.map List.length).take j)).length = j := by simp [mkS_length]; omega
  rw [List.set_append_right _ _ (by omega), hl, Nat.sub_self, List.drop_eq_getElem_cons h, List.set_cons_zero, List.take_add_one, mkS_append]
  simp [mkS, h]

set_option maxRecDepth 10000 in
theorem markIntSS_c (v : Value) (xs : List (List Int)) (k : Int) (hk : 0 ≤ k) (hl : xs.length ≤ 4611686018427387904) (hx : k + tot (xs.map List.length) ≤ 4611686018427387904) :
    Spec Try.prog 49 [vlit v, vint k] [hsl (tS tInt) v xs] (fun r S' => r = vint (k + tot (xs.map List.length)) ∧ S' = [hsl (tS tInt) v (mkS k (xs.map List.length))]) := by
  refine Spec.of_run2 (n := 19) Try.func49 rfl Try.results49 Try.ntmps49 rfl ?_
  repeat' (first | (with_reducible refine RL.done ?_) | (with_reducible refine RL.wanted ?_ ?_; exact rfl) | ((with_reducible show RH _ _ _ _ _ _ _ _); refine RH.val (hK := ?_)) | (with_reducible first | refine Run.seq ?_ | refine Run.region ?_ | refine Run.block ?_) | (with_reducible refine seqN (K := Run _ _ _ _) ?_))
  refine Run.loop (α := Nat) (fun j => [(0, vlit v), (1, vint (k + tot ((xs.map List.length).take j))), (5, vint (j : Int))]) (fun j => [hsl (tS tInt) v (mkS k ((xs.map List.length).take j) ++ xs.drop j)]) (fun j => j ≤ xs.length) (fun j => xs.length - j) 0 (by simp) (Ent.of (by (repeat (first | exact Sl.nil | refine Sl.cons rfl rfl ?_ | refine Sl.cons rfl (congrArg (fun z => vlit (Value.int .i64 z)) (by omega)) ?_ | refine Sl.cons rfl (by simp [tot]) ?_))) (.cons .head (by simp [mkS]) .nil)) ?_
  intro j hj
  have hl : (mkS k ((xs.map List.length).take j) ++ xs.drop j).length = xs.length := by simp [mkS_length]; omega
  have hb := tot_take_le (xs.map List.length) (j + 1)
  rcases Nat.lt_or_eq_of_le hj with h9 | rfl
  · have he : (mkS k ((xs.map List.length).take j) ++ xs.drop j)[j]? = some xs[j] := by
      rw [List.getElem?_append_right (by simp [mkS_length]; omega)]; simp [mkS_length, Nat.min_eq_left hj, h9]
    have hs := tot_take_succ (xs.map List.length) j (by simpa using h9)
    rw [List.getElem_map] at hs
    repeat' (first | (with_reducible refine RL.done ?_) | (with_reducible refine RL.wanted ?_ ?_; exact rfl) | ((with_reducible show RH _ _ _ ⟨_, .call ⟨.value (.func 50), _, _⟩, _, _, _, _⟩ _ _ _ _); refine RH.cW Try.call50 ?_; refine ⟨_, _, _, (by repeat (first | exact Pick.nil | (apply Pick.cons; (with_reducible repeat (first | exact Rem.head | apply Rem.tail))))), markIntS_c _ _ _ (by omega) (by omega), ?_⟩; rintro _ _ ⟨rfl, rfl⟩; refine RL.nm ?_) | ((with_reducible show RH _ _ _ ⟨_, .load _ (.tmp 14), _, _, _, _⟩ _ _ _ _); with_reducible refine RH.focusRow (t := tInt) j (xs[j]'(by omega)) .head he ?_; intro u) | ((with_reducible show RH _ _ _ _ _ _ _ _); refine RH.val (hK := ?_)) | (with_reducible first | refine Run.seq ?_ | refine Run.region ?_ | refine Run.block ?_ | refine Run.skip ?_ | refine Run.exit ?_ | refine Run.ret ?_) | (with_reducible show Run _ _ (.cond _ _ _) _ _ _; refine Run.condD rfl (fun h => ?_) (fun h => ?_)) | (with_reducible first | refine seqN (K := Run _ _ _ _) ?_ | refine seqE ?_ | refine blockN ?_ | refine blockE ?_))
    · with_reducible refine seqN ?_
      refine ⟨j + 1, by omega, by omega, (SEnt.unfocusRow (by omega)).ent.trans (Ent.of slA (.cons .head (congrArg (hsl (tS tInt) v) ?_) .nil))⟩
      exact mkS_set k xs j h9
    · omega
  · repeat' (first | (with_reducible refine RL.done ?_) | (with_reducible refine RL.wanted ?_ ?_; exact rfl) | ((with_reducible show RH _ _ _ _ _ _ _ _); first | refine RH.val (hK := ?_) | (refine RH.lr (h := ?_); intro u)) | (with_reducible first | refine Run.seq ?_ | refine Run.region ?_ | refine Run.block ?_ | refine Run.skip ?_ | refine Run.exit ?_ | refine Run.ret ?_) | (with_reducible show Run _ _ (.cond _ _ _) _ _ _; refine Run.condD rfl (fun h => ?_) (fun h => ?_)) | (with_reducible first | refine seqN (K := Run _ _ _ _) ?_ | refine seqE ?_ | refine blockE ?_))
    · omega
    · refine ⟨eA, _, [hsl (tS tInt) v (mkS k (xs.map List.length))], resA, ?_, ?_⟩
      · exact SEnt.ch (.cons .head (by rw [List.take_of_length_le (by simp)]; simp) .nil)
      · exact ⟨by rw [List.take_of_length_le (by simp)]; rfl, rfl⟩

set_option maxRecDepth 10000 in
theorem heldIntSS_c (ls : List Nat) (k : Int) (hk : 0 ≤ k) (hl : ls.length ≤ 4611686018427387904) (hx : k + tot ls ≤ 4611686018427387904) :
    Spec Try.prog 58 [vsl 1 (fun t : List Int => [vsl 1 (fun x : Int => [vint x]) t]) (mkS k ls), vint k] [] (fun r S' => r = vint (k + tot ls) ∧ S' = []) := by
  refine Spec.of_run2 (n := 21) Try.func58 rfl Try.results58 Try.ntmps58 rfl ?_
  repeat' (first | (with_reducible refine RL.done ?_) | (with_reducible refine RL.wanted ?_ ?_; exact rfl) | ((with_reducible show RH _ _ _ _ _ _ _ _); refine RH.val (hK := ?_)) | (with_reducible first | refine Run.seq ?_ | refine Run.region ?_ | refine Run.block ?_) | (with_reducible refine seqN (K := Run _ _ _ _) ?_))
  have hm := mkS_length k ls
  refine Run.loop (α := Nat) (fun j => [(0, vsl 1 (fun t : List Int => [vsl 1 (fun x : Int => [vint x]) t]) (mkS k ls)), (1, vint (k + tot (ls.take j))), (5, vint (j : Int))]) (fun j => []) (fun j => j ≤ ls.length) (fun j => ls.length - j) 0 (by simp) (Ent.of (by (repeat (first | exact Sl.nil | refine Sl.cons rfl rfl ?_ | refine Sl.cons rfl (congrArg (fun z => vlit (Value.int .i64 z)) (by omega)) ?_ | refine Sl.cons rfl (by simp [tot]) ?_))) .refl) ?_
  intro j hj
  have hb := tot_take_le ls (j + 1)
  rcases Nat.lt_or_eq_of_le hj with h9 | rfl
  · have he := mkS_get k ls j (by omega)
    have hs := tot_take_succ ls j h9
    repeat' (first | (with_reducible first | refine RL.done ?_ | refine RL.app0 ?_) | (with_reducible refine RL.wanted ?_ ?_; exact rfl) | ((with_reducible show RH _ _ _ ⟨_, .call ⟨.value (.func 51), _, _⟩, _, _, _, _⟩ _ _ _ _); refine RH.cP Try.call51 ?_; refine ⟨_, heldIntS_e _ (ls[j]'h9) _ he (by omega) (by omega), ?_⟩; rintro _ _ ⟨rfl, rfl⟩) | ((with_reducible show RH _ _ _ _ _ _ _ _); refine RH.val (hK := ?_)) | (with_reducible first | refine Run.seq ?_ | refine Run.region ?_ | refine Run.block ?_ | refine Run.skip ?_ | refine Run.exit ?_ | refine Run.ret ?_) | (with_reducible show Run _ _ (.cond _ _ _) _ _ _; refine Run.condD rfl (fun h => ?_) (fun h => ?_)) | (with_reducible first | refine seqN (K := Run _ _ _ _) ?_ | refine seqE ?_ | refine seqR ?_ | refine blockN ?_ | refine blockR ?_ | refine blockE ?_))
    · omega
    · with_reducible refine seqN ?_
      exact ⟨j + 1, by omega, by omega, Ent.of slA .refl⟩
    · omega
  · repeat' (first | (with_reducible refine RL.done ?_) | (with_reducible refine RL.wanted ?_ ?_; exact rfl) | ((with_reducible show RH _ _ _ _ _ _ _ _); refine RH.val (hK := ?_)) | (with_reducible first | refine Run.seq ?_ | refine Run.region ?_ | refine Run.block ?_ | refine Run.skip ?_ | refine Run.exit ?_ | refine Run.ret ?_) | (with_reducible show Run _ _ (.cond _ _ _) _ _ _; refine Run.condD rfl (fun h => ?_) (fun h => ?_)) | (with_reducible first | refine seqN (K := Run _ _ _ _) ?_ | refine seqE ?_ | refine blockE ?_))
    · omega
    · refine ⟨eA, _, [], resA, .ch .nil, ?_⟩
      exact ⟨by rw [List.take_length]; rfl, rfl⟩

end Go.Proofs.Ytiifdhdhjioefaa
