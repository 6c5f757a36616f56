/- The subpower that tuples generate: spec.l8Gens, GenerateSubpower, impl.areGens, GenerateSubpower: the same answer. Proved for this program; conditions: lengths below 2^42. -/
import Derived.Test.YtemfpennomelaaaClsC
import Derived.Test.YtemfpennomelaaaSubT
import Derived.Test.YtemfpennomelaaaRelOf
namespace Go.Proofs.Ytemfpennomelaaa
open Go Go.Proofs
set_option linter.unusedVariables false
theorem span_ex (n : Int) (os : List (Int × List Int)) (k : Nat) (G : List (List Int)) : ∀ (d : Nat) (M : List (List Int)), M.Nodup → (∀ t ∈ M, Clo n os k G t) → M.length + d = mostV os + 1 → (∃ L, SpanYes n os k G L) ∨ SpanNo n os k G
  | 0, M, h1, h2, h3 => .inr ⟨M, h1, h2, by omega⟩
  | d + 1, M, h1, h2, h3 => by
    by_cases h : ∃ t, Clo n os k G t ∧ t ∉ M
    · obtain ⟨t, h4, h5⟩ := h
      exact span_ex n os k G d (t :: M) (List.nodup_cons.2 ⟨h5, h1⟩) (fun u hu => (List.mem_cons.1 hu).elim (fun e => e ▸ h4) (h2 u)) (by rw [List.length_cons]; omega)
    · exact .inl ⟨M, h1, fun t => ⟨h2 t, fun ht => Decidable.byContradiction fun hn => h ⟨t, ht, hn⟩⟩, by omega⟩
def gsOk (n : Int) (os : List (Int × List Int)) (k : Int) (G : List (List Int)) : Bool := subOk n os k && decide (G.length ≤ 20) && tupB n k.toNat G
theorem gsOk_at {n : Int} {os : List (Int × List Int)} {k : Int} {G : List (List Int)} (h : gsOk n os k G = true) : algB n os = true ∧ (1 ≤ k ∧ k ≤ 64) ∧ G.length ≤ 20 ∧ tupB n k.toNat G = true := by
  simp only [gsOk, Bool.and_eq_true, decide_eq_true_eq] at h
  exact ⟨(subOk_at h.1.1).1, (subOk_at h.1.1).2, h.1.2, h.2⟩
set_option maxRecDepth 10000 in
set_option maxHeartbeats 1000000 in
theorem l8TuplesN_c (n : Int) (k : Int) (X : List (List Int)) (hn : 1 ≤ n ∧ n ≤ 8) (hk : ¬ (1 ≤ k ∧ k ≤ 64)) (hl : X.length ≤ 4398046511104) (hr : ∀ t ∈ X, t.length ≤ 4611686018427387904) :
    Spec Try.prog 36 [vint n, vint k, vsl 1 (fun t : List Int => [vsl 1 (fun x : Int => [vint x]) t]) X] [] (fun r S' => r = vbool false ∧ S' = []) := by
  refine Spec.of_run2 (n := 24) Try.func36 rfl Try.results36 Try.ntmps36 rfl ?_
  repeat' (first | (with_reducible refine RL.done ?_) | (with_reducible refine RL.wanted ?_ ?_; exact rfl) | ((with_reducible show RH _ _ _ _ _ _ _ _); refine RH.val (hK := ?_)) | (with_reducible first | refine Run.seq ?_ | refine Run.region ?_ | refine Run.block ?_) | (with_reducible refine seqN (K := Run _ _ _ _) ?_))
  refine Run.loop (α := Nat) (fun m => [(0, vint n), (1, vint k), (2, vsl 1 (fun t : List Int => [vsl 1 (fun x : Int => [vint x]) t]) X), (7, vint (m : Int))]) (fun _ => []) (fun m => m ≤ X.length) (fun m => X.length - m) 0 (Nat.zero_le _) (Ent.of slA .refl) ?_
  intro m hm
  repeat' (first | (with_reducible first | refine RL.done ?_ | refine RL.app0 ?_) | (with_reducible refine RL.wanted ?_ ?_; exact rfl) | ((with_reducible show RH _ _ _ ⟨_, .call ⟨.value (.func 21), _, _⟩, _, _, _, _⟩ _ _ _ _); refine RH.cP Try.call21 ?_; refine ⟨_, l8Tuple_c _ _ _ (by omega) (hr _ (List.getElem_mem _)), ?_⟩; rintro _ _ ⟨rfl, rfl⟩) | ((with_reducible show RH _ _ _ ⟨_, .call ⟨.value (.func 59), _, _⟩, _, _, _, _⟩ _ _ _ _); refine RH.cP Try.call59 ?_; refine ⟨_, l1In_c _ _ _, ?_⟩; rintro _ _ ⟨rfl, rfl⟩) | ((with_reducible show RH _ _ _ _ _ _ _ _); refine RH.val (hK := ?_)) | (with_reducible first | refine Run.seq ?_ | refine Run.region ?_ | refine Run.block ?_ | refine Run.skip ?_ | refine Run.exit ?_ | refine Run.ret ?_) | (with_reducible show Run _ _ (.cond _ _ _) _ _ _; first | refine Run.condD rfl (fun h => ?_) (fun h => ?_) | refine Run.condNB rfl (fun h => ?_) (fun h => ?_)) | (with_reducible first | refine seqN (K := Run _ _ _ _) ?_ | refine seqE ?_ | refine seqR ?_ | refine blockN ?_ | refine blockR ?_ | refine blockE ?_))
  all_goals first
    | (exfalso; omega)
    | (with_reducible refine seqN ?_
       exact ⟨m + 1, by omega, by omega, Ent.of slA chA⟩)
    | (refine ⟨eA, _, [], resA, .ch .nil, ?_⟩
       exact ⟨rfl, rfl⟩)
    | (refine ⟨eA, _, [], resA, .ch .nil, ?_⟩
       exact ⟨by rw [← decide_eq_false hk]; rfl, rfl⟩)
set_option maxRecDepth 10000 in
set_option maxHeartbeats 1000000 in
theorem l8Gens_c (n : Int) (os : List (Int × List Int)) (k : Int) (G : List (List Int)) (hol : os.length ≤ 4611686018427387904) (ho : OpsLen os) (hl : G.length ≤ 4398046511104) (hr : ∀ t ∈ G, t.length ≤ 4611686018427387904) :
    Spec Try.prog 20 [vagg [vint n, vsl 2 (fun y : Int × (List Int) => [vint y.1, vsl 1 (fun x : Int => [vint x]) y.2]) os], vint k, vsl 1 (fun t : List Int => [vsl 1 (fun x : Int => [vint x]) t]) G] [] (fun r S' => r = vbool (gsOk n os k G) ∧ S' = []) := by
  by_cases ha : algB n os = true
  · obtain ⟨hn1, hn8, _, _⟩ := algB_at ha
    by_cases hk : 1 ≤ k ∧ k ≤ 64
    · obtain ⟨k2, rfl⟩ : ∃ k2 : Nat, k = k2 := ⟨k.toNat, by omega⟩
      have hT := l8Tuples_c n k2 G ⟨hn1, hn8⟩ (by omega) hl hr
      have e : gsOk n os k2 G = (decide ((G.length : Int) ≤ 20) && tupB n k2 G) := by
        rw [gsOk, subOk, ha, decide_eq_true hk, Int.toNat_natCast, show decide (G.length ≤ 20) = decide ((G.length : Int) ≤ 20) from decide_eq_decide.2 (by omega)]
        simp only [Bool.true_and]
      rw [e]
      refine Spec.of_run2 (n := 21) Try.func20 rfl Try.results20 Try.ntmps20 rfl ?_
      repeat' (first | (with_reducible first | refine RL.done ?_ | refine RL.app0 ?_) | (with_reducible refine RL.wanted ?_ ?_; exact rfl) | ((with_reducible show RH _ _ _ ⟨some 3, .box _ _, _, _, _, _⟩ _ _ _ _); (refine RH.boxAgg rfl rfl ?_; rintro _ _ ⟨b3, rfl, rfl⟩)) | ((with_reducible show RH _ _ _ ⟨_, .call ⟨.value (.func 35), _, _⟩, _, _, _, _⟩ _ _ _ _); refine RH.cP Try.call35 ?_; refine ⟨_, l2Good_c n os (by omega) ho, ?_⟩; rintro _ _ ⟨rfl, rfl⟩) | ((with_reducible show RH _ _ _ ⟨_, .call ⟨.value (.func 36), _, _⟩, _, _, _, _⟩ _ _ _ _); refine RH.cP Try.call36 ?_; refine ⟨_, hT, ?_⟩; rintro _ _ ⟨rfl, rfl⟩) | ((with_reducible show RH _ _ _ _ _ _ _ _); refine RH.val (hK := ?_)) | (with_reducible show RL _ _ _ (_ :: _) _ _ _; first | refine RL.guardYes rfl rfl rfl rfl ?_ | refine RL.guardNoS rfl rfl rfl rfl rfl rfl ?_ | refine RL.splitD rfl rfl rfl (fun h => ?_) (fun h => ?_) | refine RL.split rfl rfl rfl (fun h => ?_) (fun h => ?_)) | (with_reducible first | refine Run.seq ?_ | refine Run.region ?_ | refine Run.ret ?_) | (with_reducible refine seqN (K := Run _ _ _ _) ?_))
      all_goals first
        | (refine ⟨eA, _, [], resA, .ch .nil, ?_⟩
           exact ⟨by rw [decide_eq_true (by assumption)]; rfl, rfl⟩)
        | (refine ⟨eA, _, [], resA, .ch .nil, ?_⟩
           exact ⟨by rw [decide_eq_false (by assumption)]; rfl, rfl⟩)
        | (exfalso; simp_all; done)
    · have hT := l8TuplesN_c n k G ⟨hn1, hn8⟩ hk hl hr
      have e : gsOk n os k G = false := by rw [gsOk, subOk, decide_eq_false hk, Bool.and_false, Bool.false_and, Bool.false_and]
      rw [e]
      refine Spec.of_run2 (n := 21) Try.func20 rfl Try.results20 Try.ntmps20 rfl ?_
      repeat' (first | (with_reducible first | refine RL.done ?_ | refine RL.app0 ?_) | (with_reducible refine RL.wanted ?_ ?_; exact rfl) | ((with_reducible show RH _ _ _ ⟨some 3, .box _ _, _, _, _, _⟩ _ _ _ _); (refine RH.boxAgg rfl rfl ?_; rintro _ _ ⟨b3, rfl, rfl⟩)) | ((with_reducible show RH _ _ _ ⟨_, .call ⟨.value (.func 35), _, _⟩, _, _, _, _⟩ _ _ _ _); refine RH.cP Try.call35 ?_; refine ⟨_, l2Good_c n os (by omega) ho, ?_⟩; rintro _ _ ⟨rfl, rfl⟩) | ((with_reducible show RH _ _ _ ⟨_, .call ⟨.value (.func 36), _, _⟩, _, _, _, _⟩ _ _ _ _); refine RH.cP Try.call36 ?_; refine ⟨_, hT, ?_⟩; rintro _ _ ⟨rfl, rfl⟩) | ((with_reducible show RH _ _ _ _ _ _ _ _); refine RH.val (hK := ?_)) | (with_reducible show RL _ _ _ (_ :: _) _ _ _; first | refine RL.guardYes rfl rfl rfl rfl ?_ | refine RL.guardNoS rfl rfl rfl rfl rfl rfl ?_ | refine RL.splitD rfl rfl rfl (fun h => ?_) (fun h => ?_) | refine RL.split rfl rfl rfl (fun h => ?_) (fun h => ?_)) | (with_reducible first | refine Run.seq ?_ | refine Run.region ?_ | refine Run.ret ?_) | (with_reducible refine seqN (K := Run _ _ _ _) ?_))
      all_goals first
        | (refine ⟨eA, _, [], resA, .ch .nil, ?_⟩
           exact ⟨rfl, rfl⟩)
        | (exfalso; simp_all; done)
  · have e : gsOk n os k G = false := by rw [gsOk, subOk, show algB n os = false by simpa using ha, Bool.false_and, Bool.false_and, Bool.false_and]
    rw [e]
    refine Spec.of_run2 (n := 21) Try.func20 rfl Try.results20 Try.ntmps20 rfl ?_
    repeat' (first | (with_reducible first | refine RL.done ?_ | refine RL.app0 ?_) | (with_reducible refine RL.wanted ?_ ?_; exact rfl) | ((with_reducible show RH _ _ _ ⟨some 3, .box _ _, _, _, _, _⟩ _ _ _ _); (refine RH.boxAgg rfl rfl ?_; rintro _ _ ⟨b3, rfl, rfl⟩)) | ((with_reducible show RH _ _ _ ⟨_, .call ⟨.value (.func 35), _, _⟩, _, _, _, _⟩ _ _ _ _); refine RH.cP Try.call35 ?_; refine ⟨_, l2Good_c n os (by omega) ho, ?_⟩; rintro _ _ ⟨rfl, rfl⟩) | ((with_reducible show RH _ _ _ _ _ _ _ _); refine RH.val (hK := ?_)) | (with_reducible show RL _ _ _ (_ :: _) _ _ _; first | refine RL.guardYes rfl rfl rfl rfl ?_ | refine RL.guardNoS rfl rfl rfl rfl rfl rfl ?_ | refine RL.splitD rfl rfl rfl (fun h => ?_) (fun h => ?_) | refine RL.split rfl rfl rfl (fun h => ?_) (fun h => ?_)) | (with_reducible first | refine Run.seq ?_ | refine Run.region ?_ | refine Run.ret ?_) | (with_reducible refine seqN (K := Run _ _ _ _) ?_))
    all_goals first
      | (refine ⟨eA, _, [], resA, .ch .nil, ?_⟩
         exact ⟨rfl, rfl⟩)
      | (exfalso; simp_all; done)
set_option maxRecDepth 10000 in
set_option maxHeartbeats 1000000 in
theorem areGens_c (n : Int) (os : List (Int × List Int)) (k : Int) (G : List (List Int)) (hol : os.length ≤ 4611686018427387904) (ho : OpsLen os) (hl : G.length ≤ 4398046511104) (hr : ∀ t ∈ G, t.length ≤ 4611686018427387904) :
    Spec Try.prog 27 [vagg [vint n, vsl 2 (fun y : Int × (List Int) => [vint y.1, vsl 1 (fun x : Int => [vint x]) y.2]) os], vint k, vsl 1 (fun t : List Int => [vsl 1 (fun x : Int => [vint x]) t]) G] [] (fun r S' => r = vbool (gsOk n os k G) ∧ S' = []) := by
  by_cases hs : subOk n os k = true
  · obtain ⟨ha, hk⟩ := subOk_at hs
    obtain ⟨k2, rfl⟩ : ∃ k2 : Nat, k = k2 := ⟨k.toNat, by omega⟩
    have e : gsOk n os k2 G = (decide ((G.length : Int) ≤ 20) && tupB n k2 G) := by
      rw [gsOk, hs, Int.toNat_natCast, show decide (G.length ≤ 20) = decide ((G.length : Int) ≤ 20) from decide_eq_decide.2 (by omega)]
      simp only [Bool.true_and]
    rw [e]
    refine Spec.of_run2 (n := 24) Try.func27 rfl Try.results27 Try.ntmps27 rfl ?_
    repeat' (first | (with_reducible first | refine RL.done ?_ | refine RL.app0 ?_) | (with_reducible refine RL.wanted ?_ ?_; exact rfl) | ((with_reducible show RH _ _ _ ⟨some 3, .box _ _, _, _, _, _⟩ _ _ _ _); (refine RH.boxAgg rfl rfl ?_; rintro _ _ ⟨b3, rfl, rfl⟩)) | ((with_reducible show RH _ _ _ ⟨_, .call ⟨.value (.func 49), _, _⟩, _, _, _, _⟩ _ _ _ _); refine RH.cP Try.call49 ?_; refine ⟨_, isAlgebra_c n os (by omega) ho, ?_⟩; rintro _ _ ⟨rfl, rfl⟩) | ((with_reducible show RH _ _ _ ⟨_, .call ⟨.value (.func 50), _, _⟩, _, _, _, _⟩ _ _ _ _); refine RH.cP Try.call50 ?_; refine ⟨_, isLength_c _, ?_⟩; rintro _ _ ⟨rfl, rfl⟩) | ((with_reducible show RH _ _ _ ⟨_, .call ⟨.value (.func 28), _, _⟩, _, _, _, _⟩ _ _ _ _); refine RH.cP Try.call28 ?_; refine ⟨_, areTuples_c n os k2 G hl hr, ?_⟩; rintro _ _ ⟨rfl, rfl⟩) | ((with_reducible show RH _ _ _ _ _ _ _ _); refine RH.val (hK := ?_)) | (with_reducible show RL _ _ _ (_ :: _) _ _ _; first | refine RL.guardYes rfl rfl rfl rfl ?_ | refine RL.guardNoS rfl rfl rfl rfl rfl rfl ?_ | refine RL.splitD rfl rfl rfl (fun h => ?_) (fun h => ?_) | refine RL.split rfl rfl rfl (fun h => ?_) (fun h => ?_)) | (with_reducible first | refine Run.seq ?_ | refine Run.region ?_ | refine Run.ret ?_) | (with_reducible refine seqN (K := Run _ _ _ _) ?_))
    all_goals first
      | (refine ⟨eA, _, [], resA, .ch .nil, ?_⟩
         exact ⟨by rw [decide_eq_true (by assumption)]; rfl, rfl⟩)
      | (refine ⟨eA, _, [], resA, .ch .nil, ?_⟩
         exact ⟨by rw [decide_eq_false (by assumption)]; rfl, rfl⟩)
      | (exfalso; omega)
      | (exfalso; simp_all; done)
  · have hs2 : subOk n os k = false := by simpa using hs
    have e : gsOk n os k G = false := by rw [gsOk, hs2, Bool.false_and, Bool.false_and]
    rw [e]
    refine Spec.of_run2 (n := 24) Try.func27 rfl Try.results27 Try.ntmps27 rfl ?_
    repeat' (first | (with_reducible first | refine RL.done ?_ | refine RL.app0 ?_) | (with_reducible refine RL.wanted ?_ ?_; exact rfl) | ((with_reducible show RH _ _ _ ⟨some 3, .box _ _, _, _, _, _⟩ _ _ _ _); (refine RH.boxAgg rfl rfl ?_; rintro _ _ ⟨b3, rfl, rfl⟩)) | ((with_reducible show RH _ _ _ ⟨_, .call ⟨.value (.func 49), _, _⟩, _, _, _, _⟩ _ _ _ _); refine RH.cP Try.call49 ?_; refine ⟨_, isAlgebra_c n os (by omega) ho, ?_⟩; rintro _ _ ⟨rfl, rfl⟩) | ((with_reducible show RH _ _ _ ⟨_, .call ⟨.value (.func 50), _, _⟩, _, _, _, _⟩ _ _ _ _); refine RH.cP Try.call50 ?_; refine ⟨_, isLength_c _, ?_⟩; rintro _ _ ⟨rfl, rfl⟩) | ((with_reducible show RH _ _ _ _ _ _ _ _); refine RH.val (hK := ?_)) | (with_reducible show RL _ _ _ (_ :: _) _ _ _; first | refine RL.guardYes rfl rfl rfl rfl ?_ | refine RL.guardNoS rfl rfl rfl rfl rfl rfl ?_ | refine RL.splitD rfl rfl rfl (fun h => ?_) (fun h => ?_) | refine RL.split rfl rfl rfl (fun h => ?_) (fun h => ?_)) | (with_reducible first | refine Run.seq ?_ | refine Run.region ?_ | refine Run.ret ?_) | (with_reducible refine seqN (K := Run _ _ _ _) ?_))
    all_goals first
      | (refine ⟨eA, _, [], resA, .ch .nil, ?_⟩
         exact ⟨rfl, rfl⟩)
      | (exfalso; apply hs; simp_all [subOk]; done)
      | (exfalso; apply hs; simp_all [subOk]; omega)
end Go.Proofs.Ytemfpennomelaaa
