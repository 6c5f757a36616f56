/- The subpower that tuples generate: spec.l8Gens, GenerateSubpower, impl.areGens, GenerateSubpower: the same answer. Proved for this program; conditions: lengths below 2^42. -/
import Derived.Test.YtodlpdedldhebaaClsC
import Derived.Test.YtodlpdedldhebaaSubT
import Derived.Test.YtodlpdedldhebaaRelOf
namespace Go.Proofs.Ytodlpdedldhebaa
open Go Go.Proofs
set_option linter.unusedVariables false
/-- the subpower in order, or that it has too many tuples -/
def GenIs (n : Int) (os : List (Int × List Int)) (k : Nat) (G : List (List Int)) (o : Option (List (List Int))) : Prop := match o with
  | some X => Str X ∧ SpanYes n os k G X
  | none => SpanNo n os k G
theorem span_ex (n : Int) (os : List (Int × List Int)) (k : Nat) (G : List (List Int)) : ∀ (d : Nat) (M : List (List Int)), M.Nodup → (∀ t ∈ M, Clo n os k G t) → M.length + d = mostV os + 1 → (∃ L, SpanYes n os k G L) ∨ SpanNo n os k G
  | 0, M, h1, h2, h3 => .inr ⟨M, h1, h2, by omega⟩
  | d + 1, M, h1, h2, h3 => by
    by_cases h : ∃ t, Clo n os k G t ∧ t ∉ M
    · obtain ⟨t, h4, h5⟩ := h
      exact span_ex n os k G d (t :: M) (List.nodup_cons.2 ⟨h5, h1⟩) (fun u hu => (List.mem_cons.1 hu).elim (fun e => e ▸ h4) (h2 u)) (by rw [List.length_cons]; omega)
    · exact .inl ⟨M, h1, fun t => ⟨h2 t, fun ht => Decidable.byContradiction fun hn => h ⟨t, ht, hn⟩⟩, by omega⟩
theorem span_sort {n : Int} {os : List (Int × List Int)} {k : Nat} {G L : List (List Int)} (ha : algB n os = true) (hk : k ≤ 1048576) (hG : ∀ t ∈ G, TupOk n k t) (h : SpanYes n os k G L) : Str (putF L) ∧ SpanYes n os k G (putF L) := by
  have hLk : ∀ u ∈ L, u.length = k := fun u hu => (((h.2.1 u).1 hu).ok ha hk hG).1
  obtain ⟨h1, h2⟩ := putF_str hLk
  have hl := putF_le L
  exact ⟨h1, str_nodup h1, fun t => (h2 t).trans (h.2.1 t), Nat.le_trans hl h.2.2⟩
def gsOk (n : Int) (os : List (Int × List Int)) (k : Int) (G : List (List Int)) : Bool := subOk n os k && decide (G.length ≤ 20) && tupB n k.toNat G
theorem gsOk_at {n : Int} {os : List (Int × List Int)} {k : Int} {G : List (List Int)} (h : gsOk n os k G = true) : algB n os = true ∧ (1 ≤ k ∧ k ≤ 64) ∧ G.length ≤ 20 ∧ tupB n k.toNat G = true := by
  simp only [gsOk, Bool.and_eq_true, decide_eq_true_eq] at h
  exact ⟨(subOk_at h.1.1).1, (subOk_at h.1.1).2, h.1.2, h.2⟩
theorem gen_ex (n : Int) (os : List (Int × List Int)) (k : Int) (G : List (List Int)) : ∃ o, gsOk n os k G = true → GenIs n os k.toNat G o := by
  by_cases hg : gsOk n os k G = true
  · obtain ⟨ha, hk, h20, ht⟩ := gsOk_at hg
    rcases span_ex n os k.toNat G (mostV os + 1) [] .nil (fun t h => by cases h) (by simp) with ⟨L, hL⟩ | h
    · exact ⟨some (putF L), fun _ => span_sort ha (by omega) (tupB_iff.1 ht) hL⟩
    · exact ⟨none, fun _ => h⟩
  · exact ⟨none, fun h => (hg h).elim⟩
def genO (ok : Bool) (o : Option (List (List Int))) : Option (List (List Int)) := if ok then o else none
abbrev GenRes (o : Option (List (List Int))) (r : VP) (S' : List HP) : Prop := ∃ s : Sv, r = vtup [vlit (vsv s), vbool o.isSome] ∧ S' = [hsl (tS tInt) (vsv s) (o.getD [])]
set_option maxRecDepth 10000 in
set_option maxHeartbeats 1000000 in
theorem l8TuplesN_c (n : Int) (k : Int) (X : List (List Int)) (hn : 1 ≤ n ∧ n ≤ 8) (hk : ¬ (1 ≤ k ∧ k ≤ 64)) (hl : X.length ≤ 4398046511104) (hr : ∀ t ∈ X, t.length ≤ 4611686018427387904) :
    Spec Try.prog 121 [vint n, vint k, vsl 1 (fun t : List Int => [vsl 1 (fun x : Int => [vint x]) t]) X] [] (fun r S' => r = vbool false ∧ S' = []) := by
  refine Spec.of_run2 (n := 24) Try.func121 rfl Try.results121 Try.ntmps121 rfl ?_
  repeat' (first | (with_reducible first | refine RL.done ?_ | refine RL.app0 ?_ | refine RL.app1 ?_ | refine RL.app2 ?_ | refine RL.app3 ?_ | refine RL.app4 ?_) | (with_reducible refine RL.wanted ?_ ?_; exact rfl) | ((with_reducible show RH _ _ _ _ _ _ _ _); first | refine RH.val (hK := ?_) | refine RH.upd (hK := ?_) | (refine RH.lr (h := ?_); intro u)) | (with_reducible first | refine Run.seq ?_ | refine Run.region ?_ | refine Run.block ?_ | refine Run.skip ?_ | refine Run.exit ?_ | refine Run.ret ?_) | (with_reducible show Run _ _ (.cond _ _ _) _ _ _; first | refine Run.condT rfl ?_ | refine Run.condF rfl ?_ | refine Run.condD rfl (fun h => ?_) (fun h => ?_) | refine Run.condND rfl (fun h => ?_) (fun h => ?_) | refine Run.condNB rfl (fun h => ?_) (fun h => ?_) | refine Run.cond rfl (fun h => ?_) (fun h => ?_)) | (with_reducible first | refine seqN (K := Run _ _ _ _) ?_ | refine seqE ?_ | refine seqR ?_ | refine blockN ?_ | refine blockR ?_ | refine blockE ?_) | (with_reducible refine blockX ?_ ?_; exact rfl))
  refine Run.loop (α := Nat) (fun m => [(0, vint n), (1, vint k), (2, vsl 1 (fun t : List Int => [vsl 1 (fun x : Int => [vint x]) t]) X), (7, vint (m : Int))]) (fun _ => []) (fun m => m ≤ X.length) (fun m => X.length - m) 0 (Nat.zero_le _) (Ent.of slA .refl) ?_
  intro m hm
  repeat' (first | (with_reducible first | refine RL.done ?_ | refine RL.app0 ?_ | refine RL.app1 ?_ | refine RL.app2 ?_ | refine RL.app3 ?_ | refine RL.app4 ?_) | (with_reducible refine RL.wanted ?_ ?_; exact rfl) | ((with_reducible show RH _ _ _ ⟨_, .call ⟨.value (.func 60), _, _⟩, _, _, _, _⟩ _ _ _ _); refine RH.cP Try.call60 ?_; refine ⟨_, l8Tuple_c _ _ _ (by omega) (hr _ (List.getElem_mem _)), ?_⟩; rintro _ _ ⟨rfl, rfl⟩) | ((with_reducible show RH _ _ _ ⟨_, .call ⟨.value (.func 59), _, _⟩, _, _, _, _⟩ _ _ _ _); refine RH.cP Try.call59 ?_; refine ⟨_, l1In_c _ _ _, ?_⟩; rintro _ _ ⟨rfl, rfl⟩) | ((with_reducible show RH _ _ _ _ _ _ _ _); first | refine RH.val (hK := ?_) | refine RH.upd (hK := ?_) | (refine RH.lr (h := ?_); intro u)) | (with_reducible first | refine Run.seq ?_ | refine Run.region ?_ | refine Run.block ?_ | refine Run.skip ?_ | refine Run.exit ?_ | refine Run.ret ?_) | (with_reducible show Run _ _ (.cond _ _ _) _ _ _; first | refine Run.condT rfl ?_ | refine Run.condF rfl ?_ | refine Run.condD rfl (fun h => ?_) (fun h => ?_) | refine Run.condND rfl (fun h => ?_) (fun h => ?_) | refine Run.condNB rfl (fun h => ?_) (fun h => ?_) | refine Run.cond rfl (fun h => ?_) (fun h => ?_)) | (with_reducible first | refine seqN (K := Run _ _ _ _) ?_ | refine seqE ?_ | refine seqR ?_ | refine blockN ?_ | refine blockR ?_ | refine blockE ?_) | (with_reducible refine blockX ?_ ?_; exact rfl))
  all_goals first
    | (exfalso; omega)
    | (with_reducible refine seqN ?_
       exact ⟨m + 1, by omega, by omega, Ent.of slA chA⟩)
    | (refine ⟨eA, _, [], resA, .ch .nil, ?_⟩
       exact ⟨rfl, rfl⟩)
    | (refine ⟨eA, _, [], resA, .ch .nil, ?_⟩
       exact ⟨by rw [← decide_eq_false hk]; rfl, rfl⟩)
set_option maxRecDepth 10000 in
set_option maxHeartbeats 1000000 in
theorem l8Gens_c (n : Int) (os : List (Int × List Int)) (k : Int) (G : List (List Int)) (hol : os.length ≤ 4611686018427387904) (ho : OpsLen os) (hl : G.length ≤ 4398046511104) (hr : ∀ t ∈ G, t.length ≤ 4611686018427387904) :
    Spec Try.prog 102 [vagg [vint n, vsl 2 (fun y : Int × (List Int) => [vint y.1, vsl 1 (fun x : Int => [vint x]) y.2]) os], vint k, vsl 1 (fun t : List Int => [vsl 1 (fun x : Int => [vint x]) t]) G] [] (fun r S' => r = vbool (gsOk n os k G) ∧ S' = []) := by
  by_cases ha : algB n os = true
  · obtain ⟨hn1, hn8, _, _⟩ := algB_at ha
    by_cases hk : 1 ≤ k ∧ k ≤ 64
    · obtain ⟨k2, rfl⟩ : ∃ k2 : Nat, k = k2 := ⟨k.toNat, by omega⟩
      have hT := l8Tuples_c n k2 G ⟨hn1, hn8⟩ (by omega) hl hr
      have e : gsOk n os k2 G = (decide ((G.length : Int) ≤ 20) && tupB n k2 G) := by
        rw [gsOk, subOk, ha, decide_eq_true hk, Int.toNat_natCast, show decide (G.length ≤ 20) = decide ((G.length : Int) ≤ 20) from decide_eq_decide.2 (by omega)]
        simp only [Bool.true_and]
      rw [e]
      refine Spec.of_run2 (n := 21) Try.func102 rfl Try.results102 Try.ntmps102 rfl ?_
      repeat' (first | (with_reducible first | refine RL.done ?_ | refine RL.app0 ?_ | refine RL.app1 ?_ | refine RL.app2 ?_ | refine RL.app3 ?_ | refine RL.app4 ?_) | (with_reducible refine RL.wanted ?_ ?_; exact rfl) | ((with_reducible show RH _ _ _ ⟨some 3, .box _ _, _, _, _, _⟩ _ _ _ _); first | (refine RH.boxAgg rfl rfl ?_; rintro _ _ ⟨b3, rfl, rfl⟩) | (refine RH.boxOne rfl rfl ?_; rintro _ _ ⟨b3, rfl, rfl⟩)) | ((with_reducible show RH _ _ _ ⟨_, .call ⟨.value (.func 85), _, _⟩, _, _, _, _⟩ _ _ _ _); refine RH.cP Try.call85 ?_; refine ⟨_, l2Good_c n os (by omega) ho, ?_⟩; rintro _ _ ⟨rfl, rfl⟩) | ((with_reducible show RH _ _ _ ⟨_, .call ⟨.value (.func 121), _, _⟩, _, _, _, _⟩ _ _ _ _); refine RH.cP Try.call121 ?_; refine ⟨_, hT, ?_⟩; rintro _ _ ⟨rfl, rfl⟩) | ((with_reducible show RH _ _ _ _ _ _ _ _); first | refine RH.val (hK := ?_) | refine RH.upd (hK := ?_) | (refine RH.lr (h := ?_); intro u)) | (with_reducible show RL _ _ _ (_ :: _) _ _ _; first | refine RL.guardYes rfl rfl rfl rfl ?_ | refine RL.guardNoS rfl rfl rfl rfl rfl rfl ?_ | refine RL.guardNo0 rfl rfl rfl rfl rfl rfl ?_ | refine RL.splitD rfl rfl rfl (fun h => ?_) (fun h => ?_) | refine RL.splitND rfl rfl rfl (fun h => ?_) (fun h => ?_) | refine RL.splitNB rfl rfl rfl (fun h => ?_) (fun h => ?_) | refine RL.split rfl rfl rfl (fun h => ?_) (fun h => ?_)) | (with_reducible first | refine Run.seq ?_ | refine Run.region ?_ | refine Run.block ?_ | refine Run.skip ?_ | refine Run.exit ?_ | refine Run.ret ?_) | (with_reducible show Run _ _ (.cond _ _ _) _ _ _; first | refine Run.condT rfl ?_ | refine Run.condF rfl ?_ | refine Run.condD rfl (fun h => ?_) (fun h => ?_) | refine Run.condND rfl (fun h => ?_) (fun h => ?_) | refine Run.condNB rfl (fun h => ?_) (fun h => ?_) | refine Run.cond rfl (fun h => ?_) (fun h => ?_)) | (with_reducible first | refine seqN (K := Run _ _ _ _) ?_ | refine seqE ?_ | refine seqR ?_ | refine blockN ?_ | refine blockR ?_ | refine blockE ?_) | (with_reducible refine blockX ?_ ?_; exact rfl))
      all_goals first
        | (refine ⟨eA, _, [], resA, .ch .nil, ?_⟩
           exact ⟨by rw [decide_eq_true (by assumption)]; rfl, rfl⟩)
        | (refine ⟨eA, _, [], resA, .ch .nil, ?_⟩
           exact ⟨by rw [decide_eq_false (by assumption)]; rfl, rfl⟩)
        | (exfalso; simp_all; done)
    · have hT := l8TuplesN_c n k G ⟨hn1, hn8⟩ hk hl hr
      have e : gsOk n os k G = false := by rw [gsOk, subOk, decide_eq_false hk, Bool.and_false, Bool.false_and, Bool.false_and]
      rw [e]
      refine Spec.of_run2 (n := 21) Try.func102 rfl Try.results102 Try.ntmps102 rfl ?_
      repeat' (first | (with_reducible first | refine RL.done ?_ | refine RL.app0 ?_ | refine RL.app1 ?_ | refine RL.app2 ?_ | refine RL.app3 ?_ | refine RL.app4 ?_) | (with_reducible refine RL.wanted ?_ ?_; exact rfl) | ((with_reducible show RH _ _ _ ⟨some 3, .box _ _, _, _, _, _⟩ _ _ _ _); first | (refine RH.boxAgg rfl rfl ?_; rintro _ _ ⟨b3, rfl, rfl⟩) | (refine RH.boxOne rfl rfl ?_; rintro _ _ ⟨b3, rfl, rfl⟩)) | ((with_reducible show RH _ _ _ ⟨_, .call ⟨.value (.func 85), _, _⟩, _, _, _, _⟩ _ _ _ _); refine RH.cP Try.call85 ?_; refine ⟨_, l2Good_c n os (by omega) ho, ?_⟩; rintro _ _ ⟨rfl, rfl⟩) | ((with_reducible show RH _ _ _ ⟨_, .call ⟨.value (.func 121), _, _⟩, _, _, _, _⟩ _ _ _ _); refine RH.cP Try.call121 ?_; refine ⟨_, hT, ?_⟩; rintro _ _ ⟨rfl, rfl⟩) | ((with_reducible show RH _ _ _ _ _ _ _ _); first | refine RH.val (hK := ?_) | refine RH.upd (hK := ?_) | (refine RH.lr (h := ?_); intro u)) | (with_reducible show RL _ _ _ (_ :: _) _ _ _; first | refine RL.guardYes rfl rfl rfl rfl ?_ | refine RL.guardNoS rfl rfl rfl rfl rfl rfl ?_ | refine RL.guardNo0 rfl rfl rfl rfl rfl rfl ?_ | refine RL.splitD rfl rfl rfl (fun h => ?_) (fun h => ?_) | refine RL.splitND rfl rfl rfl (fun h => ?_) (fun h => ?_) | refine RL.splitNB rfl rfl rfl (fun h => ?_) (fun h => ?_) | refine RL.split rfl rfl rfl (fun h => ?_) (fun h => ?_)) | (with_reducible first | refine Run.seq ?_ | refine Run.region ?_ | refine Run.block ?_ | refine Run.skip ?_ | refine Run.exit ?_ | refine Run.ret ?_) | (with_reducible show Run _ _ (.cond _ _ _) _ _ _; first | refine Run.condT rfl ?_ | refine Run.condF rfl ?_ | refine Run.condD rfl (fun h => ?_) (fun h => ?_) | refine Run.condND rfl (fun h => ?_) (fun h => ?_) | refine Run.condNB rfl (fun h => ?_) (fun h => ?_) | refine Run.cond rfl (fun h => ?_) (fun h => ?_)) | (with_reducible first | refine seqN (K := Run _ _ _ _) ?_ | refine seqE ?_ | refine seqR ?_ | refine blockN ?_ | refine blockR ?_ | refine blockE ?_) | (with_reducible refine blockX ?_ ?_; exact rfl))
      all_goals first
        | (refine ⟨eA, _, [], resA, .ch .nil, ?_⟩
           exact ⟨rfl, rfl⟩)
        | (exfalso; simp_all; done)
  · have e : gsOk n os k G = false := by rw [gsOk, subOk, show algB n os = false by simpa using ha, Bool.false_and, Bool.false_and, Bool.false_and]
    rw [e]
    refine Spec.of_run2 (n := 21) Try.func102 rfl Try.results102 Try.ntmps102 rfl ?_
    repeat' (first | (with_reducible first | refine RL.done ?_ | refine RL.app0 ?_ | refine RL.app1 ?_ | refine RL.app2 ?_ | refine RL.app3 ?_ | refine RL.app4 ?_) | (with_reducible refine RL.wanted ?_ ?_; exact rfl) | ((with_reducible show RH _ _ _ ⟨some 3, .box _ _, _, _, _, _⟩ _ _ _ _); first | (refine RH.boxAgg rfl rfl ?_; rintro _ _ ⟨b3, rfl, rfl⟩) | (refine RH.boxOne rfl rfl ?_; rintro _ _ ⟨b3, rfl, rfl⟩)) | ((with_reducible show RH _ _ _ ⟨_, .call ⟨.value (.func 85), _, _⟩, _, _, _, _⟩ _ _ _ _); refine RH.cP Try.call85 ?_; refine ⟨_, l2Good_c n os (by omega) ho, ?_⟩; rintro _ _ ⟨rfl, rfl⟩) | ((with_reducible show RH _ _ _ _ _ _ _ _); first | refine RH.val (hK := ?_) | refine RH.upd (hK := ?_) | (refine RH.lr (h := ?_); intro u)) | (with_reducible show RL _ _ _ (_ :: _) _ _ _; first | refine RL.guardYes rfl rfl rfl rfl ?_ | refine RL.guardNoS rfl rfl rfl rfl rfl rfl ?_ | refine RL.guardNo0 rfl rfl rfl rfl rfl rfl ?_ | refine RL.splitD rfl rfl rfl (fun h => ?_) (fun h => ?_) | refine RL.splitND rfl rfl rfl (fun h => ?_) (fun h => ?_) | refine RL.splitNB rfl rfl rfl (fun h => ?_) (fun h => ?_) | refine RL.split rfl rfl rfl (fun h => ?_) (fun h => ?_)) | (with_reducible first | refine Run.seq ?_ | refine Run.region ?_ | refine Run.block ?_ | refine Run.skip ?_ | refine Run.exit ?_ | refine Run.ret ?_) | (with_reducible show Run _ _ (.cond _ _ _) _ _ _; first | refine Run.condT rfl ?_ | refine Run.condF rfl ?_ | refine Run.condD rfl (fun h => ?_) (fun h => ?_) | refine Run.condND rfl (fun h => ?_) (fun h => ?_) | refine Run.condNB rfl (fun h => ?_) (fun h => ?_) | refine Run.cond rfl (fun h => ?_) (fun h => ?_)) | (with_reducible first | refine seqN (K := Run _ _ _ _) ?_ | refine seqE ?_ | refine seqR ?_ | refine blockN ?_ | refine blockR ?_ | refine blockE ?_) | (with_reducible refine blockX ?_ ?_; exact rfl))
    all_goals first
      | (refine ⟨eA, _, [], resA, .ch .nil, ?_⟩
         exact ⟨rfl, rfl⟩)
      | (exfalso; simp_all; done)
set_option maxRecDepth 10000 in
set_option maxHeartbeats 1000000 in
theorem areGens_c (n : Int) (os : List (Int × List Int)) (k : Int) (G : List (List Int)) (hol : os.length ≤ 4611686018427387904) (ho : OpsLen os) (hl : G.length ≤ 4398046511104) (hr : ∀ t ∈ G, t.length ≤ 4611686018427387904) :
    Spec Try.prog 104 [vagg [vint n, vsl 2 (fun y : Int × (List Int) => [vint y.1, vsl 1 (fun x : Int => [vint x]) y.2]) os], vint k, vsl 1 (fun t : List Int => [vsl 1 (fun x : Int => [vint x]) t]) G] [] (fun r S' => r = vbool (gsOk n os k G) ∧ S' = []) := by
  by_cases hs : subOk n os k = true
  · obtain ⟨ha, hk⟩ := subOk_at hs
    obtain ⟨k2, rfl⟩ : ∃ k2 : Nat, k = k2 := ⟨k.toNat, by omega⟩
    have e : gsOk n os k2 G = (decide ((G.length : Int) ≤ 20) && tupB n k2 G) := by
      rw [gsOk, hs, Int.toNat_natCast, show decide (G.length ≤ 20) = decide ((G.length : Int) ≤ 20) from decide_eq_decide.2 (by omega)]
      simp only [Bool.true_and]
    rw [e]
    refine Spec.of_run2 (n := 24) Try.func104 rfl Try.results104 Try.ntmps104 rfl ?_
    repeat' (first | (with_reducible first | refine RL.done ?_ | refine RL.app0 ?_ | refine RL.app1 ?_ | refine RL.app2 ?_ | refine RL.app3 ?_ | refine RL.app4 ?_) | (with_reducible refine RL.wanted ?_ ?_; exact rfl) | ((with_reducible show RH _ _ _ ⟨some 3, .box _ _, _, _, _, _⟩ _ _ _ _); first | (refine RH.boxAgg rfl rfl ?_; rintro _ _ ⟨b3, rfl, rfl⟩) | (refine RH.boxOne rfl rfl ?_; rintro _ _ ⟨b3, rfl, rfl⟩)) | ((with_reducible show RH _ _ _ ⟨_, .call ⟨.value (.func 87), _, _⟩, _, _, _, _⟩ _ _ _ _); refine RH.cP Try.call87 ?_; refine ⟨_, isAlgebra_c n os (by omega) ho, ?_⟩; rintro _ _ ⟨rfl, rfl⟩) | ((with_reducible show RH _ _ _ ⟨_, .call ⟨.value (.func 88), _, _⟩, _, _, _, _⟩ _ _ _ _); refine RH.cP Try.call88 ?_; refine ⟨_, isLength_c _, ?_⟩; rintro _ _ ⟨rfl, rfl⟩) | ((with_reducible show RH _ _ _ ⟨_, .call ⟨.value (.func 128), _, _⟩, _, _, _, _⟩ _ _ _ _); refine RH.cP Try.call128 ?_; refine ⟨_, areTuples_c n os k2 G hl hr, ?_⟩; rintro _ _ ⟨rfl, rfl⟩) | ((with_reducible show RH _ _ _ _ _ _ _ _); first | refine RH.val (hK := ?_) | refine RH.upd (hK := ?_) | (refine RH.lr (h := ?_); intro u)) | (with_reducible show RL _ _ _ (_ :: _) _ _ _; first | refine RL.guardYes rfl rfl rfl rfl ?_ | refine RL.guardNoS rfl rfl rfl rfl rfl rfl ?_ | refine RL.guardNo0 rfl rfl rfl rfl rfl rfl ?_ | refine RL.splitD rfl rfl rfl (fun h => ?_) (fun h => ?_) | refine RL.splitND rfl rfl rfl (fun h => ?_) (fun h => ?_) | refine RL.splitNB rfl rfl rfl (fun h => ?_) (fun h => ?_) | refine RL.split rfl rfl rfl (fun h => ?_) (fun h => ?_)) | (with_reducible first | refine Run.seq ?_ | refine Run.region ?_ | refine Run.block ?_ | refine Run.skip ?_ | refine Run.exit ?_ | refine Run.ret ?_) | (with_reducible show Run _ _ (.cond _ _ _) _ _ _; first | refine Run.condT rfl ?_ | refine Run.condF rfl ?_ | refine Run.condD rfl (fun h => ?_) (fun h => ?_) | refine Run.condND rfl (fun h => ?_) (fun h => ?_) | refine Run.condNB rfl (fun h => ?_) (fun h => ?_) | refine Run.cond rfl (fun h => ?_) (fun h => ?_)) | (with_reducible first | refine seqN (K := Run _ _ _ _) ?_ | refine seqE ?_ | refine seqR ?_ | refine blockN ?_ | refine blockR ?_ | refine blockE ?_) | (with_reducible refine blockX ?_ ?_; exact rfl))
    all_goals first
      | (refine ⟨eA, _, [], resA, .ch .nil, ?_⟩
         exact ⟨by rw [decide_eq_true (by assumption)]; rfl, rfl⟩)
      | (refine ⟨eA, _, [], resA, .ch .nil, ?_⟩
         exact ⟨by rw [decide_eq_false (by assumption)]; rfl, rfl⟩)
      | (exfalso; omega)
      | (exfalso; simp_all; done)
  · have hs2 : subOk n os k = false := by simpa using hs
    have e : gsOk n os k G = false := by rw [gsOk, hs2, Bool.false_and, Bool.false_and]
    rw [e]
    refine Spec.of_run2 (n := 24) Try.func104 rfl Try.results104 Try.ntmps104 rfl ?_
    repeat' (first | (with_reducible first | refine RL.done ?_ | refine RL.app0 ?_ | refine RL.app1 ?_ | refine RL.app2 ?_ | refine RL.app3 ?_ | refine RL.app4 ?_) | (with_reducible refine RL.wanted ?_ ?_; exact rfl) | ((with_reducible show RH _ _ _ ⟨some 3, .box _ _, _, _, _, _⟩ _ _ _ _); first | (refine RH.boxAgg rfl rfl ?_; rintro _ _ ⟨b3, rfl, rfl⟩) | (refine RH.boxOne rfl rfl ?_; rintro _ _ ⟨b3, rfl, rfl⟩)) | ((with_reducible show RH _ _ _ ⟨_, .call ⟨.value (.func 87), _, _⟩, _, _, _, _⟩ _ _ _ _); refine RH.cP Try.call87 ?_; refine ⟨_, isAlgebra_c n os (by omega) ho, ?_⟩; rintro _ _ ⟨rfl, rfl⟩) | ((with_reducible show RH _ _ _ ⟨_, .call ⟨.value (.func 88), _, _⟩, _, _, _, _⟩ _ _ _ _); refine RH.cP Try.call88 ?_; refine ⟨_, isLength_c _, ?_⟩; rintro _ _ ⟨rfl, rfl⟩) | ((with_reducible show RH _ _ _ _ _ _ _ _); first | refine RH.val (hK := ?_) | refine RH.upd (hK := ?_) | (refine RH.lr (h := ?_); intro u)) | (with_reducible show RL _ _ _ (_ :: _) _ _ _; first | refine RL.guardYes rfl rfl rfl rfl ?_ | refine RL.guardNoS rfl rfl rfl rfl rfl rfl ?_ | refine RL.guardNo0 rfl rfl rfl rfl rfl rfl ?_ | refine RL.splitD rfl rfl rfl (fun h => ?_) (fun h => ?_) | refine RL.splitND rfl rfl rfl (fun h => ?_) (fun h => ?_) | refine RL.splitNB rfl rfl rfl (fun h => ?_) (fun h => ?_) | refine RL.split rfl rfl rfl (fun h => ?_) (fun h => ?_)) | (with_reducible first | refine Run.seq ?_ | refine Run.region ?_ | refine Run.block ?_ | refine Run.skip ?_ | refine Run.exit ?_ | refine Run.ret ?_) | (with_reducible show Run _ _ (.cond _ _ _) _ _ _; first | refine Run.condT rfl ?_ | refine Run.condF rfl ?_ | refine Run.condD rfl (fun h => ?_) (fun h => ?_) | refine Run.condND rfl (fun h => ?_) (fun h => ?_) | refine Run.condNB rfl (fun h => ?_) (fun h => ?_) | refine Run.cond rfl (fun h => ?_) (fun h => ?_)) | (with_reducible first | refine seqN (K := Run _ _ _ _) ?_ | refine seqE ?_ | refine seqR ?_ | refine blockN ?_ | refine blockR ?_ | refine blockE ?_) | (with_reducible refine blockX ?_ ?_; exact rfl))
    all_goals first
      | (refine ⟨eA, _, [], resA, .ch .nil, ?_⟩
         exact ⟨rfl, rfl⟩)
      | (exfalso; apply hs; simp_all [subOk]; done)
      | (exfalso; apply hs; simp_all [subOk]; omega)
theorem gen_yes {n : Int} {os : List (Int × List Int)} {k : Nat} {G X : List (List Int)} {o : Option (List (List Int))} (ho : GenIs n os k G o) (h : ClsYes n os k G X) : (X.length ≤ mostV os ∧ o = some X) ∨ (¬ X.length ≤ mostV os ∧ o = none) := by
  cases o with
  | some Y =>
    obtain ⟨h1, h2⟩ := ho
    obtain ⟨h3, h4⟩ := cls_span h h2
    exact .inl ⟨h3, by rw [str_ext h.1 h1 h4]⟩
  | none => exact .inr ⟨cls_spanNo h ho, rfl⟩
theorem gen_span {n : Int} {os : List (Int × List Int)} {k : Nat} {G L : List (List Int)} {o : Option (List (List Int))} (ha : algB n os = true) (hk : k ≤ 1048576) (hG : ∀ t ∈ G, TupOk n k t) (ho : GenIs n os k G o) (h : SpanYes n os k G L) : o = some (putF L) := by
  obtain ⟨h1, h2⟩ := span_sort ha hk hG h
  cases o with
  | some Y =>
    obtain ⟨h3, h4⟩ := ho
    rw [str_ext h3 h1 fun t => (h4.2.1 t).trans (h2.2.1 t).symm]
  | none => exact (span_not h ho).elim
theorem gen_no {n : Int} {os : List (Int × List Int)} {k : Nat} {G : List (List Int)} {o : Option (List (List Int))} (ho : GenIs n os k G o) (h : SpanNo n os k G) : o = none := by
  cases o with
  | some Y => exact (span_not ho.2 h).elim
  | none => rfl
set_option maxRecDepth 10000 in
set_option maxHeartbeats 2000000 in
theorem specGen_c (n : Int) (os : List (Int × List Int)) (k : Int) (G : List (List Int)) (o : Option (List (List Int))) (hoo : gsOk n os k G = true → GenIs n os k.toNat G o) (hol : os.length ≤ 4611686018427387904) (ho : OpsLen os) (hl : G.length ≤ 4398046511104) (hr : ∀ t ∈ G, t.length ≤ 4611686018427387904) :
    Spec Try.prog 53 [vagg [vint n, vsl 2 (fun y : Int × (List Int) => [vint y.1, vsl 1 (fun x : Int => [vint x]) y.2]) os], vint k, vsl 1 (fun t : List Int => [vsl 1 (fun x : Int => [vint x]) t]) G] [] (GenRes (genO (gsOk n os k G) o)) := by
  cases hg : gsOk n os k G with
  | false =>
    refine Spec.of_run2 (n := 27) Try.func53 rfl Try.results53 Try.ntmps53 rfl ?_
    repeat' (first | (with_reducible first | refine RL.done ?_ | refine RL.app0 ?_ | refine RL.app1 ?_ | refine RL.app2 ?_ | refine RL.app3 ?_ | refine RL.app4 ?_) | (with_reducible refine RL.wanted ?_ ?_; exact rfl) | ((with_reducible show RH _ _ _ ⟨some 3, .box _ _, _, _, _, _⟩ _ _ _ _); first | (refine RH.boxAgg rfl rfl ?_; rintro _ _ ⟨b3, rfl, rfl⟩) | (refine RH.boxOne rfl rfl ?_; rintro _ _ ⟨b3, rfl, rfl⟩)) | ((with_reducible show RH _ _ _ ⟨some 15, .buildSlice _ _ _, _, _, _, _⟩ _ _ _ _); first | (refine RH.eff rfl rfl (EOpS.e (EOpS.slitV (by ((repeat (first | exact Elts.nil | apply Elts.one1 rfl | apply Elts.agg2 rfl)); done)) (by simp) rfl rfl)) ?_; rintro _ _ ⟨b15, rfl, rfl⟩) | (refine RH.eff rfl rfl (EOpS.e (EOpS.slit (fun t : List Int => [vsl 1 (fun x : Int => [vint x]) t]) _ (fun _ _ => rfl) (by ((repeat (first | exact Elts.nil | (apply Elts.cons; exact rfl; exact CellsOf.one))); done)) rfl rfl)) ?_; rintro _ _ ⟨b15, rfl, rfl⟩)) | ((with_reducible show RH _ _ _ ⟨some 25, .buildSlice _ _ _, _, _, _, _⟩ _ _ _ _); first | (refine RH.eff rfl rfl (EOpS.e (EOpS.slitV (by ((repeat (first | exact Elts.nil | apply Elts.one1 rfl | apply Elts.agg2 rfl)); done)) (by simp) rfl rfl)) ?_; rintro _ _ ⟨b25, rfl, rfl⟩) | (refine RH.eff rfl rfl (EOpS.e (EOpS.slit (fun t : List Int => [vsl 1 (fun x : Int => [vint x]) t]) _ (fun _ _ => rfl) (by ((repeat (first | exact Elts.nil | (apply Elts.cons; exact rfl; exact CellsOf.one))); done)) rfl rfl)) ?_; rintro _ _ ⟨b25, rfl, rfl⟩)) | ((with_reducible show RH _ _ _ ⟨_, .call ⟨.value (.func 102), _, _⟩, _, _, _, _⟩ _ _ _ _); refine RH.cP Try.call102 ?_; refine ⟨_, l8Gens_c n os _ G (by omega) ho hl hr, ?_⟩; rintro _ _ ⟨rfl, rfl⟩) | ((with_reducible show RH _ _ _ _ _ _ _ _); first | refine RH.val (hK := ?_) | refine RH.upd (hK := ?_) | (refine RH.lr (h := ?_); intro u)) | (with_reducible first | refine Run.seq ?_ | refine Run.region ?_ | refine Run.block ?_ | refine Run.skip ?_ | refine Run.exit ?_ | refine Run.ret ?_) | (with_reducible show Run _ _ (.cond _ _ _) _ _ _; first | refine Run.condT rfl ?_ | refine Run.condF rfl ?_ | refine Run.condD rfl (fun h => ?_) (fun h => ?_) | refine Run.condND rfl (fun h => ?_) (fun h => ?_) | refine Run.condNB rfl (fun h => ?_) (fun h => ?_) | refine Run.cond rfl (fun h => ?_) (fun h => ?_)) | (with_reducible first | refine seqN (K := Run _ _ _ _) ?_ | refine seqE ?_ | refine seqR ?_ | refine blockN ?_ | refine blockR ?_ | refine blockE ?_) | (with_reducible refine blockX ?_ ?_; exact rfl))
    all_goals first
      | (exfalso; simp_all; done)
      | (refine ⟨eA, _, [hsl (tS tInt) (vsv (some ⟨b15, 0, none⟩, 0, 0)) []], resA, ?_, ?_⟩
         · exact (SEnt.packNil (tS tInt) rfl).trans (SEnt.ch (.cons .head rfl .nil))
         · exact ⟨_, rfl, rfl⟩)
  | true =>
    obtain ⟨ha, hk, h20, ht⟩ := gsOk_at hg
    have hoo := hoo hg
    obtain ⟨k2, rfl⟩ : ∃ k2 : Nat, k = k2 := ⟨k.toNat, by omega⟩
    rw [Int.toNat_natCast] at ht hoo
    have htup := tupB_iff.1 ht
    refine Spec.of_run2 (n := 27) Try.func53 rfl Try.results53 Try.ntmps53 rfl ?_
    repeat' (first | (with_reducible first | refine RL.done ?_ | refine RL.app0 ?_ | refine RL.app1 ?_ | refine RL.app2 ?_ | refine RL.app3 ?_ | refine RL.app4 ?_) | (with_reducible refine RL.wanted ?_ ?_; exact rfl) | ((with_reducible show RH _ _ _ ⟨some 3, .box _ _, _, _, _, _⟩ _ _ _ _); first | (refine RH.boxAgg rfl rfl ?_; rintro _ _ ⟨b3, rfl, rfl⟩) | (refine RH.boxOne rfl rfl ?_; rintro _ _ ⟨b3, rfl, rfl⟩)) | ((with_reducible show RH _ _ _ ⟨some 15, .buildSlice _ _ _, _, _, _, _⟩ _ _ _ _); first | (refine RH.eff rfl rfl (EOpS.e (EOpS.slitV (by ((repeat (first | exact Elts.nil | apply Elts.one1 rfl | apply Elts.agg2 rfl)); done)) (by simp) rfl rfl)) ?_; rintro _ _ ⟨b15, rfl, rfl⟩) | (refine RH.eff rfl rfl (EOpS.e (EOpS.slit (fun t : List Int => [vsl 1 (fun x : Int => [vint x]) t]) _ (fun _ _ => rfl) (by ((repeat (first | exact Elts.nil | (apply Elts.cons; exact rfl; exact CellsOf.one))); done)) rfl rfl)) ?_; rintro _ _ ⟨b15, rfl, rfl⟩)) | ((with_reducible show RH _ _ _ ⟨some 25, .buildSlice _ _ _, _, _, _, _⟩ _ _ _ _); first | (refine RH.eff rfl rfl (EOpS.e (EOpS.slitV (by ((repeat (first | exact Elts.nil | apply Elts.one1 rfl | apply Elts.agg2 rfl)); done)) (by simp) rfl rfl)) ?_; rintro _ _ ⟨b25, rfl, rfl⟩) | (refine RH.eff rfl rfl (EOpS.e (EOpS.slit (fun t : List Int => [vsl 1 (fun x : Int => [vint x]) t]) _ (fun _ _ => rfl) (by ((repeat (first | exact Elts.nil | (apply Elts.cons; exact rfl; exact CellsOf.one))); done)) rfl rfl)) ?_; rintro _ _ ⟨b25, rfl, rfl⟩)) | ((with_reducible show RH _ _ _ ⟨_, .call ⟨.value (.func 102), _, _⟩, _, _, _, _⟩ _ _ _ _); refine RH.cP Try.call102 ?_; refine ⟨_, l8Gens_c n os _ G (by omega) ho hl hr, ?_⟩; rintro _ _ ⟨rfl, rfl⟩) | ((with_reducible show RH _ _ _ ⟨_, .call ⟨.value (.func 103), _, _⟩, _, _, _, _⟩ _ _ _ _); refine RH.cP Try.call103 ?_; refine ⟨_, l8Close_c n os k2 G ha (by omega) htup (by omega), ?_⟩; rintro _ _ ⟨X, s20, rfl, rfl, hX⟩) | ((with_reducible show RH _ _ _ _ _ _ _ _); first | refine RH.val (hK := ?_) | refine RH.upd (hK := ?_) | (refine RH.lr (h := ?_); intro u)) | (with_reducible first | refine Run.seq ?_ | refine Run.region ?_ | refine Run.block ?_ | refine Run.skip ?_ | refine Run.exit ?_ | refine Run.ret ?_) | (with_reducible show Run _ _ (.cond _ _ _) _ _ _; first | refine Run.condT rfl ?_ | refine Run.condF rfl ?_ | refine Run.condD rfl (fun h => ?_) (fun h => ?_) | refine Run.condND rfl (fun h => ?_) (fun h => ?_) | refine Run.condNB rfl (fun h => ?_) (fun h => ?_) | refine Run.cond rfl (fun h => ?_) (fun h => ?_)) | (with_reducible first | refine seqN (K := Run _ _ _ _) ?_ | refine seqE ?_ | refine seqR ?_ | refine blockN ?_ | refine blockR ?_ | refine blockE ?_) | (with_reducible refine blockX ?_ ?_; exact rfl))
    all_goals first
      | (exfalso; simp_all; done)
      | skip
    all_goals rcases gen_yes hoo hX with ⟨h5, h6⟩ | ⟨h5, h6⟩
    all_goals first
      | (exfalso; omega)
      | (refine ⟨eA, _, [hsl (tS tInt) (vsv s20) X], resA, ?_, ?_⟩
         · exact SEnt.ch chA
         · exact ⟨s20, by rw [h6]; rfl, by rw [h6]; rfl⟩)
      | (refine ⟨eA, _, [hsl (tS tInt) (vsv (some ⟨b25, 0, none⟩, 0, 0)) []], resA, ?_, ?_⟩
         · exact (SEnt.packNil (tS tInt) rfl).trans (SEnt.ch (.cons .head rfl .nil))
         · exact ⟨(some ⟨b25, 0, none⟩, 0, 0), by rw [h6]; rfl, by rw [h6]; rfl⟩)
set_option maxRecDepth 10000 in
set_option maxHeartbeats 2000000 in
theorem implGen_c (n : Int) (os : List (Int × List Int)) (k : Int) (G : List (List Int)) (o : Option (List (List Int))) (hoo : gsOk n os k G = true → GenIs n os k.toNat G o) (hol : os.length ≤ 4611686018427387904) (ho : OpsLen os) (hl : G.length ≤ 4398046511104) (hr : ∀ t ∈ G, t.length ≤ 4611686018427387904) :
    Spec Try.prog 54 [vagg [vint n, vsl 2 (fun y : Int × (List Int) => [vint y.1, vsl 1 (fun x : Int => [vint x]) y.2]) os], vint k, vsl 1 (fun t : List Int => [vsl 1 (fun x : Int => [vint x]) t]) G] [] (GenRes (genO (gsOk n os k G) o)) := by
  cases hg : gsOk n os k G with
  | false =>
    refine Spec.of_run2 (n := 31) Try.func54 rfl Try.results54 Try.ntmps54 rfl ?_
    repeat' (first | (with_reducible first | refine RL.done ?_ | refine RL.app0 ?_ | refine RL.app1 ?_ | refine RL.app2 ?_ | refine RL.app3 ?_ | refine RL.app4 ?_) | (with_reducible refine RL.wanted ?_ ?_; exact rfl) | ((with_reducible show RH _ _ _ ⟨some 3, .box _ _, _, _, _, _⟩ _ _ _ _); first | (refine RH.boxAgg rfl rfl ?_; rintro _ _ ⟨b3, rfl, rfl⟩) | (refine RH.boxOne rfl rfl ?_; rintro _ _ ⟨b3, rfl, rfl⟩)) | ((with_reducible show RH _ _ _ ⟨some 15, .buildSlice _ _ _, _, _, _, _⟩ _ _ _ _); first | (refine RH.eff rfl rfl (EOpS.e (EOpS.slitV (by ((repeat (first | exact Elts.nil | apply Elts.one1 rfl | apply Elts.agg2 rfl)); done)) (by simp) rfl rfl)) ?_; rintro _ _ ⟨b15, rfl, rfl⟩) | (refine RH.eff rfl rfl (EOpS.e (EOpS.slit (fun t : List Int => [vsl 1 (fun x : Int => [vint x]) t]) _ (fun _ _ => rfl) (by ((repeat (first | exact Elts.nil | (apply Elts.cons; exact rfl; exact CellsOf.one))); done)) rfl rfl)) ?_; rintro _ _ ⟨b15, rfl, rfl⟩)) | ((with_reducible show RH _ _ _ ⟨some 25, .buildSlice _ _ _, _, _, _, _⟩ _ _ _ _); first | (refine RH.eff rfl rfl (EOpS.e (EOpS.slitV (by ((repeat (first | exact Elts.nil | apply Elts.one1 rfl | apply Elts.agg2 rfl)); done)) (by simp) rfl rfl)) ?_; rintro _ _ ⟨b25, rfl, rfl⟩) | (refine RH.eff rfl rfl (EOpS.e (EOpS.slit (fun t : List Int => [vsl 1 (fun x : Int => [vint x]) t]) _ (fun _ _ => rfl) (by ((repeat (first | exact Elts.nil | (apply Elts.cons; exact rfl; exact CellsOf.one))); done)) rfl rfl)) ?_; rintro _ _ ⟨b25, rfl, rfl⟩)) | ((with_reducible show RH _ _ _ ⟨_, .call ⟨.value (.func 104), _, _⟩, _, _, _, _⟩ _ _ _ _); refine RH.cP Try.call104 ?_; refine ⟨_, areGens_c n os _ G (by omega) ho hl hr, ?_⟩; rintro _ _ ⟨rfl, rfl⟩) | ((with_reducible show RH _ _ _ _ _ _ _ _); first | refine RH.val (hK := ?_) | refine RH.upd (hK := ?_) | (refine RH.lr (h := ?_); intro u)) | (with_reducible first | refine Run.seq ?_ | refine Run.region ?_ | refine Run.block ?_ | refine Run.skip ?_ | refine Run.exit ?_ | refine Run.ret ?_) | (with_reducible show Run _ _ (.cond _ _ _) _ _ _; first | refine Run.condT rfl ?_ | refine Run.condF rfl ?_ | refine Run.condD rfl (fun h => ?_) (fun h => ?_) | refine Run.condND rfl (fun h => ?_) (fun h => ?_) | refine Run.condNB rfl (fun h => ?_) (fun h => ?_) | refine Run.cond rfl (fun h => ?_) (fun h => ?_)) | (with_reducible first | refine seqN (K := Run _ _ _ _) ?_ | refine seqE ?_ | refine seqR ?_ | refine blockN ?_ | refine blockR ?_ | refine blockE ?_) | (with_reducible refine blockX ?_ ?_; exact rfl))
    all_goals first
      | (exfalso; simp_all; done)
      | (refine ⟨eA, _, [hsl (tS tInt) (vsv (some ⟨b15, 0, none⟩, 0, 0)) []], resA, ?_, ?_⟩
         · exact (SEnt.packNil (tS tInt) rfl).trans (SEnt.ch (.cons .head rfl .nil))
         · exact ⟨_, rfl, rfl⟩)
  | true =>
    obtain ⟨ha, hk, h20, ht⟩ := gsOk_at hg
    have hoo := hoo hg
    have hmost := mostV_le os
    obtain ⟨k2, rfl⟩ : ∃ k2 : Nat, k = k2 := ⟨k.toNat, by omega⟩
    rw [Int.toNat_natCast] at ht hoo
    have htup := tupB_iff.1 ht
    refine Spec.of_run2 (n := 31) Try.func54 rfl Try.results54 Try.ntmps54 rfl ?_
    repeat' (first | (with_reducible first | refine RL.done ?_ | refine RL.app0 ?_ | refine RL.app1 ?_ | refine RL.app2 ?_ | refine RL.app3 ?_ | refine RL.app4 ?_) | (with_reducible refine RL.wanted ?_ ?_; exact rfl) | ((with_reducible show RH _ _ _ ⟨some 3, .box _ _, _, _, _, _⟩ _ _ _ _); first | (refine RH.boxAgg rfl rfl ?_; rintro _ _ ⟨b3, rfl, rfl⟩) | (refine RH.boxOne rfl rfl ?_; rintro _ _ ⟨b3, rfl, rfl⟩)) | ((with_reducible show RH _ _ _ ⟨some 15, .buildSlice _ _ _, _, _, _, _⟩ _ _ _ _); first | (refine RH.eff rfl rfl (EOpS.e (EOpS.slitV (by ((repeat (first | exact Elts.nil | apply Elts.one1 rfl | apply Elts.agg2 rfl)); done)) (by simp) rfl rfl)) ?_; rintro _ _ ⟨b15, rfl, rfl⟩) | (refine RH.eff rfl rfl (EOpS.e (EOpS.slit (fun t : List Int => [vsl 1 (fun x : Int => [vint x]) t]) _ (fun _ _ => rfl) (by ((repeat (first | exact Elts.nil | (apply Elts.cons; exact rfl; exact CellsOf.one))); done)) rfl rfl)) ?_; rintro _ _ ⟨b15, rfl, rfl⟩)) | ((with_reducible show RH _ _ _ ⟨some 25, .buildSlice _ _ _, _, _, _, _⟩ _ _ _ _); first | (refine RH.eff rfl rfl (EOpS.e (EOpS.slitV (by ((repeat (first | exact Elts.nil | apply Elts.one1 rfl | apply Elts.agg2 rfl)); done)) (by simp) rfl rfl)) ?_; rintro _ _ ⟨b25, rfl, rfl⟩) | (refine RH.eff rfl rfl (EOpS.e (EOpS.slit (fun t : List Int => [vsl 1 (fun x : Int => [vint x]) t]) _ (fun _ _ => rfl) (by ((repeat (first | exact Elts.nil | (apply Elts.cons; exact rfl; exact CellsOf.one))); done)) rfl rfl)) ?_; rintro _ _ ⟨b25, rfl, rfl⟩)) | ((with_reducible show RH _ _ _ ⟨_, .call ⟨.value (.func 104), _, _⟩, _, _, _, _⟩ _ _ _ _); refine RH.cP Try.call104 ?_; refine ⟨_, areGens_c n os _ G (by omega) ho hl hr, ?_⟩; rintro _ _ ⟨rfl, rfl⟩) | ((with_reducible show RH _ _ _ ⟨_, .call ⟨.value (.func 105), _, _⟩, _, _, _, _⟩ _ _ _ _); refine RH.cP Try.call105 ?_; refine ⟨_, spanOf_c n os k2 G ha (by omega) htup (by omega), ?_⟩; rintro _ _ (⟨L, b, bm, s, rfl, rfl, hyes⟩ | ⟨rfl, rfl, hno⟩)) | ((with_reducible show RH _ _ _ _ _ _ _ _); first | refine RH.val (hK := ?_) | refine RH.upd (hK := ?_) | (refine RH.lr (h := ?_); intro u)) | (with_reducible first | refine Run.seq ?_ | refine Run.region ?_ | refine Run.block ?_ | refine Run.skip ?_ | refine Run.exit ?_ | refine Run.ret ?_) | (with_reducible show Run _ _ (.cond _ _ _) _ _ _; first | refine Run.condT rfl ?_ | refine Run.condF rfl ?_ | refine Run.condD rfl (fun h => ?_) (fun h => ?_) | refine Run.condND rfl (fun h => ?_) (fun h => ?_) | refine Run.condNB rfl (fun h => ?_) (fun h => ?_) | refine Run.cond rfl (fun h => ?_) (fun h => ?_)) | (with_reducible first | refine seqN (K := Run _ _ _ _) ?_ | refine seqE ?_ | refine seqR ?_ | refine blockN ?_ | refine blockR ?_ | refine blockE ?_) | (with_reducible refine blockX ?_ ?_; exact rfl))
    all_goals first
      | (exfalso; simp_all; done)
      | (have h6 := gen_no hoo hno
         refine ⟨eA, _, [hsl (tS tInt) (vsv (some ⟨b25, 0, none⟩, 0, 0)) []], resA, ?_, ?_⟩
         · exact (SEnt.packNil (tS tInt) rfl).trans (SEnt.ch (.cons .head rfl .nil))
         · exact ⟨(some ⟨b25, 0, none⟩, 0, 0), by rw [h6]; rfl, by rw [h6]; rfl⟩)
      | skip
    have hle := hyes.2.2
    have hLr : ∀ t ∈ L, t.length ≤ 1048576 := fun t h => by
      have := (((hyes.2.1 t).1 h).ok ha (by omega) htup).1
      omega
    have h6 := gen_span ha (by omega) htup hoo hyes
    have hLk : ∀ t ∈ L, t.length = k2 := fun t h => (((hyes.2.1 t).1 h).ok ha (by omega) htup).1
    repeat' (first | (with_reducible first | refine RL.done ?_ | refine RL.app0 ?_ | refine RL.app1 ?_ | refine RL.app2 ?_ | refine RL.app3 ?_ | refine RL.app4 ?_) | (with_reducible refine RL.wanted ?_ ?_; exact rfl) | ((with_reducible show RH _ _ _ ⟨some 3, .box _ _, _, _, _, _⟩ _ _ _ _); first | (refine RH.boxAgg rfl rfl ?_; rintro _ _ ⟨b3, rfl, rfl⟩) | (refine RH.boxOne rfl rfl ?_; rintro _ _ ⟨b3, rfl, rfl⟩)) | ((with_reducible show RH _ _ _ ⟨some 15, .buildSlice _ _ _, _, _, _, _⟩ _ _ _ _); first | (refine RH.eff rfl rfl (EOpS.e (EOpS.slitV (by ((repeat (first | exact Elts.nil | apply Elts.one1 rfl | apply Elts.agg2 rfl)); done)) (by simp) rfl rfl)) ?_; rintro _ _ ⟨b15, rfl, rfl⟩) | (refine RH.eff rfl rfl (EOpS.e (EOpS.slit (fun t : List Int => [vsl 1 (fun x : Int => [vint x]) t]) _ (fun _ _ => rfl) (by ((repeat (first | exact Elts.nil | (apply Elts.cons; exact rfl; exact CellsOf.one))); done)) rfl rfl)) ?_; rintro _ _ ⟨b15, rfl, rfl⟩)) | ((with_reducible show RH _ _ _ ⟨some 25, .buildSlice _ _ _, _, _, _, _⟩ _ _ _ _); first | (refine RH.eff rfl rfl (EOpS.e (EOpS.slitV (by ((repeat (first | exact Elts.nil | apply Elts.one1 rfl | apply Elts.agg2 rfl)); done)) (by simp) rfl rfl)) ?_; rintro _ _ ⟨b25, rfl, rfl⟩) | (refine RH.eff rfl rfl (EOpS.e (EOpS.slit (fun t : List Int => [vsl 1 (fun x : Int => [vint x]) t]) _ (fun _ _ => rfl) (by ((repeat (first | exact Elts.nil | (apply Elts.cons; exact rfl; exact CellsOf.one))); done)) rfl rfl)) ?_; rintro _ _ ⟨b25, rfl, rfl⟩)) | ((with_reducible show RH _ _ _ ⟨_, .call ⟨.value (.func 106), _, _⟩, _, _, _, _⟩ _ _ _ _); refine RH.cL Try.call106 ?_; apply Exists.intro; apply And.intro; (focus ((repeat (first | exact LVs.nil | (apply LVs.sl; (with_reducible repeat (first | exact Has.head | apply Has.tail)); exact inferInstance; exact rfl) | (apply LVs.arr; (with_reducible repeat (first | exact Has.head | apply Has.tail)); (first | exact rfl | omega | simp); exact rfl) | (apply LVs.cut; (with_reducible repeat (first | exact Has.head | apply Has.tail)); exact inferInstance; exact rfl; first | omega | (simp; omega)) | apply LVs.agg | apply LVs.refl)); done)); refine ⟨_, sortedTuples_c L (by omega) hLr, (by intro r H h; first | (obtain ⟨rfl, rfl⟩ := h; exact ⟨inferInstance, inferInstance⟩) | (obtain ⟨_, rfl, rfl⟩ := h; exact ⟨inferInstance, inferInstance⟩) | (obtain ⟨_, _, rfl, rfl⟩ := h; exact ⟨inferInstance, inferInstance⟩) | (obtain ⟨_, _, rfl, rfl, _⟩ := h; exact ⟨inferInstance, inferInstance⟩)), ?_⟩; rintro _ _ ⟨s30, ys, rfl, rfl, hm⟩; refine RL.nm ?_) | ((with_reducible show RH _ _ _ _ _ _ _ _); first | refine RH.val (hK := ?_) | refine RH.upd (hK := ?_) | (refine RH.lr (h := ?_); intro u)) | (with_reducible first | refine Run.seq ?_ | refine Run.region ?_ | refine Run.block ?_ | refine Run.skip ?_ | refine Run.exit ?_ | refine Run.ret ?_) | (with_reducible show Run _ _ (.cond _ _ _) _ _ _; first | refine Run.condT rfl ?_ | refine Run.condF rfl ?_ | refine Run.condD rfl (fun h => ?_) (fun h => ?_) | refine Run.condND rfl (fun h => ?_) (fun h => ?_) | refine Run.condNB rfl (fun h => ?_) (fun h => ?_) | refine Run.cond rfl (fun h => ?_) (fun h => ?_)) | (with_reducible first | refine seqN (K := Run _ _ _ _) ?_ | refine seqE ?_ | refine seqR ?_ | refine blockN ?_ | refine blockR ?_ | refine blockE ?_) | (with_reducible refine blockX ?_ ?_; exact rfl))
    all_goals
      have e : ys = putF L := by
        have h1 := dif_put hLk hm
        have h2 := difN_sub id ys
        have h3 : (difN id ys ys.length).length = ys.length := by
          rw [h1, hm.mv.len]
          exact Nat.le_antisymm (putF_le L) (nodup_le hyes.1 (fun t ht => ((putF_str hLk).2 t).2 ht))
        rw [← h1]
        exact (h2.eq_of_length h3).symm
      refine ⟨eA, _, [hsl (tS tInt) (vsv s30) (putF L)], resA, ?_, ?_⟩
      · exact SEnt.ch (.cons .head (by rw [e]) .nil)
      · exact ⟨s30, by rw [h6]; rfl, by rw [h6]; rfl⟩
end Go.Proofs.Ytodlpdedldhebaa
