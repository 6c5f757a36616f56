/- Contracts for the laws of relations: their answers are frozen; laws.vBig, vInts, vTable, vRelation of the same values answer true. Proved for this program; conditions: relations of at most 700 tuples. -/
import Derived.Test.YtiifdhdhjioefaaDrE
import Derived.Test.YtiifdhdhjioefaaRlsP
namespace Go.Proofs.Ytiifdhdhjioefaa
open Go Go.Proofs
set_option linter.unusedVariables false
theorem Spec.frzAg {f : FuncId} {args : List VP} {a : Int} {o : Bool} {X : List (List Int)} (h : Spec Try.prog f args [] (fun r S' => ∃ s : Sv, r = vtup [vagg [vint a, vlit (vsv s)], vbool o] ∧ S' = [hsl (tS tInt) (vsv s) X])) :
    Spec Try.prog f args [] (fun r S' => r = vtup [vagg [vint a, vsl 1 (fun t : List Int => [vsl 1 (fun x : Int => [vint x]) t]) X], vbool o] ∧ S' = []) := by
  refine Spec.frzUp h ?_
  rintro q S' ⟨s, rfl, rfl⟩
  exact ⟨_, tS tInt, _, inferInstance, vsv s, X, _, _, .head, .tup (.cons (.agg (.cons .keep (.cons .hit .nil))) (.cons .keep .nil)), rfl, rfl⟩
set_option maxRecDepth 10000 in
theorem vBig_c (code : List Int) : Spec Try.prog 8 [vbytes code] [] (fun r S' => r = vbool (decide ((65536 : Int) < (code.length : Int))) ∧ S' = []) := by
  refine Spec.of_run2 (n := 6) Try.func8 rfl Try.results8 Try.ntmps8 rfl ?_
  repeat' (first | (with_reducible refine RL.done ?_) | (with_reducible refine RL.wanted ?_ ?_; exact rfl) | ((with_reducible show RH _ _ _ _ _ _ _ _); refine RH.val (hK := ?_)) | (with_reducible first | refine Run.seq ?_ | refine Run.region ?_ | refine Run.ret ?_) | (with_reducible refine seqN (K := Run _ _ _ _) ?_))
  all_goals first
    | (refine ⟨eA, _, [], resA, .ch .nil, ?_⟩; exact ⟨rfl, rfl⟩)
    | trace_state
set_option maxRecDepth 10000 in
theorem vInts_c (t : List Int) (ht : t.length ≤ 4611686018427387904) : Spec Try.prog 135 [vsl 1 (fun x : Int => [vint x]) t, vsl 1 (fun x : Int => [vint x]) t] [] (fun r S' => r = vbool true ∧ S' = []) := by
  refine Spec.of_run2 (n := 26) Try.func135 rfl Try.results135 Try.ntmps135 rfl ?_
  repeat' (first | (with_reducible refine RL.done ?_) | (with_reducible refine RL.wanted ?_ ?_; exact rfl) | ((with_reducible show RH _ _ _ _ _ _ _ _); refine RH.val (hK := ?_)) | (with_reducible first | refine Run.seq ?_ | refine Run.region ?_ | refine Run.block ?_ | refine Run.skip ?_ | refine Run.ret ?_) | (with_reducible show Run _ _ (.cond _ _ _) _ _ _; refine Run.condD rfl (fun h => ?_) (fun h => ?_)) | (with_reducible first | refine seqN (K := Run _ _ _ _) ?_ | refine seqR ?_))
  all_goals first
    | (exfalso; simp_all; done)
    | skip
  refine Run.loop (α := Nat) (fun i => [(0, vsl 1 (fun x : Int => [vint x]) t), (1, vsl 1 (fun x : Int => [vint x]) t), (5, vint (i : Int))]) (fun _ => []) (fun i => i ≤ t.length) (fun i => t.length - i) 0 (Nat.zero_le _) (Ent.of slA .nil) ?_
  intro i hi
  rcases Nat.lt_or_eq_of_le hi with h9 | h9
  · repeat' (first | (with_reducible refine RL.done ?_) | (with_reducible refine RL.wanted ?_ ?_; exact rfl) | ((with_reducible show Run _ _ (.region 6 _ true) _ _ _); refine Run.regionD (fun i => false) rfl ?_; change RD _ _ _ _ _ _ 9 (dm 9 0) _ _) | ((with_reducible show RD _ _ 6 _ _ _ _ _ _ _); first | ((with_reducible show RD _ _ _ _ _ _ _ (dm 9 0) _ _); refine RD.tk 0 (dm 9 268) (dm 9 1) (hK := ?_)) | ((with_reducible show RD _ _ _ _ _ _ _ (dm 9 1) _ _); refine RD.tk 1 (dm 9 268) (dm 9 3) (hK := ?_)) | ((with_reducible show RD _ _ _ _ _ _ _ (dm 9 3) _ _); refine RD.tk 2 (dm 9 264) (dm 9 7) (hK := ?_)) | ((with_reducible show RD _ _ _ _ _ _ _ (dm 9 7) _ _); refine RD.tk 3 (dm 9 256) (dm 9 15) (hK := ?_)) | ((with_reducible show RD _ _ _ _ _ _ _ (dm 9 15) _ _); refine RD.tk 4 (dm 9 448) (dm 9 31) (hK := ?_)) | ((with_reducible show RD _ _ _ _ _ _ _ (dm 9 31) _ _); refine RD.tk 5 (dm 9 448) (dm 9 63) (hK := ?_)) | ((with_reducible show RD _ _ _ _ _ _ _ (dm 9 63) _ _); refine RD.tk 6 (dm 9 384) (dm 9 127) (hK := ?_)) | ((with_reducible show RD _ _ _ _ _ _ _ (dm 9 127) _ _); refine RD.tk 7 (dm 9 256) (dm 9 255) (hK := ?_)) | ((with_reducible show RD _ _ _ _ _ _ _ (dm 9 255) _ _); refine RD.tk 8 (dm 9 0) (dm 9 511) (hK := ?_)) | ((with_reducible show RD _ _ _ _ _ _ 0 _ _ _); refine RD.done (by kernel_rfl) ?_)) | ((with_reducible show RH _ _ _ _ _ _ _ _); refine RH.val (hK := ?_)) | (with_reducible first | refine Run.seq ?_ | refine Run.region ?_ | refine Run.block ?_ | refine Run.skip ?_ | refine Run.exit ?_ | refine Run.ret ?_) | (with_reducible show Run _ _ (.cond _ _ _) _ _ _; refine Run.condD rfl (fun h => ?_) (fun h => ?_)) | (with_reducible first | refine seqN (K := Run _ _ _ _) ?_ | refine seqE ?_ | refine seqR ?_ | refine blockN ?_ | refine blockR ?_ | refine blockE ?_))
    all_goals first
      | (exfalso; omega)
      | (exfalso; simp_all; done)
      | (with_reducible refine seqN ?_
         exact ⟨i + 1, by omega, by omega, Ent.of slA .nil⟩)
      | trace_state
  · repeat' (first | (with_reducible refine RL.done ?_) | (with_reducible refine RL.wanted ?_ ?_; exact rfl) | ((with_reducible show RH _ _ _ _ _ _ _ _); refine RH.val (hK := ?_)) | (with_reducible first | refine Run.seq ?_ | refine Run.region ?_ | refine Run.block ?_ | refine Run.skip ?_ | refine Run.exit ?_ | refine Run.ret ?_) | (with_reducible show Run _ _ (.cond _ _ _) _ _ _; refine Run.condD rfl (fun h => ?_) (fun h => ?_)) | (with_reducible first | refine seqN (K := Run _ _ _ _) ?_ | refine seqE ?_ | refine blockE ?_))
    all_goals first
      | (exfalso; omega)
      | (refine ⟨eA, _, [], resA, .ch .nil, ?_⟩; exact ⟨rfl, rfl⟩)
      | trace_state
set_option maxRecDepth 10000 in
theorem vTable_c (T : List (List Int)) (hT : T.length ≤ 4611686018427387904) (hL : ∀ t ∈ T, t.length ≤ 4611686018427387904) : Spec Try.prog 72 [vsl 1 (fun t : List Int => [vsl 1 (fun x : Int => [vint x]) t]) T, vsl 1 (fun t : List Int => [vsl 1 (fun x : Int => [vint x]) t]) T] [] (fun r S' => r = vbool true ∧ S' = []) := by
  refine Spec.of_run2 (n := 27) Try.func72 rfl Try.results72 Try.ntmps72 rfl ?_
  repeat' (first | (with_reducible refine RL.done ?_) | (with_reducible refine RL.wanted ?_ ?_; exact rfl) | ((with_reducible show RH _ _ _ _ _ _ _ _); refine RH.val (hK := ?_)) | (with_reducible first | refine Run.seq ?_ | refine Run.region ?_ | refine Run.block ?_ | refine Run.skip ?_ | refine Run.ret ?_) | (with_reducible show Run _ _ (.cond _ _ _) _ _ _; refine Run.condD rfl (fun h => ?_) (fun h => ?_)) | (with_reducible first | refine seqN (K := Run _ _ _ _) ?_ | refine seqR ?_))
  all_goals first
    | (exfalso; simp_all; done)
    | skip
  refine Run.loop (α := Nat) (fun i => [(0, vsl 1 (fun t : List Int => [vsl 1 (fun x : Int => [vint x]) t]) T), (1, vsl 1 (fun t : List Int => [vsl 1 (fun x : Int => [vint x]) t]) T), (5, vint (i : Int))]) (fun _ => []) (fun i => i ≤ T.length) (fun i => T.length - i) 0 (Nat.zero_le _) (Ent.of slA .nil) ?_
  intro i hi
  rcases Nat.lt_or_eq_of_le hi with h9 | h9
  · repeat' (first | (with_reducible first | refine RL.done ?_ | refine RD.app0 ?_) | (with_reducible refine RL.wanted ?_ ?_; exact rfl) | ((with_reducible show Run _ _ (.region 6 _ true) _ _ _); refine Run.regionD (fun i => false) rfl ?_; change RD _ _ _ _ _ _ 10 (dm 10 0) _ _) | ((with_reducible show RD _ _ 6 _ _ _ _ _ _ _); first | ((with_reducible show RD _ _ _ _ _ _ _ (dm 10 0) _ _); refine RD.tk 0 (dm 10 780) (dm 10 1) (hK := ?_)) | ((with_reducible show RD _ _ _ _ _ _ _ (dm 10 1) _ _); refine RD.tk 1 (dm 10 780) (dm 10 3) (hK := ?_)) | ((with_reducible show RD _ _ _ _ _ _ _ (dm 10 3) _ _); refine RD.tk 2 (dm 10 776) (dm 10 7) (hK := ?_)) | ((with_reducible show RD _ _ _ _ _ _ _ (dm 10 7) _ _); refine RD.tk 3 (dm 10 768) (dm 10 15) (hK := ?_)) | ((with_reducible show RD _ _ _ _ _ _ _ (dm 10 15) _ _); refine RD.tk 4 (dm 10 960) (dm 10 31) (hK := ?_)) | ((with_reducible show RD _ _ _ _ _ _ _ (dm 10 31) _ _); refine RD.tk 5 (dm 10 960) (dm 10 63) (hK := ?_)) | ((with_reducible show RD _ _ _ _ _ _ _ (dm 10 63) _ _); refine RD.tk 6 (dm 10 896) (dm 10 127) (hK := ?_)) | ((with_reducible show RD _ _ _ _ _ _ _ (dm 10 127) _ _); refine RD.tk 7 (dm 10 768) (dm 10 255) (hK := ?_)) | ((with_reducible show RD _ _ _ _ _ _ _ (dm 10 255) _ _); refine RD.a1 8 ?_) | ((with_reducible show RD _ _ _ _ _ _ _ (dm 10 511) _ _); refine RD.tk 9 (dm 10 0) (dm 10 1023) (hK := ?_)) | ((with_reducible show RD _ _ _ _ _ _ 0 _ _ _); refine RD.done (by kernel_rfl) ?_)) | ((with_reducible show RO _ _ 6 _ _ _ _ _ _ _ _); ((with_reducible show RO _ _ _ _ _ _ _ (dm 10 255) 8 _ _); (refine RO.cP (dm 10 511) Try.call135 ?_; refine ⟨_, vInts_c (T[i]'(by omega)) (by have := hL _ (List.getElem_mem (show i < T.length by omega)); omega), ?_⟩; rintro _ _ ⟨rfl, rfl⟩))) | ((with_reducible show RH _ _ _ _ _ _ _ _); refine RH.val (hK := ?_)) | (with_reducible first | refine Run.seq ?_ | refine Run.region ?_ | refine Run.block ?_ | refine Run.skip ?_ | refine Run.exit ?_ | refine Run.ret ?_) | (with_reducible show Run _ _ (.cond _ _ _) _ _ _; first | refine Run.condF rfl ?_ | refine Run.condD rfl (fun h => ?_) (fun h => ?_)) | (with_reducible first | refine seqN (K := Run _ _ _ _) ?_ | refine seqE ?_ | refine blockN ?_ | refine blockE ?_))
    all_goals first
      | (exfalso; omega)
      | (exfalso; simp_all; done)
      | (with_reducible refine seqN ?_
         exact ⟨i + 1, by omega, by omega, Ent.of slA .nil⟩)
      | trace_state
  · repeat' (first | (with_reducible refine RL.done ?_) | (with_reducible refine RL.wanted ?_ ?_; exact rfl) | ((with_reducible show RH _ _ _ _ _ _ _ _); refine RH.val (hK := ?_)) | (with_reducible first | refine Run.seq ?_ | refine Run.region ?_ | refine Run.block ?_ | refine Run.skip ?_ | refine Run.exit ?_ | refine Run.ret ?_) | (with_reducible show Run _ _ (.cond _ _ _) _ _ _; refine Run.condD rfl (fun h => ?_) (fun h => ?_)) | (with_reducible first | refine seqN (K := Run _ _ _ _) ?_ | refine seqE ?_ | refine blockE ?_))
    all_goals first
      | (exfalso; omega)
      | (refine ⟨eA, _, [], resA, .ch .nil, ?_⟩; exact ⟨rfl, rfl⟩)
      | trace_state
set_option maxRecDepth 10000 in
theorem vRelation_c (a : Int) (T : List (List Int)) (hT : T.length ≤ 4611686018427387904) (hL : ∀ t ∈ T, t.length ≤ 4611686018427387904) : Spec Try.prog 12 [vagg [vint a, vsl 1 (fun t : List Int => [vsl 1 (fun x : Int => [vint x]) t]) T], vagg [vint a, vsl 1 (fun t : List Int => [vsl 1 (fun x : Int => [vint x]) t]) T]] [] (fun r S' => r = vbool true ∧ S' = []) := by
  refine Spec.of_run2 (n := 17) Try.func12 rfl Try.results12 Try.ntmps12 rfl ?_
  repeat' (first | (with_reducible first | refine RL.done ?_ | refine RL.app0 ?_) | (with_reducible refine RL.wanted ?_ ?_; exact rfl) | ((with_reducible show RH _ _ _ ⟨some 2, .box _ _, _, _, _, _⟩ _ _ _ _); (refine RH.boxAgg rfl rfl ?_; rintro _ _ ⟨b2, rfl, rfl⟩)) | ((with_reducible show RH _ _ _ ⟨some 3, .box _ _, _, _, _, _⟩ _ _ _ _); (refine RH.boxAgg rfl rfl ?_; rintro _ _ ⟨b3, rfl, rfl⟩)) | ((with_reducible show RH _ _ _ ⟨_, .call ⟨.value (.func 72), _, _⟩, _, _, _, _⟩ _ _ _ _); refine RH.cP Try.call72 ?_; refine ⟨_, vTable_c T hT hL, ?_⟩; rintro _ _ ⟨rfl, rfl⟩) | ((with_reducible show RH _ _ _ _ _ _ _ _); refine RH.val (hK := ?_)) | (with_reducible show RL _ _ _ (_ :: _) _ _ _; first | refine RL.guardYes rfl rfl rfl rfl ?_ | refine RL.guardNoS rfl rfl rfl rfl rfl rfl ?_ | refine RL.splitD rfl rfl rfl (fun h => ?_) (fun h => ?_)) | (with_reducible first | refine Run.seq ?_ | refine Run.region ?_ | refine Run.ret ?_) | (with_reducible refine seqN (K := Run _ _ _ _) ?_))
  all_goals first
    | (exfalso; simp_all; done)
    | (refine ⟨eA, _, [], resA, .ch .nil, ?_⟩; exact ⟨rfl, rfl⟩)
    | trace_state
set_option maxRecDepth 10000 in
theorem hasIn_c (n a : Int) (xs : List (List Int)) (t : List Int) (hD : DrRel a xs) (hok : relOk n a xs = true) (hin : t ∈ xs) :
    Spec Try.prog 17 [vint n, vagg [vint a, vsl 1 (fun t : List Int => [vsl 1 (fun x : Int => [vint x]) t]) xs], vsl 1 (fun x : Int => [vint x]) t] [] (fun r S' => r = vtup [vbool true, vbool true] ∧ S' = []) := by
  obtain ⟨_, hx7, hL⟩ := hD
  have hLr : ∀ u ∈ xs, u.length ≤ 4611686018427387904 := fun u hu => by have := hL u hu; omega
  refine Spec.of_run2 (n := 25) Try.func17 rfl Try.results17 Try.ntmps17 rfl ?_
  repeat' (first | (with_reducible first | refine RL.done ?_ | refine RL.app0 ?_) | (with_reducible refine RL.wanted ?_ ?_; exact rfl) | ((with_reducible show RH _ _ _ ⟨some 4, .box _ _, _, _, _, _⟩ _ _ _ _); (refine RH.boxAgg rfl rfl ?_; rintro _ _ ⟨b4, rfl, rfl⟩)) | ((with_reducible show RH _ _ _ ⟨_, .call ⟨.value (.func 67), _, _⟩, _, _, _, _⟩ _ _ _ _); refine RH.cP Try.call67 ?_; refine ⟨_, hasRelation_c _ _ _ (by omega) (fun t ht => by have := hL t ht; omega), ?_⟩; rintro _ _ ⟨rfl, rfl⟩) | ((with_reducible show RH _ _ _ _ _ _ _ _); refine RH.val (hK := ?_)) | (with_reducible first | refine Run.seq ?_ | refine Run.region ?_ | refine Run.block ?_ | refine Run.skip ?_ | refine Run.ret ?_) | (with_reducible show Run _ _ (.cond _ _ _) _ _ _; refine Run.condNB rfl (fun h => ?_) (fun h => ?_)) | (with_reducible first | refine seqN (K := Run _ _ _ _) ?_ | refine seqR ?_))
  all_goals first
    | (exfalso; simp_all; done)
    | skip
  refine Run.loop (α := Nat) (fun j => [(2, vsl 1 (fun x : Int => [vint x]) t), (15, vsl 1 (fun t : List Int => [vsl 1 (fun x : Int => [vint x]) t]) xs), (16, vint (xs.length : Int)), (17, vint (j : Int))]) (fun _ => []) (fun j => j ≤ xs.length ∧ t ∉ xs.take j) (fun j => xs.length - j) 0 (by simp) (Ent.of slA .nil) ?_
  rintro j ⟨hj, hn⟩
  rcases Nat.lt_or_eq_of_le hj with h9 | h9
  · repeat' (first | (with_reducible first | refine RL.done ?_ | refine RL.app0 ?_) | (with_reducible refine RL.wanted ?_ ?_; exact rfl) | ((with_reducible show RH _ _ _ ⟨_, .call ⟨.value (.func 80), _, _⟩, _, _, _, _⟩ _ _ _ _); refine RH.cP Try.call80 ?_; refine ⟨_, sameList_c _ _ (hLr _ (List.getElem_mem _)), ?_⟩; rintro _ _ ⟨rfl, rfl⟩) | ((with_reducible show RH _ _ _ _ _ _ _ _); refine RH.val (hK := ?_)) | (with_reducible first | refine Run.seq ?_ | refine Run.region ?_ | refine Run.block ?_ | refine Run.skip ?_ | refine Run.exit ?_ | refine Run.ret ?_) | (with_reducible show Run _ _ (.cond _ _ _) _ _ _; refine Run.condD rfl (fun h => ?_) (fun h => ?_)) | (with_reducible first | refine seqN (K := Run _ _ _ _) ?_ | refine seqE ?_ | refine seqR ?_ | refine blockN ?_ | refine blockR ?_ | refine blockE ?_))
    all_goals first
      | (exfalso; omega)
      | (refine ⟨eA, _, [], resA, .ch .nil, ?_⟩; exact ⟨rfl, rfl⟩)
      | (with_reducible refine seqN ?_
         have h5 : ¬ xs[j] = t := by assumption
         exact ⟨j + 1, ⟨by omega, by rw [List.take_add_one, List.getElem?_eq_getElem (by omega)]; simp only [List.mem_append, Option.mem_toList]; exact fun h => h.elim hn (fun e => h5 (Option.some.inj e))⟩, by omega, Ent.of slA .nil⟩)
      | trace_state
  · rw [List.take_of_length_le (by omega)] at hn
    exact absurd hin hn
/-! ### answers with bounds -/
theorem drB {a : Int} {T : List (List Int)} (h : DrRel a T) : T.length ≤ 4398046511104 ∧ ∀ t ∈ T, t.length ≤ 4611686018427387904 := ⟨by have := h.2.1; omega, fun t ht => by have := h.2.2 t ht; omega⟩
theorem relB_bnd {n a : Int} {T : List (List Int)} (h : relOk n a T = true) : DrRel a T := by
  obtain ⟨_, ha, hx, _⟩ := rel_facts h
  have := rel_many h
  exact ⟨by omega, by omega, fun t ht => by have := (hx t ht).1; omega⟩
theorem relRows_bnd {n a : Int} {o : Bool} {X : List (List Int)} (h : o = true → relOk n a X = true) : (relRows o X).length ≤ 4398046511104 ∧ ∀ t ∈ relRows o X, t.length ≤ 4611686018427387904 := by
  cases o with
  | false => exact ⟨by simp [relRows], fun t ht => by cases ht⟩
  | true => exact drB (relB_bnd (h rfl))
end Go.Proofs.Ytiifdhdhjioefaa
