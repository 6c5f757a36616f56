/- Definitions of relations: the checks (spec.l13Definition, impl.isDefinition) and whether values fit (spec.l13Fits). Proved for this program; conditions: lengths below 2^62. -/
import Derived.Test.YtiifdhdhjioefaaDefP
import Derived.Test.YtiifdhdhjioefaaHas
namespace Go.Proofs.Ytiifdhdhjioefaa
open Go Go.Proofs
set_option linter.unusedVariables false
theorem pw_five (n : Int) (h0 : 0 ≤ n) (h8 : n ≤ 8) (k : Nat) (hk : k ≤ 5) : 0 ≤ pw n k ∧ pw n k ≤ 32768 := by
  have h : ∀ j : Nat, ∀ b : Int, pw n j ≤ b → pw n (j + 1) ≤ b * 8 := fun j b hb => by
    show pw n j * n ≤ b * 8
    have := pw_nonneg n h0 j
    exact Int.mul_le_mul hb h8 h0 (by omega)
  refine ⟨pw_nonneg n h0 k, ?_⟩
  have h1 : pw n 0 ≤ 1 := by simp [pw]
  have h2 : pw n 1 ≤ 8 := h 0 _ h1
  have h3 : pw n 2 ≤ 64 := h 1 _ h2
  have h4 : pw n 3 ≤ 512 := h 2 _ h3
  have h5 : pw n 4 ≤ 4096 := h 3 _ h4
  have h6 : pw n 5 ≤ 32768 := h 4 _ h5
  match k, hk with
  | 0, _ => omega
  | 1, _ => omega
  | 2, _ => omega
  | 3, _ => omega
  | 4, _ => omega
  | 5, _ => omega
set_option maxRecDepth 10000 in
theorem power5_c (n v : Int) (h0 : 0 ≤ n) (h8 : n ≤ 8) (hv : 0 ≤ v) (hk : v ≤ 5) : Spec Try.prog 91 [vint n, vint v] [] (fun r S' => r = vint (pw n v.toNat) ∧ S' = []) := by
  obtain ⟨k, rfl⟩ : ∃ k : Nat, v = k := ⟨v.toNat, by omega⟩
  rw [Int.toNat_natCast]
  refine Spec.of_run2 (n := 14) Try.func91 rfl Try.results91 Try.ntmps91 rfl ?_
  repeat' (first | (with_reducible refine RL.done ?_) | (with_reducible refine RL.wanted ?_ ?_; exact rfl) | ((with_reducible show RH _ _ _ _ _ _ _ _); refine RH.val (hK := ?_)) | (with_reducible first | refine Run.seq ?_ | refine Run.region ?_ | refine Run.block ?_) | (with_reducible refine seqN (K := Run _ _ _ _) ?_))
  refine Run.loop (α := Nat) (fun j => [(0, vint n), (1, vint ((k : Int) - j)), (5, vint (pw n j))]) (fun _ => []) (fun j => j ≤ k) (fun j => k - j) 0 (by omega) (Ent.of slA .refl) ?_
  intro j hj
  have hb := pw_five n h0 h8 j (by omega)
  have hm : j < k → InR (pw n j * n) := fun h => by
    have := pw_five n h0 h8 (j + 1) (by omega); unfold InR; simp only [pw] at this; omega
  repeat' (first | (with_reducible refine RL.done ?_) | (with_reducible refine RL.wanted ?_ ?_; exact rfl) | ((with_reducible show RH _ _ _ _ _ _ _ _); refine RH.val (hK := ?_)) | (with_reducible first | refine Run.seq ?_ | refine Run.region ?_ | refine Run.block ?_ | refine Run.skip ?_ | refine Run.exit ?_ | refine Run.ret ?_) | (with_reducible show Run _ _ (.cond _ _ _) _ _ _; refine Run.condD rfl (fun h => ?_) (fun h => ?_)) | (with_reducible first | refine seqN (K := Run _ _ _ _) ?_ | refine seqE ?_ | refine blockN ?_ | refine blockE ?_))
  · with_reducible refine seqN ?_
    exact ⟨j + 1, by omega, by omega, Ent.of slA .refl⟩
  · obtain rfl : j = k := by omega
    refine ⟨eA, _, [], resA, .ch .nil, ?_⟩; exact ⟨rfl, rfl⟩
set_option maxRecDepth 10000 in
theorem l2Pow5_c (n v : Int) (h0 : 0 ≤ n) (h8 : n ≤ 8) (hv : 0 ≤ v) (hk : v ≤ 5) : Spec Try.prog 99 [vint n, vint v] [] (fun r S' => r = vint (pw n v.toNat) ∧ S' = []) := by
  obtain ⟨k, rfl⟩ : ∃ k : Nat, v = k := ⟨v.toNat, by omega⟩
  rw [Int.toNat_natCast]
  refine Spec.of_run2 (n := 14) Try.func99 rfl Try.results99 Try.ntmps99 rfl ?_
  repeat' (first | (with_reducible refine RL.done ?_) | (with_reducible refine RL.wanted ?_ ?_; exact rfl) | ((with_reducible show RH _ _ _ _ _ _ _ _); refine RH.val (hK := ?_)) | (with_reducible first | refine Run.seq ?_ | refine Run.region ?_ | refine Run.block ?_) | (with_reducible refine seqN (K := Run _ _ _ _) ?_))
  refine Run.loop (α := Nat) (fun j => [(0, vint n), (1, vint ((k : Int) - j)), (5, vint (pw n j))]) (fun _ => []) (fun j => j ≤ k) (fun j => k - j) 0 (by omega) (Ent.of slA .refl) ?_
  intro j hj
  have hb := pw_five n h0 h8 j (by omega)
  have hm : j < k → InR (pw n j * n) := fun h => by
    have := pw_five n h0 h8 (j + 1) (by omega); unfold InR; simp only [pw] at this; omega
  repeat' (first | (with_reducible refine RL.done ?_) | (with_reducible refine RL.wanted ?_ ?_; exact rfl) | ((with_reducible show RH _ _ _ _ _ _ _ _); refine RH.val (hK := ?_)) | (with_reducible first | refine Run.seq ?_ | refine Run.region ?_ | refine Run.block ?_ | refine Run.skip ?_ | refine Run.exit ?_ | refine Run.ret ?_) | (with_reducible show Run _ _ (.cond _ _ _) _ _ _; refine Run.condD rfl (fun h => ?_) (fun h => ?_)) | (with_reducible first | refine seqN (K := Run _ _ _ _) ?_ | refine seqE ?_ | refine blockN ?_ | refine blockE ?_))
  · with_reducible refine seqN ?_
    exact ⟨j + 1, by omega, by omega, Ent.of slA .refl⟩
  · obtain rfl : j = k := by omega
    refine ⟨eA, _, [], resA, .ch .nil, ?_⟩; exact ⟨rfl, rfl⟩
def DefSz (n : Int) (rs : List (Int × List (List Int))) (ats : List (Int × List Int)) (fr : List Int) : Prop :=
  rs.length ≤ 4611686018427387904 ∧ (∀ y ∈ rs, y.2.length ≤ 4611686018427387904 ∧ ∀ t ∈ y.2, t.length ≤ 4611686018427387904) ∧ ats.length ≤ 4611686018427387904 ∧ (∀ a ∈ ats, a.2.length ≤ 4611686018427387904) ∧ fr.length ≤ 4611686018427387904
theorem atom_no1 {v : Int} {rs : List (Int × List (List Int))} {a : Int × List Int} (h : ¬ (-1 ≤ a.1 ∧ a.1 < (rs.length : Int))) : atomB v rs a = false := by rw [atomB, decide_eq_false h]; rfl
theorem atom_no2 {v : Int} {rs : List (Int × List (List Int))} {a : Int × List Int} (h : elB v a.2 = false) : atomB v rs a = false := by rw [atomB, h, Bool.and_false, Bool.and_false]
theorem atom_no3 {v : Int} {rs : List (Int × List (List Int))} {a : Int × List Int} (h : ¬ (a.2.length : Int) = arOf rs a.1) : atomB v rs a = false := by rw [atomB, decide_eq_false h, Bool.false_and, Bool.and_false]
theorem atom_yes {v : Int} {rs : List (Int × List (List Int))} {a : Int × List Int} (h : -1 ≤ a.1 ∧ a.1 < (rs.length : Int)) (h2 : (a.2.length : Int) = arOf rs a.1) (h3 : elB v a.2 = true) : atomB v rs a = true := by rw [atomB, decide_eq_true h, decide_eq_true h2, h3]; rfl
theorem atom_no4 {v x : Int} {rs : List (Int × List (List Int))} {a : Int × List Int} (hx : x = arOf rs a.1) (h : (decide ((a.2.length : Int) = x) && elB v a.2) = false) : atomB v rs a = false := by rw [atomB, ← hx, h, Bool.and_false]
theorem atom_yes4 {v x : Int} {rs : List (Int × List (List Int))} {a : Int × List Int} (h1 : -1 ≤ a.1 ∧ a.1 < (rs.length : Int)) (hx : x = arOf rs a.1) (h : (decide ((a.2.length : Int) = x) && elB v a.2) = true) : atomB v rs a = true := by rw [atomB, ← hx, h, decide_eq_true h1]; rfl
set_option maxRecDepth 10000 in
set_option maxHeartbeats 1000000 in
theorem isDefinition_c (n v : Int) (rs : List (Int × List (List Int))) (ats : List (Int × List Int)) (fr : List Int) (hv : InR v) (hs : DefSz n rs ats fr) :
    Spec Try.prog 97 [vint n, vsl 2 (fun y : Int × (List (List Int)) => [vint y.1, vsl 1 (fun t : List Int => [vsl 1 (fun x : Int => [vint x]) t]) y.2]) rs, vint v, vsl 2 (fun y : Int × (List Int) => [vint y.1, vsl 1 (fun x : Int => [vint x]) y.2]) ats, vsl 1 (fun x : Int => [vint x]) fr] [] (fun r S' => r = vbool (defB n rs v ats fr) ∧ S' = []) := by
  have hl := hs.1
  have hl2 := hs.2.2.1
  have hl3 := hs.2.2.2.2
  by_cases hd : (1 ≤ n ∧ n ≤ 8) ∧ rs.length ≤ 10 ∧ (1 ≤ v ∧ v ≤ 5) ∧ pw n v.toNat ≤ 5000 ∧ ats.length ≤ 10
  · have hd' : dszB n v rs ats = true := decide_eq_true hd
    obtain ⟨d1, d2, d3, d4, d5⟩ := hd
    refine Spec.of_run2 (n := 105) Try.func97 rfl Try.results97 Try.ntmps97 rfl ?_
    repeat' (first | (with_reducible first | refine RL.done ?_ | refine RL.app0 ?_) | (with_reducible refine RL.wanted ?_ ?_; exact rfl) | ((with_reducible show RH _ _ _ ⟨_, .call ⟨.value (.func 86), _, _⟩, _, _, _, _⟩ _ _ _ _); refine RH.cP Try.call86 ?_; refine ⟨_, isSize_c _, ?_⟩; rintro _ _ ⟨rfl, rfl⟩) | ((with_reducible show RH _ _ _ ⟨_, .call ⟨.value (.func 91), _, _⟩, _, _, _, _⟩ _ _ _ _); refine RH.cP Try.call91 ?_; refine ⟨_, power5_c _ _ (by omega) (by omega) (by omega) (by omega), ?_⟩; rintro _ _ ⟨rfl, rfl⟩) | ((with_reducible show RH _ _ _ _ _ _ _ _); refine RH.val (hK := ?_)) | (with_reducible show RL _ _ _ (_ :: _) _ _ _; first | refine RL.guardYes rfl rfl rfl rfl ?_ | refine RL.guardNoS rfl rfl rfl rfl rfl rfl ?_ | refine RL.splitD rfl rfl rfl (fun h => ?_) (fun h => ?_) | refine RL.splitND rfl rfl rfl (fun h => ?_) (fun h => ?_)) | (with_reducible first | refine Run.seq ?_ | refine Run.region ?_ | refine Run.block ?_ | refine Run.skip ?_ | refine Run.ret ?_) | (with_reducible show Run _ _ (.cond _ _ _) _ _ _; first | refine Run.condT rfl ?_ | refine Run.condD rfl (fun h => ?_) (fun h => ?_)) | (with_reducible first | refine seqN (K := Run _ _ _ _) ?_ | refine seqR ?_))
    all_goals first | (exfalso; omega) | skip
    refine Run.loop (α := Nat) (fun j => [(0, vint n), (1, vsl 2 (fun y : Int × (List (List Int)) => [vint y.1, vsl 1 (fun t : List Int => [vsl 1 (fun x : Int => [vint x]) t]) y.2]) rs), (2, vint v), (3, vsl 2 (fun y : Int × (List Int) => [vint y.1, vsl 1 (fun x : Int => [vint x]) y.2]) ats), (4, vsl 1 (fun x : Int => [vint x]) fr), (43, vsl 2 (fun y : Int × (List (List Int)) => [vint y.1, vsl 1 (fun t : List Int => [vsl 1 (fun x : Int => [vint x]) t]) y.2]) rs), (44, vint (rs.length : Int)), (45, vint (j : Int))]) (fun _ => []) (fun j => j ≤ rs.length ∧ (rs.take j).all (fun y => relB n y.1 y.2) = true) (fun j => rs.length - j) 0 (by simp) (Ent.of slA .refl) ?_
    rintro j ⟨hj, ht⟩
    rcases Nat.lt_or_eq_of_le hj with h9 | h9
    · repeat' (first | (with_reducible first | refine RL.done ?_ | refine RL.app0 ?_) | (with_reducible refine RL.wanted ?_ ?_; exact rfl) | ((with_reducible show RH _ _ _ ⟨some 12, .alloc _, _, _, _, _⟩ _ _ _ _); refine RH.alloc rfl ?_; rintro _ _ ⟨b12, rfl, rfl⟩) | ((with_reducible show RH _ _ _ ⟨_, .call ⟨.value (.func 68), _, _⟩, _, _, _, _⟩ _ _ _ _); refine RH.cP Try.call68 ?_; refine ⟨_, isRelation_c _ _ _ (hs.2.1 _ (List.getElem_mem _)).1 (hs.2.1 _ (List.getElem_mem _)).2, ?_⟩; rintro _ _ ⟨rfl, rfl⟩) | ((with_reducible show RH _ _ _ _ _ _ _ _); first | refine RH.val (hK := ?_) | refine RH.upd (hK := ?_)) | (with_reducible first | refine Run.seq ?_ | refine Run.region ?_ | refine Run.block ?_ | refine Run.skip ?_ | refine Run.exit ?_ | refine Run.ret ?_) | (with_reducible show Run _ _ (.cond _ _ _) _ _ _; first | refine Run.condD rfl (fun h => ?_) (fun h => ?_) | refine Run.condNB rfl (fun h => ?_) (fun h => ?_)) | (with_reducible first | refine seqN (K := Run _ _ _ _) ?_ | refine seqE ?_ | refine seqR ?_ | refine blockN ?_ | refine blockR ?_ | refine blockE ?_))
      all_goals first
        | (exfalso; omega)
        | (refine ⟨eA, _, [], resA, .ch .nil, ?_⟩
           exact ⟨congrArg vbool (defB_rel (all_no rs j h9 (by assumption))).symm, rfl⟩)
        | (with_reducible refine seqN ?_
           exact ⟨j + 1, ⟨by omega, all_step ht h9 (by assumption)⟩, by omega, Ent.of slA chA⟩)
    · have hR := all_end ht (by omega)
      repeat' (first | (with_reducible refine RL.done ?_) | (with_reducible refine RL.wanted ?_ ?_; exact rfl) | ((with_reducible show RH _ _ _ ⟨some 12, .alloc _, _, _, _, _⟩ _ _ _ _); refine RH.alloc rfl ?_; rintro _ _ ⟨b12, rfl, rfl⟩) | ((with_reducible show RH _ _ _ _ _ _ _ _); first | refine RH.val (hK := ?_) | refine RH.upd (hK := ?_)) | (with_reducible first | refine Run.seq ?_ | refine Run.region ?_ | refine Run.block ?_ | refine Run.skip ?_ | refine Run.exit ?_) | (with_reducible show Run _ _ (.cond _ _ _) _ _ _; refine Run.condD rfl (fun h => ?_) (fun h => ?_)) | (with_reducible first | refine seqN (K := Run _ _ _ _) ?_ | refine seqE ?_ | refine blockE ?_))
      all_goals first | (exfalso; omega) | skip
      refine Run.loop (α := Nat) (fun q => [(0, vint n), (1, vsl 2 (fun y : Int × (List (List Int)) => [vint y.1, vsl 1 (fun t : List Int => [vsl 1 (fun x : Int => [vint x]) t]) y.2]) rs), (2, vint v), (4, vsl 1 (fun x : Int => [vint x]) fr), (54, vsl 2 (fun y : Int × (List Int) => [vint y.1, vsl 1 (fun x : Int => [vint x]) y.2]) ats), (55, vint (ats.length : Int)), (56, vint (q : Int))]) (fun _ => []) (fun q => q ≤ ats.length ∧ (ats.take q).all (atomB v rs) = true) (fun q => ats.length - q) 0 (by simp) (Ent.of slA .refl) ?_
      rintro q ⟨hq, hA⟩
      rcases Nat.lt_or_eq_of_le hq with h8 | h8
      · have hai := hs.2.2.2.1 _ (List.getElem_mem h8)
        repeat' (first | (with_reducible first | refine RL.done ?_ | refine RL.app0 ?_) | (with_reducible refine RL.wanted ?_ ?_; exact rfl) | ((with_reducible show RH _ _ _ ⟨some 14, .alloc _, _, _, _, _⟩ _ _ _ _); refine RH.alloc rfl ?_; rintro _ _ ⟨b14, rfl, rfl⟩) | ((with_reducible show RH _ _ _ ⟨_, .call ⟨.value (.func 87), _, _⟩, _, _, _, _⟩ _ _ _ _); refine RH.cP Try.call87 ?_; refine ⟨_, inSize_c _ _ (by first | exact hs.2.2.2.2 | exact hs.2.2.2.1 _ (List.getElem_mem _)), ?_⟩; rintro _ _ ⟨rfl, rfl⟩) | ((with_reducible show RH _ _ _ _ _ _ _ _); first | refine RH.val (hK := ?_) | refine RH.upd (hK := ?_)) | (with_reducible show RL _ _ _ (_ :: _) _ _ _; first | refine RL.guardYes rfl rfl rfl rfl ?_ | refine RL.guardNoS rfl rfl rfl rfl rfl rfl ?_ | refine RL.splitD rfl rfl rfl (fun h => ?_) (fun h => ?_)) | (with_reducible first | refine Run.seq ?_ | refine Run.region ?_ | refine Run.block ?_ | refine Run.skip ?_ | refine Run.exit ?_ | refine Run.ret ?_) | (with_reducible show Run _ _ (.cond _ _ _) _ _ _; first | refine Run.condT rfl ?_ | refine Run.condD rfl (fun h => ?_) (fun h => ?_) | refine Run.condNB rfl (fun h => ?_) (fun h => ?_)) | (with_reducible first | refine seqN (K := Run _ _ _ _) ?_ | refine seqE ?_ | refine seqR ?_ | refine blockN ?_ | refine blockR ?_ | refine blockE ?_))
        all_goals first
          | (exfalso; omega)
          | (have hy : atomB v rs ats[q] = true := by
               first
                 | exact atom_yes4 ⟨by omega, by omega⟩ (arOf_at (by omega) (by omega)).symm (by assumption)
                 | exact atom_yes4 ⟨by omega, by omega⟩ (arOf_neg (by omega)).symm (by assumption)
                 | (refine atom_yes ⟨by omega, by omega⟩ ?_ (by assumption); rw [arOf_at (by omega) (by omega)]; omega)
                 | (refine atom_yes ⟨by omega, by omega⟩ ?_ (by assumption); rw [arOf_neg (by omega)]; omega)
             with_reducible refine seqN ?_
             exact ⟨q + 1, ⟨by omega, all_step hA h8 hy⟩, by omega, Ent.of slA chA⟩)
          | (have hno : atomB v rs ats[q] = false := by
               first
                 | exact atom_no1 (by omega)
                 | exact atom_no2 (by assumption)
                 | exact atom_no4 (arOf_at (by omega) (by omega)).symm (by assumption)
                 | exact atom_no4 (arOf_neg (by omega)).symm (by assumption)
                 | exact atom_no3 (fun e => absurd (e.trans (arOf_at (by omega) (by omega))) (by assumption))
                 | exact atom_no3 (fun e => absurd (e.trans (arOf_neg (by omega))) (by assumption))
             refine ⟨eA, _, [], resA, .ch .nil, ?_⟩
             exact ⟨congrArg vbool (defB_atom (all_no ats q h8 hno)).symm, rfl⟩)
      · have hB := all_end hA (by omega)
        have hE := defB_end hd' hR hB (fr := fr)
        repeat' (first | (with_reducible first | refine RL.done ?_ | refine RL.app0 ?_) | (with_reducible refine RL.wanted ?_ ?_; exact rfl) | ((with_reducible show RH _ _ _ ⟨some 14, .alloc _, _, _, _, _⟩ _ _ _ _); refine RH.alloc rfl ?_; rintro _ _ ⟨b14, rfl, rfl⟩) | ((with_reducible show RH _ _ _ ⟨_, .call ⟨.value (.func 87), _, _⟩, _, _, _, _⟩ _ _ _ _); refine RH.cP Try.call87 ?_; refine ⟨_, inSize_c _ _ (by first | exact hs.2.2.2.2 | exact hs.2.2.2.1 _ (List.getElem_mem _)), ?_⟩; rintro _ _ ⟨rfl, rfl⟩) | ((with_reducible show RH _ _ _ _ _ _ _ _); first | refine RH.val (hK := ?_) | refine RH.upd (hK := ?_)) | (with_reducible show RL _ _ _ (_ :: _) _ _ _; first | refine RL.guardYes rfl rfl rfl rfl ?_ | refine RL.guardNoS rfl rfl rfl rfl rfl rfl ?_ | refine RL.splitD rfl rfl rfl (fun h => ?_) (fun h => ?_)) | (with_reducible first | refine Run.seq ?_ | refine Run.region ?_ | refine Run.block ?_ | refine Run.skip ?_ | refine Run.exit ?_ | refine Run.ret ?_) | (with_reducible show Run _ _ (.cond _ _ _) _ _ _; first | refine Run.condT rfl ?_ | refine Run.condD rfl (fun h => ?_) (fun h => ?_) | refine Run.condNB rfl (fun h => ?_) (fun h => ?_)) | (with_reducible first | refine seqN (K := Run _ _ _ _) ?_ | refine seqE ?_ | refine seqR ?_ | refine blockN ?_ | refine blockR ?_ | refine blockE ?_))
        all_goals first
          | (exfalso; omega)
          | (refine ⟨eA, _, [], resA, .ch .nil, ?_⟩
             refine ⟨congrArg vbool ?_, rfl⟩
             first
               | (rw [hE, decide_eq_true (show 1 ≤ fr.length ∧ fr.length ≤ 3 by omega), Bool.true_and]; done)
               | (rw [hE, decide_eq_true (show 1 ≤ fr.length ∧ fr.length ≤ 3 by omega), Bool.true_and]; simp [*]; done)
               | (rw [hE, decide_eq_false (show ¬ (1 ≤ fr.length ∧ fr.length ≤ 3) by omega), Bool.false_and]; done)
               | (rw [hE, decide_eq_false (show ¬ (1 ≤ fr.length ∧ fr.length ≤ 3) by omega), Bool.false_and]; simp; omega))
  · have hE := defB_sz (fr := fr) (dszB_no hd)
    refine Spec.of_run2 (n := 105) Try.func97 rfl Try.results97 Try.ntmps97 rfl ?_
    repeat' (first | (with_reducible first | refine RL.done ?_ | refine RL.app0 ?_) | (with_reducible refine RL.wanted ?_ ?_; exact rfl) | ((with_reducible show RH _ _ _ ⟨_, .call ⟨.value (.func 86), _, _⟩, _, _, _, _⟩ _ _ _ _); refine RH.cP Try.call86 ?_; refine ⟨_, isSize_c _, ?_⟩; rintro _ _ ⟨rfl, rfl⟩) | ((with_reducible show RH _ _ _ ⟨_, .call ⟨.value (.func 91), _, _⟩, _, _, _, _⟩ _ _ _ _); refine RH.cP Try.call91 ?_; refine ⟨_, power5_c _ _ (by omega) (by omega) (by omega) (by omega), ?_⟩; rintro _ _ ⟨rfl, rfl⟩) | ((with_reducible show RH _ _ _ _ _ _ _ _); refine RH.val (hK := ?_)) | (with_reducible show RL _ _ _ (_ :: _) _ _ _; first | refine RL.guardYes rfl rfl rfl rfl ?_ | refine RL.guardNoS rfl rfl rfl rfl rfl rfl ?_ | refine RL.splitD rfl rfl rfl (fun h => ?_) (fun h => ?_) | refine RL.splitND rfl rfl rfl (fun h => ?_) (fun h => ?_)) | (with_reducible first | refine Run.seq ?_ | refine Run.region ?_ | refine Run.block ?_ | refine Run.skip ?_ | refine Run.ret ?_) | (with_reducible show Run _ _ (.cond _ _ _) _ _ _; first | refine Run.condT rfl ?_ | refine Run.condD rfl (fun h => ?_) (fun h => ?_)) | (with_reducible first | refine seqN (K := Run _ _ _ _) ?_ | refine seqR ?_))
    all_goals first
      | (exfalso; omega)
      | (refine ⟨eA, _, [], resA, .ch .nil, ?_⟩
         exact ⟨congrArg vbool hE.symm, rfl⟩)
set_option maxRecDepth 10000 in
set_option maxHeartbeats 1000000 in
theorem l13Definition_c (n v : Int) (rs : List (Int × List (List Int))) (ats : List (Int × List Int)) (fr : List Int) (hv : InR v) (hs : DefSz n rs ats fr) :
    Spec Try.prog 98 [vint n, vsl 2 (fun y : Int × (List (List Int)) => [vint y.1, vsl 1 (fun t : List Int => [vsl 1 (fun x : Int => [vint x]) t]) y.2]) rs, vint v, vsl 2 (fun y : Int × (List Int) => [vint y.1, vsl 1 (fun x : Int => [vint x]) y.2]) ats, vsl 1 (fun x : Int => [vint x]) fr] [] (fun r S' => r = vbool (defB n rs v ats fr) ∧ S' = []) := by
  have hl := hs.1
  have hl2 := hs.2.2.1
  have hl3 := hs.2.2.2.2
  by_cases hd : (1 ≤ n ∧ n ≤ 8) ∧ rs.length ≤ 10 ∧ (1 ≤ v ∧ v ≤ 5) ∧ pw n v.toNat ≤ 5000 ∧ ats.length ≤ 10
  · have hd' : dszB n v rs ats = true := decide_eq_true hd
    obtain ⟨d1, d2, d3, d4, d5⟩ := hd
    refine Spec.of_run2 (n := 99) Try.func98 rfl Try.results98 Try.ntmps98 rfl ?_
    repeat' (first | (with_reducible first | refine RL.done ?_ | refine RL.app0 ?_) | (with_reducible refine RL.wanted ?_ ?_; exact rfl) | ((with_reducible show RH _ _ _ ⟨_, .call ⟨.value (.func 88), _, _⟩, _, _, _, _⟩ _ _ _ _); refine RH.cP Try.call88 ?_; refine ⟨_, l6Size_c _, ?_⟩; rintro _ _ ⟨rfl, rfl⟩) | ((with_reducible show RH _ _ _ ⟨_, .call ⟨.value (.func 85), _, _⟩, _, _, _, _⟩ _ _ _ _); refine RH.cP Try.call85 ?_; refine ⟨_, l1In_c _ _ _, ?_⟩; rintro _ _ ⟨rfl, rfl⟩) | ((with_reducible show RH _ _ _ ⟨_, .call ⟨.value (.func 99), _, _⟩, _, _, _, _⟩ _ _ _ _); refine RH.cP Try.call99 ?_; refine ⟨_, l2Pow5_c _ _ (by omega) (by omega) (by omega) (by omega), ?_⟩; rintro _ _ ⟨rfl, rfl⟩) | ((with_reducible show RH _ _ _ _ _ _ _ _); refine RH.val (hK := ?_)) | (with_reducible show RL _ _ _ (_ :: _) _ _ _; first | refine RL.guardYes rfl rfl rfl rfl ?_ | refine RL.guardNoS rfl rfl rfl rfl rfl rfl ?_ | refine RL.splitD rfl rfl rfl (fun h => ?_) (fun h => ?_) | refine RL.splitND rfl rfl rfl (fun h => ?_) (fun h => ?_)) | (with_reducible first | refine Run.seq ?_ | refine Run.region ?_ | refine Run.block ?_ | refine Run.skip ?_ | refine Run.ret ?_) | (with_reducible show Run _ _ (.cond _ _ _) _ _ _; first | refine Run.condT rfl ?_ | refine Run.condD rfl (fun h => ?_) (fun h => ?_)) | (with_reducible first | refine seqN (K := Run _ _ _ _) ?_ | refine seqR ?_))
    all_goals first | (exfalso; omega) | skip
    refine Run.loop (α := Nat) (fun j => [(0, vint n), (1, vsl 2 (fun y : Int × (List (List Int)) => [vint y.1, vsl 1 (fun t : List Int => [vsl 1 (fun x : Int => [vint x]) t]) y.2]) rs), (2, vint v), (3, vsl 2 (fun y : Int × (List Int) => [vint y.1, vsl 1 (fun x : Int => [vint x]) y.2]) ats), (4, vsl 1 (fun x : Int => [vint x]) fr), (11, vint (j : Int))]) (fun _ => []) (fun j => j ≤ rs.length ∧ (rs.take j).all (fun y => relB n y.1 y.2) = true) (fun j => rs.length - j) 0 (by simp) (Ent.of slA .refl) ?_
    rintro j ⟨hj, ht⟩
    rcases Nat.lt_or_eq_of_le hj with h9 | h9
    · repeat' (first | (with_reducible first | refine RL.done ?_ | refine RL.app0 ?_) | (with_reducible refine RL.wanted ?_ ?_; exact rfl) | ((with_reducible show RH _ _ _ ⟨_, .call ⟨.value (.func 105), _, _⟩, _, _, _, _⟩ _ _ _ _); refine RH.cP Try.call105 ?_; refine ⟨_, l13Good_c _ _ _ (by omega) (by omega) (hs.2.1 _ (List.getElem_mem _)).1 (hs.2.1 _ (List.getElem_mem _)).2, ?_⟩; rintro _ _ ⟨rfl, rfl⟩) | ((with_reducible show RH _ _ _ _ _ _ _ _); refine RH.val (hK := ?_)) | (with_reducible first | refine Run.seq ?_ | refine Run.region ?_ | refine Run.block ?_ | refine Run.skip ?_ | refine Run.exit ?_ | refine Run.ret ?_) | (with_reducible show Run _ _ (.cond _ _ _) _ _ _; first | refine Run.condD rfl (fun h => ?_) (fun h => ?_) | refine Run.condNB rfl (fun h => ?_) (fun h => ?_)) | (with_reducible first | refine seqN (K := Run _ _ _ _) ?_ | refine seqE ?_ | refine seqR ?_ | refine blockN ?_ | refine blockR ?_ | refine blockE ?_))
      all_goals first
        | (exfalso; omega)
        | (refine ⟨eA, _, [], resA, .ch .nil, ?_⟩
           exact ⟨congrArg vbool (defB_rel (all_no rs j h9 (by assumption))).symm, rfl⟩)
        | (with_reducible refine seqN ?_
           exact ⟨j + 1, ⟨by omega, all_step ht h9 (by assumption)⟩, by omega, Ent.of slA chA⟩)
    · have hR := all_end ht (by omega)
      repeat' (first | (with_reducible refine RL.done ?_) | (with_reducible refine RL.wanted ?_ ?_; exact rfl) | ((with_reducible show RH _ _ _ _ _ _ _ _); refine RH.val (hK := ?_)) | (with_reducible first | refine Run.seq ?_ | refine Run.region ?_ | refine Run.block ?_ | refine Run.skip ?_ | refine Run.exit ?_) | (with_reducible show Run _ _ (.cond _ _ _) _ _ _; refine Run.condD rfl (fun h => ?_) (fun h => ?_)) | (with_reducible first | refine seqN (K := Run _ _ _ _) ?_ | refine seqE ?_ | refine blockE ?_))
      all_goals first | (exfalso; omega) | skip
      refine Run.loop (α := Nat) (fun q => [(0, vint n), (1, vsl 2 (fun y : Int × (List (List Int)) => [vint y.1, vsl 1 (fun t : List Int => [vsl 1 (fun x : Int => [vint x]) t]) y.2]) rs), (2, vint v), (3, vsl 2 (fun y : Int × (List Int) => [vint y.1, vsl 1 (fun x : Int => [vint x]) y.2]) ats), (4, vsl 1 (fun x : Int => [vint x]) fr), (12, vint (q : Int))]) (fun _ => []) (fun q => q ≤ ats.length ∧ (ats.take q).all (atomB v rs) = true) (fun q => ats.length - q) 0 (by simp) (Ent.of slA .refl) ?_
      rintro q ⟨hq, hA⟩
      rcases Nat.lt_or_eq_of_le hq with h8 | h8
      · have hai := hs.2.2.2.1 _ (List.getElem_mem h8)
        repeat' (first | (with_reducible first | refine RL.done ?_ | refine RL.app0 ?_) | (with_reducible refine RL.wanted ?_ ?_; exact rfl) | ((with_reducible show RH _ _ _ ⟨_, .call ⟨.value (.func 85), _, _⟩, _, _, _, _⟩ _ _ _ _); refine RH.cP Try.call85 ?_; refine ⟨_, l1In_c _ _ _, ?_⟩; rintro _ _ ⟨rfl, rfl⟩) | ((with_reducible show RH _ _ _ ⟨_, .call ⟨.value (.func 89), _, _⟩, _, _, _, _⟩ _ _ _ _); refine RH.cP Try.call89 ?_; refine ⟨_, l8Tuple_c _ _ _ (by omega) (hs.2.2.2.1 _ (List.getElem_mem _)), ?_⟩; rintro _ _ ⟨rfl, rfl⟩) | ((with_reducible show RH _ _ _ _ _ _ _ _); refine RH.val (hK := ?_)) | (with_reducible show RL _ _ _ (_ :: _) _ _ _; first | refine RL.guardYes rfl rfl rfl rfl ?_ | refine RL.guardNoS rfl rfl rfl rfl rfl rfl ?_ | refine RL.splitD rfl rfl rfl (fun h => ?_) (fun h => ?_)) | (with_reducible first | refine Run.seq ?_ | refine Run.region ?_ | refine Run.block ?_ | refine Run.skip ?_ | refine Run.exit ?_ | refine Run.ret ?_) | (with_reducible show Run _ _ (.cond _ _ _) _ _ _; first | refine Run.condD rfl (fun h => ?_) (fun h => ?_) | refine Run.condND rfl (fun h => ?_) (fun h => ?_) | refine Run.condNB rfl (fun h => ?_) (fun h => ?_)) | (with_reducible first | refine seqN (K := Run _ _ _ _) ?_ | refine seqE ?_ | refine seqR ?_ | refine blockN ?_ | refine blockR ?_ | refine blockE ?_))
        all_goals first
          | (exfalso; omega)
          | (have hy : atomB v rs ats[q] = true := by
               first
                 | exact atom_yes4 ⟨by omega, by omega⟩ (arOf_at (by omega) (by omega)).symm (by assumption)
                 | exact atom_yes4 ⟨by omega, by omega⟩ (arOf_neg (by omega)).symm (by assumption)
                 | (refine atom_yes ⟨by omega, by omega⟩ ?_ (by assumption); rw [arOf_at (by omega) (by omega)]; omega)
                 | (refine atom_yes ⟨by omega, by omega⟩ ?_ (by assumption); rw [arOf_neg (by omega)]; omega)
             with_reducible refine seqN ?_
             exact ⟨q + 1, ⟨by omega, all_step hA h8 hy⟩, by omega, Ent.of slA chA⟩)
          | (have hno : atomB v rs ats[q] = false := by
               first
                 | exact atom_no1 (by omega)
                 | exact atom_no2 (by assumption)
                 | exact atom_no4 (arOf_at (by omega) (by omega)).symm (by assumption)
                 | exact atom_no4 (arOf_neg (by omega)).symm (by assumption)
                 | exact atom_no3 (fun e => absurd (e.trans (arOf_at (by omega) (by omega))) (by assumption))
                 | exact atom_no3 (fun e => absurd (e.trans (arOf_neg (by omega))) (by assumption))
             refine ⟨eA, _, [], resA, .ch .nil, ?_⟩
             exact ⟨congrArg vbool (defB_atom (all_no ats q h8 hno)).symm, rfl⟩)
      · have hB := all_end hA (by omega)
        have hE := defB_end hd' hR hB (fr := fr)
        repeat' (first | (with_reducible first | refine RL.done ?_ | refine RL.app0 ?_) | (with_reducible refine RL.wanted ?_ ?_; exact rfl) | ((with_reducible show RH _ _ _ ⟨_, .call ⟨.value (.func 85), _, _⟩, _, _, _, _⟩ _ _ _ _); refine RH.cP Try.call85 ?_; refine ⟨_, l1In_c _ _ _, ?_⟩; rintro _ _ ⟨rfl, rfl⟩) | ((with_reducible show RH _ _ _ ⟨_, .call ⟨.value (.func 95), _, _⟩, _, _, _, _⟩ _ _ _ _); refine RH.cP Try.call95 ?_; refine ⟨_, l2Elements_c _ _ (by omega) (by omega), ?_⟩; rintro _ _ ⟨rfl, rfl⟩) | ((with_reducible show RH _ _ _ _ _ _ _ _); refine RH.val (hK := ?_)) | (with_reducible show RL _ _ _ (_ :: _) _ _ _; first | refine RL.guardYes rfl rfl rfl rfl ?_ | refine RL.guardNoS rfl rfl rfl rfl rfl rfl ?_ | refine RL.splitD rfl rfl rfl (fun h => ?_) (fun h => ?_)) | (with_reducible first | refine Run.seq ?_ | refine Run.region ?_ | refine Run.block ?_ | refine Run.skip ?_ | refine Run.exit ?_ | refine Run.ret ?_) | (with_reducible show Run _ _ (.cond _ _ _) _ _ _; first | refine Run.condD rfl (fun h => ?_) (fun h => ?_) | refine Run.condND rfl (fun h => ?_) (fun h => ?_)) | (with_reducible first | refine seqN (K := Run _ _ _ _) ?_ | refine seqE ?_ | refine seqR ?_ | refine blockR ?_ | refine blockE ?_))
        all_goals first
          | (exfalso; omega)
          | (refine ⟨eA, _, [], resA, .ch .nil, ?_⟩
             refine ⟨congrArg vbool ?_, rfl⟩
             first
               | (rw [hE, decide_eq_true (show 1 ≤ fr.length ∧ fr.length ≤ 3 by omega), Bool.true_and]; done)
               | (rw [hE, decide_eq_true (show 1 ≤ fr.length ∧ fr.length ≤ 3 by omega), Bool.true_and]; simp [*]; done)
               | (rw [hE, decide_eq_false (show ¬ (1 ≤ fr.length ∧ fr.length ≤ 3) by omega), Bool.false_and]; done)
               | (rw [hE, decide_eq_false (show ¬ (1 ≤ fr.length ∧ fr.length ≤ 3) by omega), Bool.false_and]; simp; omega))
  · have hE := defB_sz (fr := fr) (dszB_no hd)
    refine Spec.of_run2 (n := 99) Try.func98 rfl Try.results98 Try.ntmps98 rfl ?_
    repeat' (first | (with_reducible first | refine RL.done ?_ | refine RL.app0 ?_) | (with_reducible refine RL.wanted ?_ ?_; exact rfl) | ((with_reducible show RH _ _ _ ⟨_, .call ⟨.value (.func 88), _, _⟩, _, _, _, _⟩ _ _ _ _); refine RH.cP Try.call88 ?_; refine ⟨_, l6Size_c _, ?_⟩; rintro _ _ ⟨rfl, rfl⟩) | ((with_reducible show RH _ _ _ ⟨_, .call ⟨.value (.func 85), _, _⟩, _, _, _, _⟩ _ _ _ _); refine RH.cP Try.call85 ?_; refine ⟨_, l1In_c _ _ _, ?_⟩; rintro _ _ ⟨rfl, rfl⟩) | ((with_reducible show RH _ _ _ ⟨_, .call ⟨.value (.func 99), _, _⟩, _, _, _, _⟩ _ _ _ _); refine RH.cP Try.call99 ?_; refine ⟨_, l2Pow5_c _ _ (by omega) (by omega) (by omega) (by omega), ?_⟩; rintro _ _ ⟨rfl, rfl⟩) | ((with_reducible show RH _ _ _ _ _ _ _ _); refine RH.val (hK := ?_)) | (with_reducible show RL _ _ _ (_ :: _) _ _ _; first | refine RL.guardYes rfl rfl rfl rfl ?_ | refine RL.guardNoS rfl rfl rfl rfl rfl rfl ?_ | refine RL.splitD rfl rfl rfl (fun h => ?_) (fun h => ?_) | refine RL.splitND rfl rfl rfl (fun h => ?_) (fun h => ?_)) | (with_reducible first | refine Run.seq ?_ | refine Run.region ?_ | refine Run.block ?_ | refine Run.skip ?_ | refine Run.ret ?_) | (with_reducible show Run _ _ (.cond _ _ _) _ _ _; first | refine Run.condT rfl ?_ | refine Run.condD rfl (fun h => ?_) (fun h => ?_)) | (with_reducible first | refine seqN (K := Run _ _ _ _) ?_ | refine seqR ?_))
    all_goals first
      | (exfalso; omega)
      | (refine ⟨eA, _, [], resA, .ch .nil, ?_⟩
         exact ⟨congrArg vbool hE.symm, rfl⟩)
end Go.Proofs.Ytiifdhdhjioefaa
