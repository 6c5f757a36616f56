/- Rows of a condition: derivations and refutations in plain terms. No program in sight. -/
import Derived.Test.YtiifdhdhjioefaaDeriv
import Derived.Test.YtiifdhdhjioefaaObeyI
import Derived.Test.YtiifdhdhjioefaaRowOf
import Derived.Test.YtiifdhdhjioefaaCond
namespace Go.Proofs.Ytiifdhdhjioefaa
open Go Go.Proofs
set_option linter.unusedVariables false
def mayB (n : Int) (os : List (Int × List Int)) (a : Int) (rs : List (List Int × List Int)) : Bool := algB n os && (decide (n ≤ 4) && condB a rs)
theorem mayB_at {n : Int} {os : List (Int × List Int)} {a : Int} {rs : List (List Int × List Int)} (h : mayB n os a rs = true) : algB n os = true ∧ (1 ≤ n ∧ n ≤ 4) ∧ condB a rs = true ∧ 2 ≤ a ∧ a ≤ 3 := by
  simp only [mayB, Bool.and_eq_true, decide_eq_true_eq] at h
  obtain ⟨h1, _⟩ := algB_at h.1
  obtain ⟨h2, _⟩ := condB_rules h.2.2
  exact ⟨h.1, ⟨h1, h.2.1⟩, h.2.2, h2⟩
theorem pats_few {a : Int} {rs : List (List Int × List Int)} (h : condB a rs = true) : (pats rs).length ≤ 12 := by
  have h6 := (condB_rules h).2.1
  have := pats_le rs rs.length; rw [List.take_length] at this; omega
/-- places in a row -/
def rowS (N : Nat) (rs : List (List Int × List Int)) : Nat := (pats rs).length * N * N
theorem rowS_le {N : Nat} (hN : N ≤ 4) {a : Int} {rs : List (List Int × List Int)} (h : condB a rs = true) : rowS N rs ≤ 192 := by
  have h1 := pats_few h
  have h2 : (pats rs).length * N ≤ 12 * 4 := Nat.mul_le_mul h1 hN
  have h3 : (pats rs).length * N * N ≤ 48 * 4 := Nat.mul_le_mul h2 hN
  exact h3
theorem rowAll_leng (N : Nat) (tb : List Int) (ps : List (List Int)) : (rowAll N tb ps).length = ps.length * N * N := by
  induction ps with
  | nil => simp [rowAll]
  | cons p ps ih =>
    have h2 : rowAll N tb (p :: ps) = rowsX N tb p N ++ rowAll N tb ps := by simp [rowAll]
    rw [h2, List.length_append, rowsX_len, ih, List.length_cons, Nat.succ_mul, Nat.add_mul, Nat.add_comm]
theorem getD_el {n : Int} (h1 : 1 ≤ n) {l : List Int} (h : elB n l = true) (i : Nat) : 0 ≤ l.getD i 0 ∧ l.getD i 0 < n := by
  rw [List.getD_eq_getElem?_getD]
  rcases Nat.lt_or_ge i l.length with h2 | h2
  · rw [List.getElem?_eq_getElem h2]
    exact elB_mem h _ (List.getElem_mem h2)
  · rw [List.getElem?_eq_none h2, Option.getD_none]; omega
theorem rowAll_el {N : Nat} (h1 : 1 ≤ N) {tb : List Int} (h : elB (N : Int) tb = true) (ps : List (List Int)) : elB (N : Int) (rowAll N tb ps) = true := by
  rw [elB, List.all_eq_true]
  intro x hx
  obtain ⟨p, _, hx⟩ := List.mem_flatMap.1 hx
  obtain ⟨i, _, hx⟩ := List.mem_flatMap.1 hx
  obtain ⟨j, _, rfl⟩ := List.mem_map.1 hx
  have := getD_el (n := (N : Int)) (by omega) h (hor N (comp p [(i : Int), (j : Int)])).toNat
  simpa [cellXZ] using this
/-- the rows of the first projections -/
def fstR (N k size : Nat) (ps : List (List Int)) (m : Nat) : List Row := (List.range m).map fun i => rowAll N (projL (N : Int) k i size) ps
theorem fstR_succ (N k size : Nat) (ps : List (List Int)) (m : Nat) : fstR N k size ps (m + 1) = fstR N k size ps m ++ [rowAll N (projL (N : Int) k m size) ps] := by
  rw [fstR, List.range_succ, List.map_append]; rfl
theorem fstR_length (N k size : Nat) (ps : List (List Int)) (m : Nat) : (fstR N k size ps m).length = m := by simp [fstR]
theorem fstR_inv {N k size : Nat} (h1 : 1 ≤ N) (rs : List (List Int × List Int)) : DInv (N : Int) (rowS N rs) (fstR N k size (pats rs) k) := ⟨fun t ht => by
  obtain ⟨i, hi, rfl⟩ := List.mem_map.1 ht
  exact ⟨rowAll_leng _ _ _, rowAll_el h1 (projL_el (N : Int) k i size (by omega) (List.mem_range.1 hi)) _⟩⟩
def fstN (n a : Int) (rs : List (List Int × List Int)) : List Row := fstR n.toNat a.toNat (pw n a.toNat).toNat (pats rs) a.toNat
end Go.Proofs.Ytiifdhdhjioefaa

/- Rows of the projections, what may be asked of an algebra and a condition: spec.l15Both, l15First, impl.canSearch, projectionRows. Proved for this program; conditions: lengths below 2^62. -/
namespace Go.Proofs.Ytiifdhdhjioefaa
open Go Go.Proofs
set_option linter.unusedVariables false
set_option maxRecDepth 10000 in
set_option maxHeartbeats 1000000 in
theorem l15Both_c (n : Int) (os : List (Int × List Int)) (a : Int) (rs : List (List Int × List Int)) (hol : os.length ≤ 4611686018427387904) (ho : OpsLen os) (hl : rs.length ≤ 4611686018427387904) (hr : ∀ y ∈ rs, y.1.length ≤ 4611686018427387904 ∧ y.2.length ≤ 4611686018427387904) :
    Spec Try.prog 123 [vagg [vint n, vsl 2 (fun y : Int × (List Int) => [vint y.1, vsl 1 (fun x : Int => [vint x]) y.2]) os], vagg [vint a, vsl 2 (fun y : (List Int) × (List Int) => [vsl 1 (fun x : Int => [vint x]) y.1, vsl 1 (fun x : Int => [vint x]) y.2]) rs]] [] (fun r S' => r = vbool (mayB n os a rs) ∧ S' = []) := by
  have hG := l2Good_c n os hol ho
  have hC := l15Good_c a rs hl hr
  cases ha : algB n os with
  | false =>
    rw [ha] at hG
    rw [mayB, ha, Bool.false_and]
    refine Spec.of_run2 (n := 16) Try.func123 rfl Try.results123 Try.ntmps123 rfl ?_
    repeat' (first | (with_reducible first | refine RL.done ?_ | refine RL.app0 ?_) | (with_reducible refine RL.wanted ?_ ?_; exact rfl) | ((with_reducible show RH _ _ _ ⟨some 2, .box _ _, _, _, _, _⟩ _ _ _ _); (refine RH.boxAgg rfl rfl ?_; rintro _ _ ⟨b2, rfl, rfl⟩)) | ((with_reducible show RH _ _ _ ⟨some 3, .box _ _, _, _, _, _⟩ _ _ _ _); (refine RH.boxAgg rfl rfl ?_; rintro _ _ ⟨b3, rfl, rfl⟩)) | ((with_reducible show RH _ _ _ ⟨_, .call ⟨.value (.func 148), _, _⟩, _, _, _, _⟩ _ _ _ _); refine RH.cP Try.call148 ?_; refine ⟨_, hG, ?_⟩; rintro _ _ ⟨rfl, rfl⟩) | ((with_reducible show RH _ _ _ _ _ _ _ _); refine RH.val (hK := ?_)) | (with_reducible show RL _ _ _ (_ :: _) _ _ _; refine RL.guardNoS rfl rfl rfl rfl rfl rfl ?_) | (with_reducible first | refine Run.seq ?_ | refine Run.region ?_ | refine Run.ret ?_) | (with_reducible refine seqN (K := Run _ _ _ _) ?_))
    all_goals first
      | (refine ⟨eA, _, [], resA, .ch .nil, ?_⟩
         exact ⟨rfl, rfl⟩)
      | (exfalso; simp_all; done)
  | true =>
    rw [ha] at hG
    rw [mayB, ha, Bool.true_and]
    by_cases h4 : n ≤ 4
    · rw [decide_eq_true h4, Bool.true_and]
      refine Spec.of_run2 (n := 16) Try.func123 rfl Try.results123 Try.ntmps123 rfl ?_
      repeat' (first | (with_reducible first | refine RL.done ?_ | refine RL.app0 ?_) | (with_reducible refine RL.wanted ?_ ?_; exact rfl) | ((with_reducible show RH _ _ _ ⟨some 2, .box _ _, _, _, _, _⟩ _ _ _ _); (refine RH.boxAgg rfl rfl ?_; rintro _ _ ⟨b2, rfl, rfl⟩)) | ((with_reducible show RH _ _ _ ⟨some 3, .box _ _, _, _, _, _⟩ _ _ _ _); (refine RH.boxAgg rfl rfl ?_; rintro _ _ ⟨b3, rfl, rfl⟩)) | ((with_reducible show RH _ _ _ ⟨_, .call ⟨.value (.func 148), _, _⟩, _, _, _, _⟩ _ _ _ _); refine RH.cP Try.call148 ?_; refine ⟨_, hG, ?_⟩; rintro _ _ ⟨rfl, rfl⟩) | ((with_reducible show RH _ _ _ ⟨_, .call ⟨.value (.func 163), _, _⟩, _, _, _, _⟩ _ _ _ _); refine RH.cP Try.call163 ?_; refine ⟨_, hC, ?_⟩; rintro _ _ ⟨rfl, rfl⟩) | ((with_reducible show RH _ _ _ _ _ _ _ _); refine RH.val (hK := ?_)) | (with_reducible show RL _ _ _ (_ :: _) _ _ _; first | refine RL.guardYes rfl rfl rfl rfl ?_ | refine RL.guardNoS rfl rfl rfl rfl rfl rfl ?_ | refine RL.splitD rfl rfl rfl (fun h => ?_) (fun h => ?_)) | (with_reducible first | refine Run.seq ?_ | refine Run.region ?_ | refine Run.ret ?_) | (with_reducible refine seqN (K := Run _ _ _ _) ?_))
      all_goals first
        | (exfalso; omega)
        | (refine ⟨eA, _, [], resA, .ch .nil, ?_⟩
           exact ⟨rfl, rfl⟩)
        | (refine ⟨eA, _, [], resA, .ch .nil, ?_⟩
           exact ⟨congrArg vbool (Eq.symm (by assumption)), rfl⟩)
        | (exfalso; simp_all; done)
    · rw [decide_eq_false h4, Bool.false_and]
      refine Spec.of_run2 (n := 16) Try.func123 rfl Try.results123 Try.ntmps123 rfl ?_
      repeat' (first | (with_reducible first | refine RL.done ?_ | refine RL.app0 ?_) | (with_reducible refine RL.wanted ?_ ?_; exact rfl) | ((with_reducible show RH _ _ _ ⟨some 2, .box _ _, _, _, _, _⟩ _ _ _ _); (refine RH.boxAgg rfl rfl ?_; rintro _ _ ⟨b2, rfl, rfl⟩)) | ((with_reducible show RH _ _ _ ⟨some 3, .box _ _, _, _, _, _⟩ _ _ _ _); (refine RH.boxAgg rfl rfl ?_; rintro _ _ ⟨b3, rfl, rfl⟩)) | ((with_reducible show RH _ _ _ ⟨_, .call ⟨.value (.func 148), _, _⟩, _, _, _, _⟩ _ _ _ _); refine RH.cP Try.call148 ?_; refine ⟨_, hG, ?_⟩; rintro _ _ ⟨rfl, rfl⟩) | ((with_reducible show RH _ _ _ ⟨_, .call ⟨.value (.func 163), _, _⟩, _, _, _, _⟩ _ _ _ _); refine RH.cP Try.call163 ?_; refine ⟨_, hC, ?_⟩; rintro _ _ ⟨rfl, rfl⟩) | ((with_reducible show RH _ _ _ _ _ _ _ _); refine RH.val (hK := ?_)) | (with_reducible show RL _ _ _ (_ :: _) _ _ _; first | refine RL.guardYes rfl rfl rfl rfl ?_ | refine RL.guardNoS rfl rfl rfl rfl rfl rfl ?_ | refine RL.splitD rfl rfl rfl (fun h => ?_) (fun h => ?_)) | (with_reducible first | refine Run.seq ?_ | refine Run.region ?_ | refine Run.ret ?_) | (with_reducible refine seqN (K := Run _ _ _ _) ?_))
      all_goals first
        | (exfalso; omega)
        | (refine ⟨eA, _, [], resA, .ch .nil, ?_⟩
           exact ⟨rfl, rfl⟩)
        | (exfalso; simp_all; done)
set_option maxRecDepth 10000 in
set_option maxHeartbeats 1000000 in
theorem canSearch_c (n : Int) (os : List (Int × List Int)) (a : Int) (rs : List (List Int × List Int)) (hol : os.length ≤ 4611686018427387904) (ho : OpsLen os) (hl : rs.length ≤ 4611686018427387904) (hr : ∀ y ∈ rs, y.1.length ≤ 4611686018427387904 ∧ y.2.length ≤ 4611686018427387904) :
    Spec Try.prog 126 [vagg [vint n, vsl 2 (fun y : Int × (List Int) => [vint y.1, vsl 1 (fun x : Int => [vint x]) y.2]) os], vagg [vint a, vsl 2 (fun y : (List Int) × (List Int) => [vsl 1 (fun x : Int => [vint x]) y.1, vsl 1 (fun x : Int => [vint x]) y.2]) rs]] [] (fun r S' => r = vbool (mayB n os a rs) ∧ S' = []) := by
  have hG := isAlgebra_c n os hol ho
  have hC := implIsCondition_c a rs hl hr
  cases ha : algB n os with
  | false =>
    rw [ha] at hG
    rw [mayB, ha, Bool.false_and]
    refine Spec.of_run2 (n := 16) Try.func126 rfl Try.results126 Try.ntmps126 rfl ?_
    repeat' (first | (with_reducible first | refine RL.done ?_ | refine RL.app0 ?_) | (with_reducible refine RL.wanted ?_ ?_; exact rfl) | ((with_reducible show RH _ _ _ ⟨some 2, .box _ _, _, _, _, _⟩ _ _ _ _); (refine RH.boxAgg rfl rfl ?_; rintro _ _ ⟨b2, rfl, rfl⟩)) | ((with_reducible show RH _ _ _ ⟨some 3, .box _ _, _, _, _, _⟩ _ _ _ _); (refine RH.boxAgg rfl rfl ?_; rintro _ _ ⟨b3, rfl, rfl⟩)) | ((with_reducible show RH _ _ _ ⟨_, .call ⟨.value (.func 154), _, _⟩, _, _, _, _⟩ _ _ _ _); refine RH.cP Try.call154 ?_; refine ⟨_, hG, ?_⟩; rintro _ _ ⟨rfl, rfl⟩) | ((with_reducible show RH _ _ _ _ _ _ _ _); refine RH.val (hK := ?_)) | (with_reducible show RL _ _ _ (_ :: _) _ _ _; refine RL.guardNoS rfl rfl rfl rfl rfl rfl ?_) | (with_reducible first | refine Run.seq ?_ | refine Run.region ?_ | refine Run.ret ?_) | (with_reducible refine seqN (K := Run _ _ _ _) ?_))
    all_goals first
      | (refine ⟨eA, _, [], resA, .ch .nil, ?_⟩
         exact ⟨rfl, rfl⟩)
      | (exfalso; simp_all; done)
  | true =>
    rw [ha] at hG
    rw [mayB, ha, Bool.true_and]
    by_cases h4 : n ≤ 4
    · rw [decide_eq_true h4, Bool.true_and]
      refine Spec.of_run2 (n := 16) Try.func126 rfl Try.results126 Try.ntmps126 rfl ?_
      repeat' (first | (with_reducible first | refine RL.done ?_ | refine RL.app0 ?_) | (with_reducible refine RL.wanted ?_ ?_; exact rfl) | ((with_reducible show RH _ _ _ ⟨some 2, .box _ _, _, _, _, _⟩ _ _ _ _); (refine RH.boxAgg rfl rfl ?_; rintro _ _ ⟨b2, rfl, rfl⟩)) | ((with_reducible show RH _ _ _ ⟨some 3, .box _ _, _, _, _, _⟩ _ _ _ _); (refine RH.boxAgg rfl rfl ?_; rintro _ _ ⟨b3, rfl, rfl⟩)) | ((with_reducible show RH _ _ _ ⟨_, .call ⟨.value (.func 154), _, _⟩, _, _, _, _⟩ _ _ _ _); refine RH.cP Try.call154 ?_; refine ⟨_, hG, ?_⟩; rintro _ _ ⟨rfl, rfl⟩) | ((with_reducible show RH _ _ _ ⟨_, .call ⟨.value (.func 170), _, _⟩, _, _, _, _⟩ _ _ _ _); refine RH.cP Try.call170 ?_; refine ⟨_, hC, ?_⟩; rintro _ _ ⟨rfl, rfl⟩) | ((with_reducible show RH _ _ _ _ _ _ _ _); refine RH.val (hK := ?_)) | (with_reducible show RL _ _ _ (_ :: _) _ _ _; first | refine RL.guardYes rfl rfl rfl rfl ?_ | refine RL.guardNoS rfl rfl rfl rfl rfl rfl ?_ | refine RL.splitD rfl rfl rfl (fun h => ?_) (fun h => ?_)) | (with_reducible first | refine Run.seq ?_ | refine Run.region ?_ | refine Run.ret ?_) | (with_reducible refine seqN (K := Run _ _ _ _) ?_))
      all_goals first
        | (exfalso; omega)
        | (refine ⟨eA, _, [], resA, .ch .nil, ?_⟩
           exact ⟨rfl, rfl⟩)
        | (refine ⟨eA, _, [], resA, .ch .nil, ?_⟩
           exact ⟨congrArg vbool (Eq.symm (by assumption)), rfl⟩)
        | (exfalso; simp_all; done)
    · rw [decide_eq_false h4, Bool.false_and]
      refine Spec.of_run2 (n := 16) Try.func126 rfl Try.results126 Try.ntmps126 rfl ?_
      repeat' (first | (with_reducible first | refine RL.done ?_ | refine RL.app0 ?_) | (with_reducible refine RL.wanted ?_ ?_; exact rfl) | ((with_reducible show RH _ _ _ ⟨some 2, .box _ _, _, _, _, _⟩ _ _ _ _); (refine RH.boxAgg rfl rfl ?_; rintro _ _ ⟨b2, rfl, rfl⟩)) | ((with_reducible show RH _ _ _ ⟨some 3, .box _ _, _, _, _, _⟩ _ _ _ _); (refine RH.boxAgg rfl rfl ?_; rintro _ _ ⟨b3, rfl, rfl⟩)) | ((with_reducible show RH _ _ _ ⟨_, .call ⟨.value (.func 154), _, _⟩, _, _, _, _⟩ _ _ _ _); refine RH.cP Try.call154 ?_; refine ⟨_, hG, ?_⟩; rintro _ _ ⟨rfl, rfl⟩) | ((with_reducible show RH _ _ _ ⟨_, .call ⟨.value (.func 170), _, _⟩, _, _, _, _⟩ _ _ _ _); refine RH.cP Try.call170 ?_; refine ⟨_, hC, ?_⟩; rintro _ _ ⟨rfl, rfl⟩) | ((with_reducible show RH _ _ _ _ _ _ _ _); refine RH.val (hK := ?_)) | (with_reducible show RL _ _ _ (_ :: _) _ _ _; first | refine RL.guardYes rfl rfl rfl rfl ?_ | refine RL.guardNoS rfl rfl rfl rfl rfl rfl ?_ | refine RL.splitD rfl rfl rfl (fun h => ?_) (fun h => ?_)) | (with_reducible first | refine Run.seq ?_ | refine Run.region ?_ | refine Run.ret ?_) | (with_reducible refine seqN (K := Run _ _ _ _) ?_))
      all_goals first
        | (exfalso; omega)
        | (refine ⟨eA, _, [], resA, .ch .nil, ?_⟩
           exact ⟨rfl, rfl⟩)
        | (exfalso; simp_all; done)
set_option maxRecDepth 10000 in
set_option maxHeartbeats 1000000 in
theorem l15First_c (N k0 size : Nat) (h1 : 1 ≤ N) (h4 : N ≤ 4) (rs : List (List Int × List Int)) (hc : condB (k0 : Int) rs = true) (hs : pw (N : Int) k0 = size) (h64 : size ≤ 64) :
    Spec Try.prog 165 [vint (N : Int), vagg [vint (k0 : Int), vsl 2 (fun y : (List Int) × (List Int) => [vsl 1 (fun x : Int => [vint x]) y.1, vsl 1 (fun x : Int => [vint x]) y.2]) rs]] [] (fun r S' => ∃ s : Sv, r = vlit (vsv s) ∧ S' = [hsl (tS tInt) (vsv s) (fstR N k0 size (pats rs) k0)]) := by
  have ha := (condB_rules hc).1
  have hps := pats_ok hc
  have hll := pats_few hc
  refine Spec.of_run2 (n := 32) Try.func165 rfl Try.results165 Try.ntmps165 rfl ?_
  repeat' (first | (with_reducible refine RL.done ?_) | (with_reducible refine RL.wanted ?_ ?_; exact rfl) | ((with_reducible show RH _ _ _ ⟨some 3, .box _ _, _, _, _, _⟩ _ _ _ _); (refine RH.boxAgg rfl rfl ?_; rintro _ _ ⟨b3, rfl, rfl⟩)) | ((with_reducible show RH _ _ _ ⟨some 8, .buildSlice _ _ _, _, _, _, _⟩ _ _ _ _); (refine RH.eff rfl rfl (EOpS.e (EOpS.slitV (by ((repeat (first | exact Elts.nil | apply Elts.one1 rfl | apply Elts.agg2 rfl)); done)) (by simp) rfl rfl)) ?_; rintro _ _ ⟨b8, rfl, rfl⟩)) | ((with_reducible show RH _ _ _ ⟨_, .call ⟨.value (.func 164), _, _⟩, _, _, _, _⟩ _ _ _ _); refine RH.cP Try.call164 ?_; refine ⟨_, l15Patterns_c (k0 : Int) rs hc, ?_⟩; rintro _ _ ⟨s10, rfl, rfl⟩; refine RL.app1 ?_; refine RL.frzS ?_) | ((with_reducible show RH _ _ _ _ _ _ _ _); refine RH.val (hK := ?_)) | (with_reducible first | refine Run.seq ?_ | refine Run.region ?_ | refine Run.block ?_) | (with_reducible refine seqN (K := Run _ _ _ _) ?_))
  refine Run.sent (T := [hsl (tS tInt) (vsv (some ⟨b8, 0, none⟩, 0, 0)) [], hcells b3 [vint (k0 : Int), vsl 2 (fun y : (List Int) × (List Int) => [vsl 1 (fun x : Int => [vint x]) y.1, vsl 1 (fun x : Int => [vint x]) y.2]) rs]]) (SEnt.packNil (tS tInt) rfl) ?_
  refine Run.loop (α := Nat × Sv) (fun z => [(0, vint (N : Int)), (3, vptr b3 0), (5, vlit (vsv z.2)), (6, vsl 1 (fun t : List Int => [vsl 1 (fun x : Int => [vint x]) t]) (pats rs)), (7, vint (z.1 : Int))])
    (fun z => [hsl (tS tInt) (vsv z.2) (fstR N k0 size (pats rs) z.1), hcells b3 [vint (k0 : Int), vsl 2 (fun y : (List Int) × (List Int) => [vsl 1 (fun x : Int => [vint x]) y.1, vsl 1 (fun x : Int => [vint x]) y.2]) rs]]) (fun z => z.1 ≤ k0) (fun z => k0 - z.1) (0, (some ⟨b8, 0, none⟩, 0, 0)) (Nat.zero_le _) (Ent.of slA .refl) ?_
  rintro ⟨i, s⟩ hi
  dsimp only at hi ⊢
  have hfl := fstR_length N k0 size (pats rs) i
  rcases Nat.lt_or_eq_of_le hi with h9 | h9
  · have hd := fstR_succ N k0 size (pats rs) i
    repeat' (first | (with_reducible first | refine RL.done ?_ | refine RD.app1 ?_) | (with_reducible refine RL.wanted ?_ ?_; exact rfl) | ((with_reducible show Run _ _ (.region 6 _ true) _ _ _); refine Run.regionD (fun i => i == 13) rfl ?_; change RD _ _ _ _ _ _ 15 (dm 15 0) _ _) | ((with_reducible show RD _ _ 6 _ _ _ _ _ _ _); first | ((with_reducible show RD _ _ _ _ _ _ _ (dm 15 0) _ _); refine RD.tk 0 (dm 15 24576) (dm 15 1) (hK := ?_)) | ((with_reducible show RD _ _ _ _ _ _ _ (dm 15 1) _ _); refine RD.tk 1 (dm 15 30720) (dm 15 3) (hK := ?_)) | ((with_reducible show RD _ _ _ _ _ _ _ (dm 15 3) _ _); refine RD.tk 2 (dm 15 31240) (dm 15 7) (hK := ?_)) | ((with_reducible show RD _ _ _ _ _ _ _ (dm 15 7) _ _); refine RD.tk 3 (dm 15 31232) (dm 15 15) (hK := ?_)) | ((with_reducible show RD _ _ _ _ _ _ _ (dm 15 15) _ _); refine RD.tk 4 (dm 15 31488) (dm 15 31) (hK := ?_)) | ((with_reducible show RD _ _ _ _ _ _ _ (dm 15 31) _ _); refine RD.tk 5 (dm 15 31552) (dm 15 63) (hK := ?_)) | ((with_reducible show RD _ _ _ _ _ _ _ (dm 15 63) _ _); refine RD.tk 6 (dm 15 31488) (dm 15 127) (hK := ?_)) | ((with_reducible show RD _ _ _ _ _ _ _ (dm 15 127) _ _); refine RD.tk 7 (dm 15 31488) (dm 15 255) (hK := ?_)) | ((with_reducible show RD _ _ _ _ _ _ _ (dm 15 255) _ _); refine RD.tk 10 (dm 15 30720) (dm 15 1279) (hK := ?_)) | ((with_reducible show RD _ _ _ _ _ _ _ (dm 15 1279) _ _); refine RD.a1 8 ?_) | ((with_reducible show RD _ _ _ _ _ _ _ (dm 15 1535) _ _); refine RD.tk 9 (dm 15 30720) (dm 15 2047) (hK := ?_)) | ((with_reducible show RD _ _ _ _ _ _ _ (dm 15 2047) _ _); refine RD.a1 11 ?_) | ((with_reducible show RD _ _ _ _ _ _ _ (dm 15 4095) _ _); refine RD.a1 12 ?_) | ((with_reducible show RD _ _ _ _ _ _ _ (dm 15 8191) _ _); refine RD.a1 13 ?_) | ((with_reducible show RD _ _ _ _ _ _ _ (dm 15 16383) _ _); refine RD.tk 14 (dm 15 0) (dm 15 32767) (hK := ?_)) | ((with_reducible show RD _ _ _ _ _ _ 0 _ _ _); refine RD.done (by kernel_rfl) ?_)) | ((with_reducible show RO _ _ 6 _ _ _ _ _ _ _ _); first | ((with_reducible show RO _ _ _ _ _ _ _ (dm 15 1279) 8 _ _); (refine RO.cP (dm 15 1535) Try.call186 ?_; refine ⟨_, l12Projection_c (N : Int) k0 i size (by omega) (by omega) (by omega) (by omega) hs h64, ?_⟩; rintro _ _ ⟨s25, rfl, rfl⟩; refine RD.app1 ?_; refine RD.frzI ?_)) | ((with_reducible show RO _ _ _ _ _ _ _ (dm 15 2047) 11 _ _); (refine RO.cP (dm 15 4095) Try.call185 ?_; refine ⟨_, l15Row_c N h1 h4 k0 (by omega) (projL (N : Int) k0 i size) (by rw [projL_length]; exact hs.symm) (pats rs) hps hll, ?_⟩; rintro _ _ ⟨s28, rfl, rfl⟩)) | ((with_reducible show RO _ _ _ _ _ _ _ (dm 15 4095) 12 _ _); (refine RO.eS (dm 15 8191) (hv := by show EOpS _ _ _ _ ⟨_, .buildSlice _ _ _, _, _, _, _⟩ _; exact EOpS.slitV (by ((repeat (first | exact Elts.nil | apply Elts.one1 rfl | apply Elts.agg2 rfl)); done)) (by simp) rfl rfl) (h := ?_); rintro _ _ ⟨b29, rfl, rfl⟩)) | ((with_reducible show RO _ _ _ _ _ _ _ (dm 15 8191) 13 _ _); (refine RO.h (dm 15 16383) ?_; show RH _ _ _ ⟨_, _, _, _, _, _⟩ _ _ _ _))) | ((with_reducible show RH _ _ _ ⟨_, .call ⟨.builtin .append, _, _⟩, _, _, _, _⟩ _ _ _ _); (refine RH.appR rfl rfl rfl (by repeat (first | exact Pick.nil | (apply Pick.cons; (with_reducible repeat (first | exact Rem.head | apply Rem.tail))))) (by first | omega | (simp; omega)) (by first | omega | (simp; omega)) ?_); rintro _ _ ⟨s, rfl, rfl⟩) | ((with_reducible show RH _ _ _ _ _ _ _ _); refine RH.val (hK := ?_)) | (with_reducible first | refine Run.seq ?_ | refine Run.region ?_ | refine Run.block ?_ | refine Run.skip ?_ | refine Run.exit ?_ | refine Run.ret ?_) | (with_reducible show Run _ _ (.cond _ _ _) _ _ _; refine Run.condD rfl (fun h => ?_) (fun h => ?_)) | (with_reducible first | refine seqN (K := Run _ _ _ _) ?_ | refine seqE ?_ | refine blockN ?_ | refine blockE ?_))
    all_goals first
      | (exfalso; omega)
      | (with_reducible refine seqN ?_
         exact ⟨(i + 1, _), by dsimp only; omega, by dsimp only; omega, Ent.of (by dsimp only; exact slA) (by dsimp only; rw [hd]; exact chA)⟩)
  · subst h9
    repeat' (first | (with_reducible refine RL.done ?_) | (with_reducible refine RL.wanted ?_ ?_; exact rfl) | ((with_reducible show RH _ _ _ _ _ _ _ _); refine RH.val (hK := ?_)) | (with_reducible first | refine Run.seq ?_ | refine Run.region ?_ | refine Run.block ?_ | refine Run.skip ?_ | refine Run.exit ?_ | refine Run.ret ?_) | (with_reducible show Run _ _ (.cond _ _ _) _ _ _; refine Run.condD rfl (fun h => ?_) (fun h => ?_)) | (with_reducible first | refine seqN (K := Run _ _ _ _) ?_ | refine seqE ?_ | refine blockE ?_))
    all_goals first
      | (exfalso; omega)
      | (refine ⟨eA, _, [hsl (tS tInt) (vsv s) (fstR N i size (pats rs) i)], resA, ?_, ?_⟩
         · exact SEnt.ch chA
         · exact ⟨s, rfl, rfl⟩)
set_option maxRecDepth 10000 in
set_option maxHeartbeats 1000000 in
theorem projectionRows_c (N k0 size : Nat) (h1 : 1 ≤ N) (h4 : N ≤ 4) (rs : List (List Int × List Int)) (hc : condB (k0 : Int) rs = true) (hs : pw (N : Int) k0 = size) (h64 : size ≤ 64) :
    Spec Try.prog 173 [vint (N : Int), vagg [vint (k0 : Int), vsl 2 (fun y : (List Int) × (List Int) => [vsl 1 (fun x : Int => [vint x]) y.1, vsl 1 (fun x : Int => [vint x]) y.2]) rs]] [] (fun r S' => ∃ s : Sv, r = vlit (vsv s) ∧ S' = [hsl (tS tInt) (vsv s) (fstR N k0 size (pats rs) k0)]) := by
  have ha := (condB_rules hc).1
  refine Spec.of_run2 (n := 26) Try.func173 rfl Try.results173 Try.ntmps173 rfl ?_
  repeat' (first | (with_reducible refine RL.done ?_) | (with_reducible refine RL.wanted ?_ ?_; exact rfl) | ((with_reducible show RH _ _ _ ⟨some 3, .box _ _, _, _, _, _⟩ _ _ _ _); (refine RH.boxAgg rfl rfl ?_; rintro _ _ ⟨b3, rfl, rfl⟩)) | ((with_reducible show RH _ _ _ ⟨some 7, .buildSlice _ _ _, _, _, _, _⟩ _ _ _ _); (refine RH.eff rfl rfl (EOpS.e (EOpS.slitV (by ((repeat (first | exact Elts.nil | apply Elts.one1 rfl | apply Elts.agg2 rfl)); done)) (by simp) rfl rfl)) ?_; rintro _ _ ⟨b7, rfl, rfl⟩)) | ((with_reducible show RH _ _ _ _ _ _ _ _); refine RH.val (hK := ?_)) | (with_reducible first | refine Run.seq ?_ | refine Run.region ?_ | refine Run.block ?_) | (with_reducible refine seqN (K := Run _ _ _ _) ?_))
  refine Run.sent (T := [hsl (tS tInt) (vsv (some ⟨b7, 0, none⟩, 0, 0)) [], hcells b3 [vint (k0 : Int), vsl 2 (fun y : (List Int) × (List Int) => [vsl 1 (fun x : Int => [vint x]) y.1, vsl 1 (fun x : Int => [vint x]) y.2]) rs]]) (SEnt.packNil (tS tInt) rfl) ?_
  refine Run.loop (α := Nat × Sv) (fun z => [(0, vint (N : Int)), (3, vptr b3 0), (5, vlit (vsv z.2)), (6, vint (z.1 : Int))])
    (fun z => [hsl (tS tInt) (vsv z.2) (fstR N k0 size (pats rs) z.1), hcells b3 [vint (k0 : Int), vsl 2 (fun y : (List Int) × (List Int) => [vsl 1 (fun x : Int => [vint x]) y.1, vsl 1 (fun x : Int => [vint x]) y.2]) rs]]) (fun z => z.1 ≤ k0) (fun z => k0 - z.1) (0, (some ⟨b7, 0, none⟩, 0, 0)) (Nat.zero_le _) (Ent.of slA .refl) ?_
  rintro ⟨i, s⟩ hi
  dsimp only at hi ⊢
  have hfl := fstR_length N k0 size (pats rs) i
  rcases Nat.lt_or_eq_of_le hi with h9 | h9
  · have hd := fstR_succ N k0 size (pats rs) i
    repeat' (first | (with_reducible first | refine RL.done ?_ | refine RD.app1 ?_) | (with_reducible refine RL.wanted ?_ ?_; exact rfl) | ((with_reducible show Run _ _ (.region 5 _ true) _ _ _); refine Run.regionD (fun i => i == 10) rfl ?_; change RD _ _ _ _ _ _ 12 (dm 12 0) _ _) | ((with_reducible show RD _ _ 5 _ _ _ _ _ _ _); first | ((with_reducible show RD _ _ _ _ _ _ _ (dm 12 0) _ _); refine RD.tk 0 (dm 12 3072) (dm 12 1) (hK := ?_)) | ((with_reducible show RD _ _ _ _ _ _ _ (dm 12 1) _ _); refine RD.tk 1 (dm 12 3840) (dm 12 3) (hK := ?_)) | ((with_reducible show RD _ _ _ _ _ _ _ (dm 12 3) _ _); refine RD.tk 2 (dm 12 3904) (dm 12 7) (hK := ?_)) | ((with_reducible show RD _ _ _ _ _ _ _ (dm 12 7) _ _); refine RD.tk 3 (dm 12 3920) (dm 12 15) (hK := ?_)) | ((with_reducible show RD _ _ _ _ _ _ _ (dm 12 15) _ _); refine RD.tk 4 (dm 12 3904) (dm 12 31) (hK := ?_)) | ((with_reducible show RD _ _ _ _ _ _ _ (dm 12 31) _ _); refine RD.tk 5 (dm 12 3904) (dm 12 63) (hK := ?_)) | ((with_reducible show RD _ _ _ _ _ _ _ (dm 12 63) _ _); refine RD.tk 7 (dm 12 3840) (dm 12 191) (hK := ?_)) | ((with_reducible show RD _ _ _ _ _ _ _ (dm 12 191) _ _); refine RD.a1 6 ?_) | ((with_reducible show RD _ _ _ _ _ _ _ (dm 12 255) _ _); refine RD.a1 8 ?_) | ((with_reducible show RD _ _ _ _ _ _ _ (dm 12 511) _ _); refine RD.a1 9 ?_) | ((with_reducible show RD _ _ _ _ _ _ _ (dm 12 1023) _ _); refine RD.a1 10 ?_) | ((with_reducible show RD _ _ _ _ _ _ _ (dm 12 2047) _ _); refine RD.tk 11 (dm 12 0) (dm 12 4095) (hK := ?_)) | ((with_reducible show RD _ _ _ _ _ _ 0 _ _ _); refine RD.done (by kernel_rfl) ?_)) | ((with_reducible show RO _ _ 5 _ _ _ _ _ _ _ _); first | ((with_reducible show RO _ _ _ _ _ _ _ (dm 12 191) 6 _ _); (refine RO.cP (dm 12 255) Try.call194 ?_; refine ⟨_, projection_c (N : Int) k0 i size (by omega) (by omega) (by omega) (by omega) hs h64, ?_⟩; rintro _ _ ⟨s20, rfl, rfl⟩; refine RD.app1 ?_; refine RD.frzI ?_)) | ((with_reducible show RO _ _ _ _ _ _ _ (dm 12 255) 8 _ _); (refine RO.cP (dm 12 511) Try.call193 ?_; refine ⟨_, rowOf_c N h1 h4 k0 (by omega) (projL (N : Int) k0 i size) (by rw [projL_length]; exact hs.symm) rs (k0 : Int) rfl hc, ?_⟩; rintro _ _ ⟨s22, rfl, rfl⟩)) | ((with_reducible show RO _ _ _ _ _ _ _ (dm 12 511) 9 _ _); (refine RO.eS (dm 12 1023) (hv := by show EOpS _ _ _ _ ⟨_, .buildSlice _ _ _, _, _, _, _⟩ _; exact EOpS.slitV (by ((repeat (first | exact Elts.nil | apply Elts.one1 rfl | apply Elts.agg2 rfl)); done)) (by simp) rfl rfl) (h := ?_); rintro _ _ ⟨b23, rfl, rfl⟩)) | ((with_reducible show RO _ _ _ _ _ _ _ (dm 12 1023) 10 _ _); (refine RO.h (dm 12 2047) ?_; show RH _ _ _ ⟨_, _, _, _, _, _⟩ _ _ _ _))) | ((with_reducible show RH _ _ _ ⟨_, .call ⟨.builtin .append, _, _⟩, _, _, _, _⟩ _ _ _ _); (refine RH.appR rfl rfl rfl (by repeat (first | exact Pick.nil | (apply Pick.cons; (with_reducible repeat (first | exact Rem.head | apply Rem.tail))))) (by first | omega | (simp; omega)) (by first | omega | (simp; omega)) ?_); rintro _ _ ⟨s, rfl, rfl⟩) | ((with_reducible show RH _ _ _ _ _ _ _ _); refine RH.val (hK := ?_)) | (with_reducible first | refine Run.seq ?_ | refine Run.region ?_ | refine Run.block ?_ | refine Run.skip ?_ | refine Run.exit ?_ | refine Run.ret ?_) | (with_reducible show Run _ _ (.cond _ _ _) _ _ _; refine Run.condD rfl (fun h => ?_) (fun h => ?_)) | (with_reducible first | refine seqN (K := Run _ _ _ _) ?_ | refine seqE ?_ | refine blockN ?_ | refine blockE ?_))
    all_goals first
      | (exfalso; omega)
      | (with_reducible refine seqN ?_
         exact ⟨(i + 1, _), by dsimp only; omega, by dsimp only; omega, Ent.of (by dsimp only; exact slA) (by dsimp only; rw [hd]; exact chA)⟩)
  · subst h9
    repeat' (first | (with_reducible refine RL.done ?_) | (with_reducible refine RL.wanted ?_ ?_; exact rfl) | ((with_reducible show RH _ _ _ _ _ _ _ _); refine RH.val (hK := ?_)) | (with_reducible first | refine Run.seq ?_ | refine Run.region ?_ | refine Run.block ?_ | refine Run.skip ?_ | refine Run.exit ?_ | refine Run.ret ?_) | (with_reducible show Run _ _ (.cond _ _ _) _ _ _; refine Run.condD rfl (fun h => ?_) (fun h => ?_)) | (with_reducible first | refine seqN (K := Run _ _ _ _) ?_ | refine seqE ?_ | refine blockE ?_))
    all_goals first
      | (exfalso; omega)
      | (refine ⟨eA, _, [hsl (tS tInt) (vsv s) (fstR N i size (pats rs) i)], resA, ?_, ?_⟩
         · exact SEnt.ch chA
         · exact ⟨s, rfl, rfl⟩)
end Go.Proofs.Ytiifdhdhjioefaa

/- Derivations over the rows of a condition: impl.derivedRows, spec.l15Step, ObeyedBy on both sides: the same answer. Proved for this program; conditions: lengths below 2^62. -/
namespace Go.Proofs.Ytiifdhdhjioefaa
open Go Go.Proofs
set_option linter.unusedVariables false
theorem pw_64 (n : Int) (h0 : 1 ≤ n) (h4 : n ≤ 4) (k : Nat) (hk : k ≤ 3) : pw n k ≤ 64 := by
  have h1 : pw n 1 = n := by simp [pw]
  have h2 : pw n 2 ≤ 4 * 4 := Int.mul_le_mul (by omega : pw n 1 ≤ 4) h4 (by omega) (by decide)
  have h3 : pw n 3 ≤ 16 * 4 := Int.mul_le_mul h2 h4 (by omega) (by decide)
  match k, hk with
  | 0, _ => simp [pw]
  | 1, _ => omega
  | 2, _ => omega
  | 3, _ => omega
end Go.Proofs.Ytiifdhdhjioefaa

/- The last row of a derivation obeys a condition: spec.ObeyedBy, impl.ObeyedBy: the same answer. Proved for this program; conditions: lengths below 2^62. -/
namespace Go.Proofs.Ytiifdhdhjioefaa
open Go Go.Proofs
set_option linter.unusedVariables false
/-- what is known where there is an answer -/
structure MalOk (N k0 size : Nat) (os : List (Int × List Int)) (rs : List (List Int × List Int)) : Prop where
  alg : algB (N : Int) os = true
  n1 : 1 ≤ N
  n4 : N ≤ 4
  cond : condB (k0 : Int) rs = true
  pw : pw (N : Int) k0 = size
  few : size ≤ 64
  k2 : 2 ≤ k0
  k3 : k0 ≤ 3
theorem mal_ok {n : Int} {os : List (Int × List Int)} {a : Int} {rs : List (List Int × List Int)} (h : mayB n os a rs = true) : ∃ N k0 size : Nat, n = N ∧ a = k0 ∧ MalOk N k0 size os rs ∧ fstN n a rs = fstR N k0 size (pats rs) k0 := by
  obtain ⟨h1, h2, h3, h4, h5⟩ := mayB_at h
  have hp := pw_64 n h2.1 h2.2 a.toNat (by omega)
  have hp0 := pw_nonneg n (by omega) a.toNat
  refine ⟨n.toNat, a.toNat, (pw n a.toNat).toNat, by omega, by omega, ⟨?_, by omega, by omega, ?_, ?_, by omega, by omega, by omega⟩, rfl⟩
  · rw [Int.toNat_of_nonneg (by omega)]; exact h1
  · rw [Int.toNat_of_nonneg (by omega)]; exact h3
  · rw [Int.toNat_of_nonneg (show 0 ≤ n by omega), Int.toNat_of_nonneg hp0]
end Go.Proofs.Ytiifdhdhjioefaa

/- Rows that show that no term function obeys a condition: spec.IsRefutation, impl.isClosedRows, IsRefutation: the same answer. Proved for this program; conditions: lengths below 2^62. -/
namespace Go.Proofs.Ytiifdhdhjioefaa
open Go Go.Proofs
set_option linter.unusedVariables false
theorem low_in {K k i : Nat} (hK : 1 ≤ K) : ∀ x ∈ lowd (i : Int) (K : Int) k, 0 ≤ x ∧ x.toNat < K := fun x hx => by
  have := lowd_range' (i : Int) (K : Int) (by omega) (by omega) _ x hx
  omega
end Go.Proofs.Ytiifdhdhjioefaa
