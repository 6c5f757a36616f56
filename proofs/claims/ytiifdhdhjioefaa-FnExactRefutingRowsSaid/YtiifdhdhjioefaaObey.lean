/- Rows that obey a condition: spec.l15Obeys, impl.rowObeys: the same answer. Proved for this program; conditions: a valid condition, its patterns, 1 to 4 elements, a row for each position. -/
import Derived.Test.YtiifdhdhjioefaaPatL
namespace Go.Proofs.Ytiifdhdhjioefaa
open Go Go.Proofs
set_option linter.unusedVariables false

theorem placeAt_mem {xs : List (List Int)} {p : List Int} (h : p ∈ xs) : 0 ≤ placeAt xs p := by
  induction xs with
  | nil => cases h
  | cons x xs ih =>
    rw [placeAt]
    split
    · omega
    · rename_i hne
      have := ih ((List.mem_cons.1 h).resolve_left (fun e => hne e.symm))
      rw [if_neg (by omega)]; omega
theorem mem_of_place {xs : List (List Int)} {p : List Int} (h : ¬ placeAt xs p < 0) : p ∈ xs := by
  apply Classical.byContradiction; intro hn
  rw [placeAt_none (p := p) (fun x hx e => hn (by rw [← e]; exact hx))] at h; omega
theorem addP_mem (l : List (List Int)) (p : List Int) : p ∈ addP l p := by
  unfold addP; split
  · simp
  · rename_i h; exact mem_of_place h
theorem addP_sub {l : List (List Int)} {t : List Int} (p : List Int) (h : t ∈ l) : t ∈ addP l p := by
  unfold addP; split
  · simp [h]
  · exact h
theorem patStep_sub {l : List (List Int)} {t : List Int} (y : List Int × List Int) (h : t ∈ l) : t ∈ patStep l y := by
  unfold patStep; split
  · exact addP_sub _ (addP_sub _ h)
  · exact addP_sub _ h
theorem pats_mem {rs : List (List Int × List Int)} : ∀ j, j ≤ rs.length → ∀ i (hi : i < rs.length), i < j → rs[i].1 ∈ pats (rs.take j) ∧ (1 < (rs[i].2.length : Int) → rs[i].2 ∈ pats (rs.take j))
  | 0, _, i, hi, h => by omega
  | j + 1, hj, i, hi, h => by
    rw [pats_succ rs j (by omega)]
    rcases Nat.lt_or_eq_of_le (Nat.le_of_lt_succ h) with h2 | rfl
    · obtain ⟨h3, h4⟩ := pats_mem j (by omega) i hi h2
      exact ⟨patStep_sub _ h3, fun hl => patStep_sub _ (h4 hl)⟩
    · refine ⟨?_, fun hl => ?_⟩
      · unfold patStep; split
        · exact addP_sub _ (addP_mem _ _)
        · exact addP_mem _ _
      · rw [patStep_yes hl]; exact addP_mem _ _

def want (N : Nat) (row : List Int) (ps : List (List Int)) (y : List Int × List Int) (i : Nat) : Int :=
  if 1 < (y.2.length : Int) then row.getD (placeAt ps y.2 * N * N + i).toNat 0 else if y.2.getD 0 0 = 0 then ((i / N : Nat) : Int) else ((i % N : Nat) : Int)
def obAt (N : Nat) (row : List Int) (ps : List (List Int)) (y : List Int × List Int) (i : Nat) : Bool := decide (row.getD (placeAt ps y.1 * N * N + i).toNat 0 = want N row ps y i)
def obRule (N : Nat) (row : List Int) (ps : List (List Int)) (y : List Int × List Int) : Bool := (List.range (N * N)).all (obAt N row ps y)
theorem rAll_succ (f : Nat → Bool) (j : Nat) : (List.range (j + 1)).all f = ((List.range j).all f && f j) := by simp [List.range_succ]
theorem rAll_false (f : Nat → Bool) (j m : Nat) (h : j < m) (hf : f j = false) : (List.range m).all f = false := by
  rw [List.all_eq_false]; exact ⟨j, by simpa using h, by simp [hf]⟩
theorem getD_r (p : List Int) (d : Int) (j : Nat) (h : j < p.length) : p.getD j d = p[j] := by simp [List.getD, h]
theorem condB_var {a : Int} {rs : List (List Int × List Int)} (h : condB a rs = true) : ∀ y ∈ rs, elB 2 y.2 = true := fun y hy => by
  simp only [condB, Bool.and_eq_true, decide_eq_true_eq, List.all_eq_true] at h
  have := h.2.2 y hy
  simp only [ruleB, varB, Bool.and_eq_true, Bool.or_eq_true] at this
  exact this.2.elim (fun h => h.2) (fun h => h.2)

theorem obAt_big {N : Nat} {row : List Int} {ps : List (List Int)} {y : List Int × List Int} {i k1 k2 : Nat} (h : 1 < (y.2.length : Int)) (h1 : k1 < row.length) (h2 : k2 < row.length) (e1 : (placeAt ps y.1 * N * N + i).toNat = k1) (e2 : (placeAt ps y.2 * N * N + i).toNat = k2) :
    obAt N row ps y i = decide (row[k1] = row[k2]) := by
  rw [obAt, want, if_pos h, e1, e2, getD_r _ _ _ h1, getD_r _ _ _ h2]
theorem obAt_small {N : Nat} {row : List Int} {ps : List (List Int)} {y : List Int × List Int} {i k1 : Nat} {x z : Nat} {w : Int} (h : ¬ 1 < (y.2.length : Int)) (h1 : k1 < row.length) (e1 : (placeAt ps y.1 * N * N + i).toNat = k1) (hl : 0 < y.2.length) (hv : y.2[0] = 0 ∧ w = (x : Int) ∨ y.2[0] = 1 ∧ w = (z : Int)) (hx : i / N = x) (hz : i % N = z) :
    obAt N row ps y i = decide (row[k1] = w) := by
  rw [obAt, want, if_neg h, e1, getD_r _ _ _ h1, getD_r _ _ _ hl, hx, hz]
  rcases hv with ⟨e, rfl⟩ | ⟨e, rfl⟩
  · rw [if_pos e]
  · rw [if_neg (by omega)]
theorem two_at {x z v : Int} (h : v = 0 ∨ v = 1) (hv : v.toNat < [x, z].length) : v = 0 ∧ [x, z][v.toNat] = x ∨ v = 1 ∧ [x, z][v.toNat] = z := by
  rcases h with rfl | rfl
  · exact .inl ⟨rfl, rfl⟩
  · exact .inr ⟨rfl, rfl⟩

set_option maxRecDepth 10000 in
set_option maxHeartbeats 4000000 in
theorem l15Obeys_c (N : Nat) (hN : N = 1 ∨ N = 2 ∨ N = 3 ∨ N = 4) (row : List Int) (a : Int) (rs : List (List Int × List Int)) (hc : condB a rs = true) (ps : List (List Int)) (hps : ps = pats rs) (hrow : row.length = ps.length * N * N) :
    Spec Try.prog 187 [vint (N : Int), vsl 1 (fun x : Int => [vint x]) row, vagg [vint a, vsl 2 (fun y : (List Int) × (List Int) => [vsl 1 (fun x : Int => [vint x]) y.1, vsl 1 (fun x : Int => [vint x]) y.2]) rs], vsl 1 (fun t : List Int => [vsl 1 (fun x : Int => [vint x]) t]) ps] [] (fun r S' => r = vbool (rs.all (obRule N row ps)) ∧ S' = []) := by
  obtain ⟨ha, h6, hr⟩ := condB_rules hc
  have hvar := condB_var hc
  have hpl : PatLen ps := by rw [hps]; have := pats_len (fun y hy => by have := hr y hy; omega) rs.length; rwa [List.take_length] at this
  have hll : ps.length ≤ 12 := by rw [hps]; have := pats_le rs rs.length; rw [List.take_length] at this; omega
  have hmem := pats_mem (rs := rs) rs.length (Nat.le_refl _)
  rw [List.take_length, ← hps] at hmem
  rcases hN with rfl | rfl | rfl | rfl
  · refine Spec.of_run2 (n := 99) Try.func187 rfl Try.results187 Try.ntmps187 rfl ?_
    repeat' (first | (with_reducible refine RL.done ?_) | (with_reducible refine RL.wanted ?_ ?_; exact rfl) | ((with_reducible show RH _ _ _ ⟨some 6, .box _ _, _, _, _, _⟩ _ _ _ _); (refine RH.boxAgg rfl rfl ?_; rintro _ _ ⟨b6, rfl, rfl⟩)) | ((with_reducible show RH _ _ _ _ _ _ _ _); refine RH.val (hK := ?_)) | (with_reducible first | refine Run.seq ?_ | refine Run.region ?_ | refine Run.block ?_) | (with_reducible refine seqN (K := Run _ _ _ _) ?_))
    refine Run.loop (α := Nat) (fun j => [(0, vint ((1 : Nat) : Int)), (1, vsl 1 (fun x : Int => [vint x]) row), (3, vsl 1 (fun t : List Int => [vsl 1 (fun x : Int => [vint x]) t]) ps), (6, vptr b6 0), (9, vint (j : Int))]) (fun _ => [hcells b6 [vint a, vsl 2 (fun y : (List Int) × (List Int) => [vsl 1 (fun x : Int => [vint x]) y.1, vsl 1 (fun x : Int => [vint x]) y.2]) rs]]) (fun j => j ≤ rs.length ∧ (rs.take j).all (obRule 1 row ps) = true) (fun j => rs.length - j) 0 (by simp) (Ent.of slA chA) ?_
    rintro j ⟨hj, ht⟩
    rcases Nat.lt_or_eq_of_le hj with h9 | rfl
    · have hp1 := placeAt_le ps rs[j].1
      have hp2 := placeAt_le ps rs[j].2
      have hq1 := placeAt_mem (hmem j h9 h9).1
      have hq2 : 1 < (rs[j].2.length : Int) → 0 ≤ placeAt ps rs[j].2 := fun h => placeAt_mem ((hmem j h9 h9).2 h)
      have hlen := hr _ (List.getElem_mem h9)
      have hl2 : 0 < rs[j].2.length := by omega
      have hv : rs[j].2[0] = 0 ∨ rs[j].2[0] = 1 := by
        have h := hvar _ (List.getElem_mem h9)
        rw [elB, List.all_eq_true] at h
        have := h _ (List.getElem_mem hl2)
        simp only [decide_eq_true_eq] at this; omega
      repeat' (first | (with_reducible first | refine RL.done ?_ | refine RL.app0 ?_) | (with_reducible refine RL.wanted ?_ ?_; exact rfl) | ((with_reducible show RH _ _ _ ⟨_, .call ⟨.value (.func 184), _, _⟩, _, _, _, _⟩ _ _ _ _); refine RH.cP Try.call184 ?_; refine ⟨_, l12Place_c _ _ (by omega) (fun t ht => Nat.le_trans (hpl t ht) (by decide)), ?_⟩; rintro _ _ ⟨rfl, rfl⟩) | ((with_reducible show RH _ _ _ _ _ _ _ _); refine RH.val (hK := ?_)) | (with_reducible first | refine Run.seq ?_ | refine Run.region ?_ | refine Run.block ?_ | refine Run.skip ?_ | refine Run.exit ?_ | refine Run.ret ?_) | (with_reducible show Run _ _ (.cond _ _ _) _ _ _; refine Run.condD rfl (fun h => ?_) (fun h => ?_)) | (with_reducible first | refine seqN (K := Run _ _ _ _) ?_ | refine seqE ?_ | refine blockE ?_))
      · refine Run.loop (α := Nat) (fun x => [(0, vint ((1 : Nat) : Int)), (1, vsl 1 (fun x : Int => [vint x]) row), (3, vsl 1 (fun t : List Int => [vsl 1 (fun x : Int => [vint x]) t]) ps), (6, vptr b6 0), (9, vint (j : Int)), (10, vint (placeAt ps rs[j].1 * ((1 : Nat) : Int) * ((1 : Nat) : Int))), (11, vint (placeAt ps rs[j].2 * ((1 : Nat) : Int) * ((1 : Nat) : Int))), (12, vint (x : Int))]) (fun _ => [hcells b6 [vint a, vsl 2 (fun y : (List Int) × (List Int) => [vsl 1 (fun x : Int => [vint x]) y.1, vsl 1 (fun x : Int => [vint x]) y.2]) rs]]) (fun x => x ≤ 1 ∧ (List.range (x * 1)).all (obAt 1 row ps rs[j]) = true) (fun x => 1 - x) 0 (by simp) (Ent.of slA chA) ?_
        rintro x ⟨hx, hA⟩
        repeat' (first | (with_reducible refine RL.done ?_) | (with_reducible refine RL.wanted ?_ ?_; exact rfl) | ((with_reducible show RH _ _ _ _ _ _ _ _); refine RH.val (hK := ?_)) | (with_reducible first | refine Run.seq ?_ | refine Run.region ?_ | refine Run.block ?_ | refine Run.skip ?_ | refine Run.exit ?_) | (with_reducible show Run _ _ (.cond _ _ _) _ _ _; refine Run.condD rfl (fun h => ?_) (fun h => ?_)) | (with_reducible first | refine seqN (K := Run _ _ _ _) ?_ | refine seqE ?_ | refine blockN ?_ | refine blockE ?_))
        · refine Run.loop (α := Nat) (fun z => [(0, vint ((1 : Nat) : Int)), (1, vsl 1 (fun x : Int => [vint x]) row), (3, vsl 1 (fun t : List Int => [vsl 1 (fun x : Int => [vint x]) t]) ps), (6, vptr b6 0), (9, vint (j : Int)), (10, vint (placeAt ps rs[j].1 * ((1 : Nat) : Int) * ((1 : Nat) : Int))), (11, vint (placeAt ps rs[j].2 * ((1 : Nat) : Int) * ((1 : Nat) : Int))), (12, vint (x : Int)), (13, vint (z : Int))]) (fun _ => [hcells b6 [vint a, vsl 2 (fun y : (List Int) × (List Int) => [vsl 1 (fun x : Int => [vint x]) y.1, vsl 1 (fun x : Int => [vint x]) y.2]) rs]]) (fun z => z ≤ 1 ∧ (List.range (x * 1 + z)).all (obAt 1 row ps rs[j]) = true) (fun z => 1 - z) 0 ⟨Nat.zero_le _, hA⟩ (Ent.of slA chA) ?_
          rintro z ⟨hz, hB⟩
          have hx9 : x < 1 := by omega
          repeat' (first | (with_reducible refine RL.done ?_) | (with_reducible refine RL.wanted ?_ ?_; exact rfl) | ((with_reducible show RH _ _ _ ⟨some 58, .buildSlice _ _ _, _, _, _, _⟩ _ _ _ _); refine RH.eff rfl rfl (EOpS.e (EOpS.slit (fun x : Int => [vint x]) _ (fun _ _ => rfl) (by repeat (first | exact Elts.nil | (apply Elts.cons; exact rfl; exact CellsOf.one))) rfl rfl)) ?_; rintro _ _ ⟨b58, rfl, rfl⟩) | ((with_reducible show RH _ _ _ _ _ _ _ _); refine RH.val (hK := ?_)) | (with_reducible first | refine Run.seq ?_ | refine Run.region ?_ | refine Run.block ?_ | refine Run.skip ?_ | refine Run.exit ?_ | refine Run.ret ?_) | (with_reducible show Run _ _ (.cond _ _ _) _ _ _; refine Run.condD rfl (fun h => ?_) (fun h => ?_)) | (with_reducible first | refine seqN (K := Run _ _ _ _) ?_ | refine seqE ?_ | refine seqR ?_ | refine blockN ?_ | refine blockR ?_ | refine blockE ?_))
          all_goals first
            | (refine ⟨eA, _, [], resA, .ch .nil, ?_⟩
               have h6 : 1 < (rs[j].2.length : Int) := by assumption
               have hk : obAt 1 row ps rs[j] (x * 1 + z) = decide (row[(placeAt ps rs[j].1 * ((1 : Nat) : Int) * ((1 : Nat) : Int) + (x : Int) * ((1 : Nat) : Int) + (z : Int)).toNat]'(by omega) = row[(placeAt ps rs[j].2 * ((1 : Nat) : Int) * ((1 : Nat) : Int) + (x : Int) * ((1 : Nat) : Int) + (z : Int)).toNat]'(by omega)) := obAt_big h6 (by omega) (by omega) (by omega) (by omega)
               exact ⟨congrArg vbool (all_no rs j h9 (rAll_false (obAt 1 row ps rs[j]) (x * 1 + z) (1 * 1) (by omega) (by rw [hk]; exact decide_eq_false (by assumption)))).symm, rfl⟩)
            | (refine ⟨eA, _, [], resA, .ch .nil, ?_⟩
               have h6 : ¬ 1 < (rs[j].2.length : Int) := by assumption
               have hk : obAt 1 row ps rs[j] (x * 1 + z) = decide (row[(placeAt ps rs[j].1 * ((1 : Nat) : Int) * ((1 : Nat) : Int) + (x : Int) * ((1 : Nat) : Int) + (z : Int)).toNat]'(by omega) = [(x : Int), (z : Int)][(rs[j].2[0]).toNat]'(by simp only [List.length_cons, List.length_nil]; omega)) := obAt_small (x := x) (z := z) h6 (by omega) (by omega) hl2 (two_at hv _) (by omega) (by omega)
               exact ⟨congrArg vbool (all_no rs j h9 (rAll_false (obAt 1 row ps rs[j]) (x * 1 + z) (1 * 1) (by omega) (by rw [hk]; exact decide_eq_false (by assumption)))).symm, rfl⟩)
            | (with_reducible refine seqN ?_
               have h6 : 1 < (rs[j].2.length : Int) := by assumption
               have hk : obAt 1 row ps rs[j] (x * 1 + z) = decide (row[(placeAt ps rs[j].1 * ((1 : Nat) : Int) * ((1 : Nat) : Int) + (x : Int) * ((1 : Nat) : Int) + (z : Int)).toNat]'(by omega) = row[(placeAt ps rs[j].2 * ((1 : Nat) : Int) * ((1 : Nat) : Int) + (x : Int) * ((1 : Nat) : Int) + (z : Int)).toNat]'(by omega)) := obAt_big h6 (by omega) (by omega) (by omega) (by omega)
               exact ⟨z + 1, ⟨by omega, by rw [← Nat.add_assoc, rAll_succ, hB, hk, decide_eq_true (Decidable.not_not.1 (by assumption))]; rfl⟩, by omega, Ent.of slA chA⟩)
            | (with_reducible refine seqN ?_
               have h6 : ¬ 1 < (rs[j].2.length : Int) := by assumption
               have hk : obAt 1 row ps rs[j] (x * 1 + z) = decide (row[(placeAt ps rs[j].1 * ((1 : Nat) : Int) * ((1 : Nat) : Int) + (x : Int) * ((1 : Nat) : Int) + (z : Int)).toNat]'(by omega) = [(x : Int), (z : Int)][(rs[j].2[0]).toNat]'(by simp only [List.length_cons, List.length_nil]; omega)) := obAt_small (x := x) (z := z) h6 (by omega) (by omega) hl2 (two_at hv _) (by omega) (by omega)
               exact ⟨z + 1, ⟨by omega, by rw [← Nat.add_assoc, rAll_succ, hB, hk, decide_eq_true (Decidable.not_not.1 (by assumption))]; rfl⟩, by omega, Ent.of slA chA⟩)
            | (obtain rfl : z = 1 := by omega
               with_reducible refine seqN ?_
               exact ⟨x + 1, ⟨by omega, by rw [Nat.succ_mul]; exact hB⟩, by omega, Ent.of slA chA⟩)
        · obtain rfl : x = 1 := by omega
          with_reducible refine seqN ?_
          exact ⟨j + 1, ⟨by omega, all_step ht h9 hA⟩, by omega, Ent.of slA chA⟩
      · exfalso; omega
    · repeat' (first | (with_reducible refine RL.done ?_) | (with_reducible refine RL.wanted ?_ ?_; exact rfl) | ((with_reducible show RH _ _ _ _ _ _ _ _); refine RH.val (hK := ?_)) | (with_reducible first | refine Run.seq ?_ | refine Run.region ?_ | refine Run.block ?_ | refine Run.skip ?_ | refine Run.exit ?_ | refine Run.ret ?_) | (with_reducible show Run _ _ (.cond _ _ _) _ _ _; refine Run.condD rfl (fun h => ?_) (fun h => ?_)) | (with_reducible first | refine seqN (K := Run _ _ _ _) ?_ | refine seqE ?_ | refine blockE ?_))
      · exfalso; omega
      · refine ⟨eA, _, [], resA, .ch .nil, ?_⟩
        exact ⟨congrArg vbool (all_end ht (Nat.le_refl _)).symm, rfl⟩
  · refine Spec.of_run2 (n := 99) Try.func187 rfl Try.results187 Try.ntmps187 rfl ?_
    repeat' (first | (with_reducible refine RL.done ?_) | (with_reducible refine RL.wanted ?_ ?_; exact rfl) | ((with_reducible show RH _ _ _ ⟨some 6, .box _ _, _, _, _, _⟩ _ _ _ _); (refine RH.boxAgg rfl rfl ?_; rintro _ _ ⟨b6, rfl, rfl⟩)) | ((with_reducible show RH _ _ _ _ _ _ _ _); refine RH.val (hK := ?_)) | (with_reducible first | refine Run.seq ?_ | refine Run.region ?_ | refine Run.block ?_) | (with_reducible refine seqN (K := Run _ _ _ _) ?_))
    refine Run.loop (α := Nat) (fun j => [(0, vint ((2 : Nat) : Int)), (1, vsl 1 (fun x : Int => [vint x]) row), (3, vsl 1 (fun t : List Int => [vsl 1 (fun x : Int => [vint x]) t]) ps), (6, vptr b6 0), (9, vint (j : Int))]) (fun _ => [hcells b6 [vint a, vsl 2 (fun y : (List Int) × (List Int) => [vsl 1 (fun x : Int => [vint x]) y.1, vsl 1 (fun x : Int => [vint x]) y.2]) rs]]) (fun j => j ≤ rs.length ∧ (rs.take j).all (obRule 2 row ps) = true) (fun j => rs.length - j) 0 (by simp) (Ent.of slA chA) ?_
    rintro j ⟨hj, ht⟩
    rcases Nat.lt_or_eq_of_le hj with h9 | rfl
    · have hp1 := placeAt_le ps rs[j].1
      have hp2 := placeAt_le ps rs[j].2
      have hq1 := placeAt_mem (hmem j h9 h9).1
      have hq2 : 1 < (rs[j].2.length : Int) → 0 ≤ placeAt ps rs[j].2 := fun h => placeAt_mem ((hmem j h9 h9).2 h)
      have hlen := hr _ (List.getElem_mem h9)
      have hl2 : 0 < rs[j].2.length := by omega
      have hv : rs[j].2[0] = 0 ∨ rs[j].2[0] = 1 := by
        have h := hvar _ (List.getElem_mem h9)
        rw [elB, List.all_eq_true] at h
        have := h _ (List.getElem_mem hl2)
        simp only [decide_eq_true_eq] at this; omega
      repeat' (first | (with_reducible first | refine RL.done ?_ | refine RL.app0 ?_) | (with_reducible refine RL.wanted ?_ ?_; exact rfl) | ((with_reducible show RH _ _ _ ⟨_, .call ⟨.value (.func 184), _, _⟩, _, _, _, _⟩ _ _ _ _); refine RH.cP Try.call184 ?_; refine ⟨_, l12Place_c _ _ (by omega) (fun t ht => Nat.le_trans (hpl t ht) (by decide)), ?_⟩; rintro _ _ ⟨rfl, rfl⟩) | ((with_reducible show RH _ _ _ _ _ _ _ _); refine RH.val (hK := ?_)) | (with_reducible first | refine Run.seq ?_ | refine Run.region ?_ | refine Run.block ?_ | refine Run.skip ?_ | refine Run.exit ?_ | refine Run.ret ?_) | (with_reducible show Run _ _ (.cond _ _ _) _ _ _; refine Run.condD rfl (fun h => ?_) (fun h => ?_)) | (with_reducible first | refine seqN (K := Run _ _ _ _) ?_ | refine seqE ?_ | refine blockE ?_))
      · refine Run.loop (α := Nat) (fun x => [(0, vint ((2 : Nat) : Int)), (1, vsl 1 (fun x : Int => [vint x]) row), (3, vsl 1 (fun t : List Int => [vsl 1 (fun x : Int => [vint x]) t]) ps), (6, vptr b6 0), (9, vint (j : Int)), (10, vint (placeAt ps rs[j].1 * ((2 : Nat) : Int) * ((2 : Nat) : Int))), (11, vint (placeAt ps rs[j].2 * ((2 : Nat) : Int) * ((2 : Nat) : Int))), (12, vint (x : Int))]) (fun _ => [hcells b6 [vint a, vsl 2 (fun y : (List Int) × (List Int) => [vsl 1 (fun x : Int => [vint x]) y.1, vsl 1 (fun x : Int => [vint x]) y.2]) rs]]) (fun x => x ≤ 2 ∧ (List.range (x * 2)).all (obAt 2 row ps rs[j]) = true) (fun x => 2 - x) 0 (by simp) (Ent.of slA chA) ?_
        rintro x ⟨hx, hA⟩
        repeat' (first | (with_reducible refine RL.done ?_) | (with_reducible refine RL.wanted ?_ ?_; exact rfl) | ((with_reducible show RH _ _ _ _ _ _ _ _); refine RH.val (hK := ?_)) | (with_reducible first | refine Run.seq ?_ | refine Run.region ?_ | refine Run.block ?_ | refine Run.skip ?_ | refine Run.exit ?_) | (with_reducible show Run _ _ (.cond _ _ _) _ _ _; refine Run.condD rfl (fun h => ?_) (fun h => ?_)) | (with_reducible first | refine seqN (K := Run _ _ _ _) ?_ | refine seqE ?_ | refine blockN ?_ | refine blockE ?_))
        · refine Run.loop (α := Nat) (fun z => [(0, vint ((2 : Nat) : Int)), (1, vsl 1 (fun x : Int => [vint x]) row), (3, vsl 1 (fun t : List Int => [vsl 1 (fun x : Int => [vint x]) t]) ps), (6, vptr b6 0), (9, vint (j : Int)), (10, vint (placeAt ps rs[j].1 * ((2 : Nat) : Int) * ((2 : Nat) : Int))), (11, vint (placeAt ps rs[j].2 * ((2 : Nat) : Int) * ((2 : Nat) : Int))), (12, vint (x : Int)), (13, vint (z : Int))]) (fun _ => [hcells b6 [vint a, vsl 2 (fun y : (List Int) × (List Int) => [vsl 1 (fun x : Int => [vint x]) y.1, vsl 1 (fun x : Int => [vint x]) y.2]) rs]]) (fun z => z ≤ 2 ∧ (List.range (x * 2 + z)).all (obAt 2 row ps rs[j]) = true) (fun z => 2 - z) 0 ⟨Nat.zero_le _, hA⟩ (Ent.of slA chA) ?_
          rintro z ⟨hz, hB⟩
          have hx9 : x < 2 := by omega
          repeat' (first | (with_reducible refine RL.done ?_) | (with_reducible refine RL.wanted ?_ ?_; exact rfl) | ((with_reducible show RH _ _ _ ⟨some 58, .buildSlice _ _ _, _, _, _, _⟩ _ _ _ _); refine RH.eff rfl rfl (EOpS.e (EOpS.slit (fun x : Int => [vint x]) _ (fun _ _ => rfl) (by repeat (first | exact Elts.nil | (apply Elts.cons; exact rfl; exact CellsOf.one))) rfl rfl)) ?_; rintro _ _ ⟨b58, rfl, rfl⟩) | ((with_reducible show RH _ _ _ _ _ _ _ _); refine RH.val (hK := ?_)) | (with_reducible first | refine Run.seq ?_ | refine Run.region ?_ | refine Run.block ?_ | refine Run.skip ?_ | refine Run.exit ?_ | refine Run.ret ?_) | (with_reducible show Run _ _ (.cond _ _ _) _ _ _; refine Run.condD rfl (fun h => ?_) (fun h => ?_)) | (with_reducible first | refine seqN (K := Run _ _ _ _) ?_ | refine seqE ?_ | refine seqR ?_ | refine blockN ?_ | refine blockR ?_ | refine blockE ?_))
          all_goals first
            | (refine ⟨eA, _, [], resA, .ch .nil, ?_⟩
               have h6 : 1 < (rs[j].2.length : Int) := by assumption
               have hk : obAt 2 row ps rs[j] (x * 2 + z) = decide (row[(placeAt ps rs[j].1 * ((2 : Nat) : Int) * ((2 : Nat) : Int) + (x : Int) * ((2 : Nat) : Int) + (z : Int)).toNat]'(by omega) = row[(placeAt ps rs[j].2 * ((2 : Nat) : Int) * ((2 : Nat) : Int) + (x : Int) * ((2 : Nat) : Int) + (z : Int)).toNat]'(by omega)) := obAt_big h6 (by omega) (by omega) (by omega) (by omega)
               exact ⟨congrArg vbool (all_no rs j h9 (rAll_false (obAt 2 row ps rs[j]) (x * 2 + z) (2 * 2) (by omega) (by rw [hk]; exact decide_eq_false (by assumption)))).symm, rfl⟩)
            | (refine ⟨eA, _, [], resA, .ch .nil, ?_⟩
               have h6 : ¬ 1 < (rs[j].2.length : Int) := by assumption
               have hk : obAt 2 row ps rs[j] (x * 2 + z) = decide (row[(placeAt ps rs[j].1 * ((2 : Nat) : Int) * ((2 : Nat) : Int) + (x : Int) * ((2 : Nat) : Int) + (z : Int)).toNat]'(by omega) = [(x : Int), (z : Int)][(rs[j].2[0]).toNat]'(by simp only [List.length_cons, List.length_nil]; omega)) := obAt_small (x := x) (z := z) h6 (by omega) (by omega) hl2 (two_at hv _) (by omega) (by omega)
               exact ⟨congrArg vbool (all_no rs j h9 (rAll_false (obAt 2 row ps rs[j]) (x * 2 + z) (2 * 2) (by omega) (by rw [hk]; exact decide_eq_false (by assumption)))).symm, rfl⟩)
            | (with_reducible refine seqN ?_
               have h6 : 1 < (rs[j].2.length : Int) := by assumption
               have hk : obAt 2 row ps rs[j] (x * 2 + z) = decide (row[(placeAt ps rs[j].1 * ((2 : Nat) : Int) * ((2 : Nat) : Int) + (x : Int) * ((2 : Nat) : Int) + (z : Int)).toNat]'(by omega) = row[(placeAt ps rs[j].2 * ((2 : Nat) : Int) * ((2 : Nat) : Int) + (x : Int) * ((2 : Nat) : Int) + (z : Int)).toNat]'(by omega)) := obAt_big h6 (by omega) (by omega) (by omega) (by omega)
               exact ⟨z + 1, ⟨by omega, by rw [← Nat.add_assoc, rAll_succ, hB, hk, decide_eq_true (Decidable.not_not.1 (by assumption))]; rfl⟩, by omega, Ent.of slA chA⟩)
            | (with_reducible refine seqN ?_
               have h6 : ¬ 1 < (rs[j].2.length : Int) := by assumption
               have hk : obAt 2 row ps rs[j] (x * 2 + z) = decide (row[(placeAt ps rs[j].1 * ((2 : Nat) : Int) * ((2 : Nat) : Int) + (x : Int) * ((2 : Nat) : Int) + (z : Int)).toNat]'(by omega) = [(x : Int), (z : Int)][(rs[j].2[0]).toNat]'(by simp only [List.length_cons, List.length_nil]; omega)) := obAt_small (x := x) (z := z) h6 (by omega) (by omega) hl2 (two_at hv _) (by omega) (by omega)
               exact ⟨z + 1, ⟨by omega, by rw [← Nat.add_assoc, rAll_succ, hB, hk, decide_eq_true (Decidable.not_not.1 (by assumption))]; rfl⟩, by omega, Ent.of slA chA⟩)
            | (obtain rfl : z = 2 := by omega
               with_reducible refine seqN ?_
               exact ⟨x + 1, ⟨by omega, by rw [Nat.succ_mul]; exact hB⟩, by omega, Ent.of slA chA⟩)
        · obtain rfl : x = 2 := by omega
          with_reducible refine seqN ?_
          exact ⟨j + 1, ⟨by omega, all_step ht h9 hA⟩, by omega, Ent.of slA chA⟩
      · exfalso; omega
    · repeat' (first | (with_reducible refine RL.done ?_) | (with_reducible refine RL.wanted ?_ ?_; exact rfl) | ((with_reducible show RH _ _ _ _ _ _ _ _); refine RH.val (hK := ?_)) | (with_reducible first | refine Run.seq ?_ | refine Run.region ?_ | refine Run.block ?_ | refine Run.skip ?_ | refine Run.exit ?_ | refine Run.ret ?_) | (with_reducible show Run _ _ (.cond _ _ _) _ _ _; refine Run.condD rfl (fun h => ?_) (fun h => ?_)) | (with_reducible first | refine seqN (K := Run _ _ _ _) ?_ | refine seqE ?_ | refine blockE ?_))
      · exfalso; omega
      · refine ⟨eA, _, [], resA, .ch .nil, ?_⟩
        exact ⟨congrArg vbool (all_end ht (Nat.le_refl _)).symm, rfl⟩
  · refine Spec.of_run2 (n := 99) Try.func187 rfl Try.results187 Try.ntmps187 rfl ?_
    repeat' (first | (with_reducible refine RL.done ?_) | (with_reducible refine RL.wanted ?_ ?_; exact rfl) | ((with_reducible show RH _ _ _ ⟨some 6, .box _ _, _, _, _, _⟩ _ _ _ _); (refine RH.boxAgg rfl rfl ?_; rintro _ _ ⟨b6, rfl, rfl⟩)) | ((with_reducible show RH _ _ _ _ _ _ _ _); refine RH.val (hK := ?_)) | (with_reducible first | refine Run.seq ?_ | refine Run.region ?_ | refine Run.block ?_) | (with_reducible refine seqN (K := Run _ _ _ _) ?_))
    refine Run.loop (α := Nat) (fun j => [(0, vint ((3 : Nat) : Int)), (1, vsl 1 (fun x : Int => [vint x]) row), (3, vsl 1 (fun t : List Int => [vsl 1 (fun x : Int => [vint x]) t]) ps), (6, vptr b6 0), (9, vint (j : Int))]) (fun _ => [hcells b6 [vint a, vsl 2 (fun y : (List Int) × (List Int) => [vsl 1 (fun x : Int => [vint x]) y.1, vsl 1 (fun x : Int => [vint x]) y.2]) rs]]) (fun j => j ≤ rs.length ∧ (rs.take j).all (obRule 3 row ps) = true) (fun j => rs.length - j) 0 (by simp) (Ent.of slA chA) ?_
    rintro j ⟨hj, ht⟩
    rcases Nat.lt_or_eq_of_le hj with h9 | rfl
    · have hp1 := placeAt_le ps rs[j].1
      have hp2 := placeAt_le ps rs[j].2
      have hq1 := placeAt_mem (hmem j h9 h9).1
      have hq2 : 1 < (rs[j].2.length : Int) → 0 ≤ placeAt ps rs[j].2 := fun h => placeAt_mem ((hmem j h9 h9).2 h)
      have hlen := hr _ (List.getElem_mem h9)
      have hl2 : 0 < rs[j].2.length := by omega
      have hv : rs[j].2[0] = 0 ∨ rs[j].2[0] = 1 := by
        have h := hvar _ (List.getElem_mem h9)
        rw [elB, List.all_eq_true] at h
        have := h _ (List.getElem_mem hl2)
        simp only [decide_eq_true_eq] at this; omega
      repeat' (first | (with_reducible first | refine RL.done ?_ | refine RL.app0 ?_) | (with_reducible refine RL.wanted ?_ ?_; exact rfl) | ((with_reducible show RH _ _ _ ⟨_, .call ⟨.value (.func 184), _, _⟩, _, _, _, _⟩ _ _ _ _); refine RH.cP Try.call184 ?_; refine ⟨_, l12Place_c _ _ (by omega) (fun t ht => Nat.le_trans (hpl t ht) (by decide)), ?_⟩; rintro _ _ ⟨rfl, rfl⟩) | ((with_reducible show RH _ _ _ _ _ _ _ _); refine RH.val (hK := ?_)) | (with_reducible first | refine Run.seq ?_ | refine Run.region ?_ | refine Run.block ?_ | refine Run.skip ?_ | refine Run.exit ?_ | refine Run.ret ?_) | (with_reducible show Run _ _ (.cond _ _ _) _ _ _; refine Run.condD rfl (fun h => ?_) (fun h => ?_)) | (with_reducible first | refine seqN (K := Run _ _ _ _) ?_ | refine seqE ?_ | refine blockE ?_))
      · refine Run.loop (α := Nat) (fun x => [(0, vint ((3 : Nat) : Int)), (1, vsl 1 (fun x : Int => [vint x]) row), (3, vsl 1 (fun t : List Int => [vsl 1 (fun x : Int => [vint x]) t]) ps), (6, vptr b6 0), (9, vint (j : Int)), (10, vint (placeAt ps rs[j].1 * ((3 : Nat) : Int) * ((3 : Nat) : Int))), (11, vint (placeAt ps rs[j].2 * ((3 : Nat) : Int) * ((3 : Nat) : Int))), (12, vint (x : Int))]) (fun _ => [hcells b6 [vint a, vsl 2 (fun y : (List Int) × (List Int) => [vsl 1 (fun x : Int => [vint x]) y.1, vsl 1 (fun x : Int => [vint x]) y.2]) rs]]) (fun x => x ≤ 3 ∧ (List.range (x * 3)).all (obAt 3 row ps rs[j]) = true) (fun x => 3 - x) 0 (by simp) (Ent.of slA chA) ?_
        rintro x ⟨hx, hA⟩
        repeat' (first | (with_reducible refine RL.done ?_) | (with_reducible refine RL.wanted ?_ ?_; exact rfl) | ((with_reducible show RH _ _ _ _ _ _ _ _); refine RH.val (hK := ?_)) | (with_reducible first | refine Run.seq ?_ | refine Run.region ?_ | refine Run.block ?_ | refine Run.skip ?_ | refine Run.exit ?_) | (with_reducible show Run _ _ (.cond _ _ _) _ _ _; refine Run.condD rfl (fun h => ?_) (fun h => ?_)) | (with_reducible first | refine seqN (K := Run _ _ _ _) ?_ | refine seqE ?_ | refine blockN ?_ | refine blockE ?_))
        · refine Run.loop (α := Nat) (fun z => [(0, vint ((3 : Nat) : Int)), (1, vsl 1 (fun x : Int => [vint x]) row), (3, vsl 1 (fun t : List Int => [vsl 1 (fun x : Int => [vint x]) t]) ps), (6, vptr b6 0), (9, vint (j : Int)), (10, vint (placeAt ps rs[j].1 * ((3 : Nat) : Int) * ((3 : Nat) : Int))), (11, vint (placeAt ps rs[j].2 * ((3 : Nat) : Int) * ((3 : Nat) : Int))), (12, vint (x : Int)), (13, vint (z : Int))]) (fun _ => [hcells b6 [vint a, vsl 2 (fun y : (List Int) × (List Int) => [vsl 1 (fun x : Int => [vint x]) y.1, vsl 1 (fun x : Int => [vint x]) y.2]) rs]]) (fun z => z ≤ 3 ∧ (List.range (x * 3 + z)).all (obAt 3 row ps rs[j]) = true) (fun z => 3 - z) 0 ⟨Nat.zero_le _, hA⟩ (Ent.of slA chA) ?_
          rintro z ⟨hz, hB⟩
          have hx9 : x < 3 := by omega
          repeat' (first | (with_reducible refine RL.done ?_) | (with_reducible refine RL.wanted ?_ ?_; exact rfl) | ((with_reducible show RH _ _ _ ⟨some 58, .buildSlice _ _ _, _, _, _, _⟩ _ _ _ _); refine RH.eff rfl rfl (EOpS.e (EOpS.slit (fun x : Int => [vint x]) _ (fun _ _ => rfl) (by repeat (first | exact Elts.nil | (apply Elts.cons; exact rfl; exact CellsOf.one))) rfl rfl)) ?_; rintro _ _ ⟨b58, rfl, rfl⟩) | ((with_reducible show RH _ _ _ _ _ _ _ _); refine RH.val (hK := ?_)) | (with_reducible first | refine Run.seq ?_ | refine Run.region ?_ | refine Run.block ?_ | refine Run.skip ?_ | refine Run.exit ?_ | refine Run.ret ?_) | (with_reducible show Run _ _ (.cond _ _ _) _ _ _; refine Run.condD rfl (fun h => ?_) (fun h => ?_)) | (with_reducible first | refine seqN (K := Run _ _ _ _) ?_ | refine seqE ?_ | refine seqR ?_ | refine blockN ?_ | refine blockR ?_ | refine blockE ?_))
          all_goals first
            | (refine ⟨eA, _, [], resA, .ch .nil, ?_⟩
               have h6 : 1 < (rs[j].2.length : Int) := by assumption
               have hk : obAt 3 row ps rs[j] (x * 3 + z) = decide (row[(placeAt ps rs[j].1 * ((3 : Nat) : Int) * ((3 : Nat) : Int) + (x : Int) * ((3 : Nat) : Int) + (z : Int)).toNat]'(by omega) = row[(placeAt ps rs[j].2 * ((3 : Nat) : Int) * ((3 : Nat) : Int) + (x : Int) * ((3 : Nat) : Int) + (z : Int)).toNat]'(by omega)) := obAt_big h6 (by omega) (by omega) (by omega) (by omega)
               exact ⟨congrArg vbool (all_no rs j h9 (rAll_false (obAt 3 row ps rs[j]) (x * 3 + z) (3 * 3) (by omega) (by rw [hk]; exact decide_eq_false (by assumption)))).symm, rfl⟩)
            | (refine ⟨eA, _, [], resA, .ch .nil, ?_⟩
               have h6 : ¬ 1 < (rs[j].2.length : Int) := by assumption
               have hk : obAt 3 row ps rs[j] (x * 3 + z) = decide (row[(placeAt ps rs[j].1 * ((3 : Nat) : Int) * ((3 : Nat) : Int) + (x : Int) * ((3 : Nat) : Int) + (z : Int)).toNat]'(by omega) = [(x : Int), (z : Int)][(rs[j].2[0]).toNat]'(by simp only [List.length_cons, List.length_nil]; omega)) := obAt_small (x := x) (z := z) h6 (by omega) (by omega) hl2 (two_at hv _) (by omega) (by omega)
               exact ⟨congrArg vbool (all_no rs j h9 (rAll_false (obAt 3 row ps rs[j]) (x * 3 + z) (3 * 3) (by omega) (by rw [hk]; exact decide_eq_false (by assumption)))).symm, rfl⟩)
            | (with_reducible refine seqN ?_
               have h6 : 1 < (rs[j].2.length : Int) := by assumption
               have hk : obAt 3 row ps rs[j] (x * 3 + z) = decide (row[(placeAt ps rs[j].1 * ((3 : Nat) : Int) * ((3 : Nat) : Int) + (x : Int) * ((3 : Nat) : Int) + (z : Int)).toNat]'(by omega) = row[(placeAt ps rs[j].2 * ((3 : Nat) : Int) * ((3 : Nat) : Int) + (x : Int) * ((3 : Nat) : Int) + (z : Int)).toNat]'(by omega)) := obAt_big h6 (by omega) (by omega) (by omega) (by omega)
               exact ⟨z + 1, ⟨by omega, by rw [← Nat.add_assoc, rAll_succ, hB, hk, decide_eq_true (Decidable.not_not.1 (by assumption))]; rfl⟩, by omega, Ent.of slA chA⟩)
            | (with_reducible refine seqN ?_
               have h6 : ¬ 1 < (rs[j].2.length : Int) := by assumption
               have hk : obAt 3 row ps rs[j] (x * 3 + z) = decide (row[(placeAt ps rs[j].1 * ((3 : Nat) : Int) * ((3 : Nat) : Int) + (x : Int) * ((3 : Nat) : Int) + (z : Int)).toNat]'(by omega) = [(x : Int), (z : Int)][(rs[j].2[0]).toNat]'(by simp only [List.length_cons, List.length_nil]; omega)) := obAt_small (x := x) (z := z) h6 (by omega) (by omega) hl2 (two_at hv _) (by omega) (by omega)
               exact ⟨z + 1, ⟨by omega, by rw [← Nat.add_assoc, rAll_succ, hB, hk, decide_eq_true (Decidable.not_not.1 (by assumption))]; rfl⟩, by omega, Ent.of slA chA⟩)
            | (obtain rfl : z = 3 := by omega
               with_reducible refine seqN ?_
               exact ⟨x + 1, ⟨by omega, by rw [Nat.succ_mul]; exact hB⟩, by omega, Ent.of slA chA⟩)
        · obtain rfl : x = 3 := by omega
          with_reducible refine seqN ?_
          exact ⟨j + 1, ⟨by omega, all_step ht h9 hA⟩, by omega, Ent.of slA chA⟩
      · exfalso; omega
    · repeat' (first | (with_reducible refine RL.done ?_) | (with_reducible refine RL.wanted ?_ ?_; exact rfl) | ((with_reducible show RH _ _ _ _ _ _ _ _); refine RH.val (hK := ?_)) | (with_reducible first | refine Run.seq ?_ | refine Run.region ?_ | refine Run.block ?_ | refine Run.skip ?_ | refine Run.exit ?_ | refine Run.ret ?_) | (with_reducible show Run _ _ (.cond _ _ _) _ _ _; refine Run.condD rfl (fun h => ?_) (fun h => ?_)) | (with_reducible first | refine seqN (K := Run _ _ _ _) ?_ | refine seqE ?_ | refine blockE ?_))
      · exfalso; omega
      · refine ⟨eA, _, [], resA, .ch .nil, ?_⟩
        exact ⟨congrArg vbool (all_end ht (Nat.le_refl _)).symm, rfl⟩
  · refine Spec.of_run2 (n := 99) Try.func187 rfl Try.results187 Try.ntmps187 rfl ?_
    repeat' (first | (with_reducible refine RL.done ?_) | (with_reducible refine RL.wanted ?_ ?_; exact rfl) | ((with_reducible show RH _ _ _ ⟨some 6, .box _ _, _, _, _, _⟩ _ _ _ _); (refine RH.boxAgg rfl rfl ?_; rintro _ _ ⟨b6, rfl, rfl⟩)) | ((with_reducible show RH _ _ _ _ _ _ _ _); refine RH.val (hK := ?_)) | (with_reducible first | refine Run.seq ?_ | refine Run.region ?_ | refine Run.block ?_) | (with_reducible refine seqN (K := Run _ _ _ _) ?_))
    refine Run.loop (α := Nat) (fun j => [(0, vint ((4 : Nat) : Int)), (1, vsl 1 (fun x : Int => [vint x]) row), (3, vsl 1 (fun t : List Int => [vsl 1 (fun x : Int => [vint x]) t]) ps), (6, vptr b6 0), (9, vint (j : Int))]) (fun _ => [hcells b6 [vint a, vsl 2 (fun y : (List Int) × (List Int) => [vsl 1 (fun x : Int => [vint x]) y.1, vsl 1 (fun x : Int => [vint x]) y.2]) rs]]) (fun j => j ≤ rs.length ∧ (rs.take j).all (obRule 4 row ps) = true) (fun j => rs.length - j) 0 (by simp) (Ent.of slA chA) ?_
    rintro j ⟨hj, ht⟩
    rcases Nat.lt_or_eq_of_le hj with h9 | rfl
    · have hp1 := placeAt_le ps rs[j].1
      have hp2 := placeAt_le ps rs[j].2
      have hq1 := placeAt_mem (hmem j h9 h9).1
      have hq2 : 1 < (rs[j].2.length : Int) → 0 ≤ placeAt ps rs[j].2 := fun h => placeAt_mem ((hmem j h9 h9).2 h)
      have hlen := hr _ (List.getElem_mem h9)
      have hl2 : 0 < rs[j].2.length := by omega
      have hv : rs[j].2[0] = 0 ∨ rs[j].2[0] = 1 := by
        have h := hvar _ (List.getElem_mem h9)
        rw [elB, List.all_eq_true] at h
        have := h _ (List.getElem_mem hl2)
        simp only [decide_eq_true_eq] at this; omega
      repeat' (first | (with_reducible first | refine RL.done ?_ | refine RL.app0 ?_) | (with_reducible refine RL.wanted ?_ ?_; exact rfl) | ((with_reducible show RH _ _ _ ⟨_, .call ⟨.value (.func 184), _, _⟩, _, _, _, _⟩ _ _ _ _); refine RH.cP Try.call184 ?_; refine ⟨_, l12Place_c _ _ (by omega) (fun t ht => Nat.le_trans (hpl t ht) (by decide)), ?_⟩; rintro _ _ ⟨rfl, rfl⟩) | ((with_reducible show RH _ _ _ _ _ _ _ _); refine RH.val (hK := ?_)) | (with_reducible first | refine Run.seq ?_ | refine Run.region ?_ | refine Run.block ?_ | refine Run.skip ?_ | refine Run.exit ?_ | refine Run.ret ?_) | (with_reducible show Run _ _ (.cond _ _ _) _ _ _; refine Run.condD rfl (fun h => ?_) (fun h => ?_)) | (with_reducible first | refine seqN (K := Run _ _ _ _) ?_ | refine seqE ?_ | refine blockE ?_))
      · refine Run.loop (α := Nat) (fun x => [(0, vint ((4 : Nat) : Int)), (1, vsl 1 (fun x : Int => [vint x]) row), (3, vsl 1 (fun t : List Int => [vsl 1 (fun x : Int => [vint x]) t]) ps), (6, vptr b6 0), (9, vint (j : Int)), (10, vint (placeAt ps rs[j].1 * ((4 : Nat) : Int) * ((4 : Nat) : Int))), (11, vint (placeAt ps rs[j].2 * ((4 : Nat) : Int) * ((4 : Nat) : Int))), (12, vint (x : Int))]) (fun _ => [hcells b6 [vint a, vsl 2 (fun y : (List Int) × (List Int) => [vsl 1 (fun x : Int => [vint x]) y.1, vsl 1 (fun x : Int => [vint x]) y.2]) rs]]) (fun x => x ≤ 4 ∧ (List.range (x * 4)).all (obAt 4 row ps rs[j]) = true) (fun x => 4 - x) 0 (by simp) (Ent.of slA chA) ?_
        rintro x ⟨hx, hA⟩
        repeat' (first | (with_reducible refine RL.done ?_) | (with_reducible refine RL.wanted ?_ ?_; exact rfl) | ((with_reducible show RH _ _ _ _ _ _ _ _); refine RH.val (hK := ?_)) | (with_reducible first | refine Run.seq ?_ | refine Run.region ?_ | refine Run.block ?_ | refine Run.skip ?_ | refine Run.exit ?_) | (with_reducible show Run _ _ (.cond _ _ _) _ _ _; refine Run.condD rfl (fun h => ?_) (fun h => ?_)) | (with_reducible first | refine seqN (K := Run _ _ _ _) ?_ | refine seqE ?_ | refine blockN ?_ | refine blockE ?_))
        · refine Run.loop (α := Nat) (fun z => [(0, vint ((4 : Nat) : Int)), (1, vsl 1 (fun x : Int => [vint x]) row), (3, vsl 1 (fun t : List Int => [vsl 1 (fun x : Int => [vint x]) t]) ps), (6, vptr b6 0), (9, vint (j : Int)), (10, vint (placeAt ps rs[j].1 * ((4 : Nat) : Int) * ((4 : Nat) : Int))), (11, vint (placeAt ps rs[j].2 * ((4 : Nat) : Int) * ((4 : Nat) : Int))), (12, vint (x : Int)), (13, vint (z : Int))]) (fun _ => [hcells b6 [vint a, vsl 2 (fun y : (List Int) × (List Int) => [vsl 1 (fun x : Int => [vint x]) y.1, vsl 1 (fun x : Int => [vint x]) y.2]) rs]]) (fun z => z ≤ 4 ∧ (List.range (x * 4 + z)).all (obAt 4 row ps rs[j]) = true) (fun z => 4 - z) 0 ⟨Nat.zero_le _, hA⟩ (Ent.of slA chA) ?_
          rintro z ⟨hz, hB⟩
          have hx9 : x < 4 := by omega
          repeat' (first | (with_reducible refine RL.done ?_) | (with_reducible refine RL.wanted ?_ ?_; exact rfl) | ((with_reducible show RH _ _ _ ⟨some 58, .buildSlice _ _ _, _, _, _, _⟩ _ _ _ _); refine RH.eff rfl rfl (EOpS.e (EOpS.slit (fun x : Int => [vint x]) _ (fun _ _ => rfl) (by repeat (first | exact Elts.nil | (apply Elts.cons; exact rfl; exact CellsOf.one))) rfl rfl)) ?_; rintro _ _ ⟨b58, rfl, rfl⟩) | ((with_reducible show RH _ _ _ _ _ _ _ _); refine RH.val (hK := ?_)) | (with_reducible first | refine Run.seq ?_ | refine Run.region ?_ | refine Run.block ?_ | refine Run.skip ?_ | refine Run.exit ?_ | refine Run.ret ?_) | (with_reducible show Run _ _ (.cond _ _ _) _ _ _; refine Run.condD rfl (fun h => ?_) (fun h => ?_)) | (with_reducible first | refine seqN (K := Run _ _ _ _) ?_ | refine seqE ?_ | refine seqR ?_ | refine blockN ?_ | refine blockR ?_ | refine blockE ?_))
          all_goals first
            | (refine ⟨eA, _, [], resA, .ch .nil, ?_⟩
               have h6 : 1 < (rs[j].2.length : Int) := by assumption
               have hk : obAt 4 row ps rs[j] (x * 4 + z) = decide (row[(placeAt ps rs[j].1 * ((4 : Nat) : Int) * ((4 : Nat) : Int) + (x : Int) * ((4 : Nat) : Int) + (z : Int)).toNat]'(by omega) = row[(placeAt ps rs[j].2 * ((4 : Nat) : Int) * ((4 : Nat) : Int) + (x : Int) * ((4 : Nat) : Int) + (z : Int)).toNat]'(by omega)) := obAt_big h6 (by omega) (by omega) (by omega) (by omega)
               exact ⟨congrArg vbool (all_no rs j h9 (rAll_false (obAt 4 row ps rs[j]) (x * 4 + z) (4 * 4) (by omega) (by rw [hk]; exact decide_eq_false (by assumption)))).symm, rfl⟩)
            | (refine ⟨eA, _, [], resA, .ch .nil, ?_⟩
               have h6 : ¬ 1 < (rs[j].2.length : Int) := by assumption
               have hk : obAt 4 row ps rs[j] (x * 4 + z) = decide (row[(placeAt ps rs[j].1 * ((4 : Nat) : Int) * ((4 : Nat) : Int) + (x : Int) * ((4 : Nat) : Int) + (z : Int)).toNat]'(by omega) = [(x : Int), (z : Int)][(rs[j].2[0]).toNat]'(by simp only [List.length_cons, List.length_nil]; omega)) := obAt_small (x := x) (z := z) h6 (by omega) (by omega) hl2 (two_at hv _) (by omega) (by omega)
               exact ⟨congrArg vbool (all_no rs j h9 (rAll_false (obAt 4 row ps rs[j]) (x * 4 + z) (4 * 4) (by omega) (by rw [hk]; exact decide_eq_false (by assumption)))).symm, rfl⟩)
            | (with_reducible refine seqN ?_
               have h6 : 1 < (rs[j].2.length : Int) := by assumption
               have hk : obAt 4 row ps rs[j] (x * 4 + z) = decide (row[(placeAt ps rs[j].1 * ((4 : Nat) : Int) * ((4 : Nat) : Int) + (x : Int) * ((4 : Nat) : Int) + (z : Int)).toNat]'(by omega) = row[(placeAt ps rs[j].2 * ((4 : Nat) : Int) * ((4 : Nat) : Int) + (x : Int) * ((4 : Nat) : Int) + (z : Int)).toNat]'(by omega)) := obAt_big h6 (by omega) (by omega) (by omega) (by omega)
               exact ⟨z + 1, ⟨by omega, by rw [← Nat.add_assoc, rAll_succ, hB, hk, decide_eq_true (Decidable.not_not.1 (by assumption))]; rfl⟩, by omega, Ent.of slA chA⟩)
            | (with_reducible refine seqN ?_
               have h6 : ¬ 1 < (rs[j].2.length : Int) := by assumption
               have hk : obAt 4 row ps rs[j] (x * 4 + z) = decide (row[(placeAt ps rs[j].1 * ((4 : Nat) : Int) * ((4 : Nat) : Int) + (x : Int) * ((4 : Nat) : Int) + (z : Int)).toNat]'(by omega) = [(x : Int), (z : Int)][(rs[j].2[0]).toNat]'(by simp only [List.length_cons, List.length_nil]; omega)) := obAt_small (x := x) (z := z) h6 (by omega) (by omega) hl2 (two_at hv _) (by omega) (by omega)
               exact ⟨z + 1, ⟨by omega, by rw [← Nat.add_assoc, rAll_succ, hB, hk, decide_eq_true (Decidable.not_not.1 (by assumption))]; rfl⟩, by omega, Ent.of slA chA⟩)
            | (obtain rfl : z = 4 := by omega
               with_reducible refine seqN ?_
               exact ⟨x + 1, ⟨by omega, by rw [Nat.succ_mul]; exact hB⟩, by omega, Ent.of slA chA⟩)
        · obtain rfl : x = 4 := by omega
          with_reducible refine seqN ?_
          exact ⟨j + 1, ⟨by omega, all_step ht h9 hA⟩, by omega, Ent.of slA chA⟩
      · exfalso; omega
    · repeat' (first | (with_reducible refine RL.done ?_) | (with_reducible refine RL.wanted ?_ ?_; exact rfl) | ((with_reducible show RH _ _ _ _ _ _ _ _); refine RH.val (hK := ?_)) | (with_reducible first | refine Run.seq ?_ | refine Run.region ?_ | refine Run.block ?_ | refine Run.skip ?_ | refine Run.exit ?_ | refine Run.ret ?_) | (with_reducible show Run _ _ (.cond _ _ _) _ _ _; refine Run.condD rfl (fun h => ?_) (fun h => ?_)) | (with_reducible first | refine seqN (K := Run _ _ _ _) ?_ | refine seqE ?_ | refine blockE ?_))
      · exfalso; omega
      · refine ⟨eA, _, [], resA, .ch .nil, ?_⟩
        exact ⟨congrArg vbool (all_end ht (Nat.le_refl _)).symm, rfl⟩
end Go.Proofs.Ytiifdhdhjioefaa
