/- Clones: spec.l12Projection, l12Fresh, l12Add, impl.projection, found.add, isCloneRange, spec.l12Places. Proved for this program; conditions: 1 to 8 elements, up to 3 arguments, up to 27 positions, up to 61 functions. -/
import Derived.Test.YtiifdhdhjioefaaCloneP
import Derived.Test.YtiifdhdhjioefaaKeys
import Derived.Test.YtiifdhdhjioefaaOps
import Derived.Test.YtiifdhdhjioefaaOwn
namespace Go.Proofs.Ytiifdhdhjioefaa
open Go Go.Proofs
set_option linter.unusedVariables false

def projL (n : Int) (k p m : Nat) : List Int := (List.range m).map fun (i : Nat) => (lowd (i : Int) n k).getD p 0
theorem projL_length (n : Int) (k p m : Nat) : (projL n k p m).length = m := by simp [projL]
theorem projL_succ (n : Int) (k p m : Nat) (h : p < k) : projL n k p (m + 1) = projL n k p m ++ [(lowd (m : Int) n k)[p]'(by rw [lowd_length]; exact h)] := by
  simp only [projL, List.range_succ, List.map_append, List.map_cons, List.map_nil]
  rw [getD_g _ _ _ (by rw [lowd_length]; exact h)]
theorem projL_el (n : Int) (k p m : Nat) (hn : 1 ≤ n) (h : p < k) : elB n (projL n k p m) = true := by
  rw [elB, List.all_eq_true]
  intro x hx
  obtain ⟨i, hi, rfl⟩ := List.mem_map.1 hx
  rw [getD_g _ _ _ (by rw [lowd_length]; exact h)]
  simpa using lowd_range' (i : Int) n (by omega) hn k _ (List.getElem_mem _)
theorem projL_set (n : Int) (k p m size : Nat) (h : p < k) (hm : m < size) (hl : p < (lowd (m : Int) n k).length) : (projL n k p m ++ List.replicate (size - m) (0 : Int)).set m ((lowd (m : Int) n k)[p]) = projL n k p (m + 1) ++ List.replicate (size - (m + 1)) 0 := by
  have e : size - m = (size - (m + 1)) + 1 := by omega
  rw [List.set_append_right _ _ (by simp [projL_length]), projL_length, Nat.sub_self, e, List.replicate_succ, List.set_cons_zero, projL_succ n k p m h, List.append_assoc]
  rfl
set_option maxRecDepth 10000 in
set_option maxHeartbeats 1000000 in
theorem projection_c (n : Int) (k p size : Nat) (h1 : 1 ≤ n) (h8 : n ≤ 8) (hk : k ≤ 3) (hp : p < k) (hs : pw n k = size) (h27 : size ≤ 64) :
    Spec Try.prog 194 [vint n, vint (k : Int), vint (p : Int)] [] (fun r S' => ∃ s : Sv, r = vlit (vsv s) ∧ S' = [hsl tInt (vsv s) (projL n k p size)]) := by
  have hpow := power_c n k (by omega) (by omega) hk
  rw [hs] at hpow
  refine Spec.of_run2 (n := 30) Try.func194 rfl Try.results194 Try.ntmps194 rfl ?_
  repeat' (first | (with_reducible first | refine RL.done ?_ | refine RL.app0 ?_) | (with_reducible refine RL.wanted ?_ ?_; exact rfl) | ((with_reducible show RH _ _ _ ⟨some 12, .makeSlice _ _ _, _, _, _, _⟩ _ _ _ _); refine RH.make (α := Int) rfl (fun x => [vint x]) 0 (fun c => .cons rfl .nil) rfl rfl (by omega) (by omega) (by omega) ?_; rintro _ _ ⟨b12, rfl, rfl⟩) | ((with_reducible show RH _ _ _ ⟨_, .call ⟨.value (.func 91), _, _⟩, _, _, _, _⟩ _ _ _ _); refine RH.cP Try.call91 ?_; refine ⟨_, hpow, ?_⟩; rintro _ _ ⟨rfl, rfl⟩) | ((with_reducible show RH _ _ _ _ _ _ _ _); refine RH.val (hK := ?_)) | (with_reducible first | refine Run.seq ?_ | refine Run.region ?_ | refine Run.block ?_) | (with_reducible refine seqN (K := Run _ _ _ _) ?_))
  refine Run.loop (α := Nat) (fun i => [(0, vint n), (1, vint (k : Int)), (2, vint (p : Int)), (7, vsb b12 size size), (14, vint (size : Int)), (15, vint (i : Int))]) (fun i => [harr b12 1 (fun x : Int => [vint x]) (projL n k p i ++ List.replicate (size - i) (0 : Int)) (size * 1)]) (fun i => i ≤ size) (fun i => size - i) 0 (by simp) (Ent.of slA (.cons .head (by simp [projL]) .nil)) ?_
  intro i hi
  have hll := lowd_length (i : Int) n k
  have hlen : (projL n k p i ++ List.replicate (size - i) (0 : Int)).length = size := by simp [projL_length]; omega
  rcases Nat.lt_or_eq_of_le hi with h9 | rfl
  · have hset := projL_set n k p i size hp h9 (by omega)
    repeat' (first | (with_reducible first | refine RL.done ?_ | refine RL.app1 ?_) | (with_reducible refine RL.wanted ?_ ?_; exact rfl) | ((with_reducible show RH _ _ _ ⟨_, .call ⟨.value (.func 92), _, _⟩, _, _, _, _⟩ _ _ _ _); refine RH.cP Try.call92 ?_; refine ⟨_, argsAt_c _ n k (by omega) (by omega) (by omega) (by omega), ?_⟩; rintro _ _ ⟨s, rfl, rfl⟩) | ((with_reducible show RH _ _ _ _ _ _ _ _); first | refine RH.val (hK := ?_) | refine RH.upd (hK := ?_)) | (with_reducible first | refine Run.seq ?_ | refine Run.region ?_ | refine Run.block ?_ | refine Run.skip ?_ | refine Run.exit ?_ | refine Run.ret ?_) | (with_reducible show Run _ _ (.cond _ _ _) _ _ _; refine Run.condD rfl (fun h => ?_) (fun h => ?_)) | (with_reducible first | refine seqN (K := Run _ _ _ _) ?_ | refine seqE ?_ | refine blockN ?_ | refine blockE ?_))
    · with_reducible refine seqN ?_
      exact ⟨i + 1, by omega, by omega, Ent.of slA (.cons (.tail .head) (congrArg (fun ys => harr b12 1 (fun x : Int => [vint x]) ys (size * 1)) hset) .nil)⟩
    · exfalso; omega
  · repeat' (first | (with_reducible refine RL.done ?_) | (with_reducible refine RL.wanted ?_ ?_; exact rfl) | ((with_reducible show RH _ _ _ _ _ _ _ _); refine RH.val (hK := ?_)) | (with_reducible first | refine Run.seq ?_ | refine Run.region ?_ | refine Run.block ?_ | refine Run.skip ?_ | refine Run.exit ?_ | refine Run.ret ?_) | (with_reducible show Run _ _ (.cond _ _ _) _ _ _; refine Run.condD rfl (fun h => ?_) (fun h => ?_)) | (with_reducible first | refine seqN (K := Run _ _ _ _) ?_ | refine seqE ?_ | refine blockE ?_))
    · exfalso; omega
    · refine ⟨eA, _, [hsl tInt (vsv (some ⟨b12, 0, none⟩, i, i)) (projL n k p i)], resA, ?_, ?_⟩
      · exact (SEnt.ch (.cons .head (by simp) .nil)).trans (SEnt.pack (fun _ => rfl) (by rw [projL_length]))
      · exact ⟨(some ⟨b12, 0, none⟩, i, i), rfl, rfl⟩
set_option maxRecDepth 10000 in
set_option maxHeartbeats 1000000 in
theorem l12Projection_c (n : Int) (k p size : Nat) (h1 : 1 ≤ n) (h8 : n ≤ 8) (hk : k ≤ 3) (hp : p < k) (hs : pw n k = size) (h27 : size ≤ 64) :
    Spec Try.prog 186 [vint n, vint (k : Int), vint (p : Int)] [] (fun r S' => ∃ s : Sv, r = vlit (vsv s) ∧ S' = [hsl tInt (vsv s) (projL n k p size)]) := by
  have hpow := l2Pow_c n k (by omega) (by omega) hk
  rw [hs] at hpow
  refine Spec.of_run2 (n := 28) Try.func186 rfl Try.results186 Try.ntmps186 rfl ?_
  repeat' (first | (with_reducible refine RL.done ?_) | (with_reducible refine RL.wanted ?_ ?_; exact rfl) | ((with_reducible show RH _ _ _ ⟨some 9, .buildSlice _ _ _, _, _, _, _⟩ _ _ _ _); refine RH.eff rfl rfl (EOpS.e (EOpS.slit (fun x : Int => [vint x]) _ (fun _ _ => rfl) (by repeat (first | exact Elts.nil | (apply Elts.cons; exact rfl; exact CellsOf.one))) rfl rfl)) ?_; rintro _ _ ⟨b9, rfl, rfl⟩) | ((with_reducible show RH _ _ _ _ _ _ _ _); refine RH.val (hK := ?_)) | (with_reducible first | refine Run.seq ?_ | refine Run.region ?_ | refine Run.block ?_) | (with_reducible refine seqN (K := Run _ _ _ _) ?_))
  refine Run.sent (T := [hsl tInt (vsv (some ⟨b9, 0, none⟩, 0, 0)) []]) (SEnt.packNil tInt rfl) ?_
  refine Run.loop (α := Nat × Sv) (fun x => [(0, vint n), (1, vint (k : Int)), (2, vint (p : Int)), (7, vlit (vsv x.2)), (8, vint (x.1 : Int))]) (fun x => [hsl tInt (vsv x.2) (projL n k p x.1)]) (fun x => x.1 ≤ size) (fun x => size - x.1) (0, (some ⟨b9, 0, none⟩, 0, 0)) (by simp) (Ent.of slA (.cons .head rfl .nil)) ?_
  rintro ⟨i, s⟩ hi
  dsimp only at hi ⊢
  have hll := lowd_length (i : Int) n k
  have hlen := projL_length n k p i
  rcases Nat.lt_or_eq_of_le hi with h9 | rfl
  · repeat' (first | (with_reducible first | refine RL.done ?_ | refine RL.app0 ?_ | refine RL.app1 ?_) | (with_reducible refine RL.wanted ?_ ?_; exact rfl) | ((with_reducible show RH _ _ _ ⟨some 25, .buildSlice _ _ _, _, _, _, _⟩ _ _ _ _); refine RH.eff rfl rfl (EOpS.e (EOpS.slit (fun x : Int => [vint x]) _ (fun _ _ => rfl) (by repeat (first | exact Elts.nil | (apply Elts.cons; exact rfl; exact CellsOf.one))) rfl rfl)) ?_; rintro _ _ ⟨b25, rfl, rfl⟩) | ((with_reducible show RH _ _ _ ⟨_, .call ⟨.value (.func 99), _, _⟩, _, _, _, _⟩ _ _ _ _); refine RH.cP Try.call99 ?_; refine ⟨_, hpow, ?_⟩; rintro _ _ ⟨rfl, rfl⟩) | ((with_reducible show RH _ _ _ ⟨_, .call ⟨.value (.func 100), _, _⟩, _, _, _, _⟩ _ _ _ _); refine RH.cP Try.call100 ?_; refine ⟨_, l2Args_c _ n k (by omega) (by omega) (by omega) (by omega), ?_⟩; rintro _ _ ⟨s2, rfl, rfl⟩) | ((with_reducible show RH _ _ _ ⟨_, .call ⟨.builtin .append, _, _⟩, _, _, _, _⟩ _ _ _ _); (refine RH.appI rfl rfl rfl (by repeat (first | exact Pick.nil | (apply Pick.cons; (with_reducible repeat (first | exact Rem.head | apply Rem.tail))))) (by first | omega | (simp; omega)) (by first | omega | (simp; omega)) ?_); rintro _ _ ⟨s, rfl, rfl⟩) | ((with_reducible show RH _ _ _ _ _ _ _ _); refine RH.val (hK := ?_)) | (with_reducible first | refine Run.seq ?_ | refine Run.region ?_ | refine Run.block ?_ | refine Run.skip ?_ | refine Run.exit ?_ | refine Run.ret ?_) | (with_reducible show Run _ _ (.cond _ _ _) _ _ _; refine Run.condD rfl (fun h => ?_) (fun h => ?_)) | (with_reducible first | refine seqN (K := Run _ _ _ _) ?_ | refine seqE ?_ | refine blockN ?_ | refine blockE ?_))
    · with_reducible refine seqN ?_
      exact ⟨(i + 1, _), by simp; omega, by simp; omega, Ent.of slA (by dsimp only; exact .cons .head (by rw [projL_succ n k p i hp]) chA)⟩
    · exfalso; omega
  · repeat' (first | (with_reducible first | refine RL.done ?_ | refine RL.app0 ?_) | (with_reducible refine RL.wanted ?_ ?_; exact rfl) | ((with_reducible show RH _ _ _ ⟨_, .call ⟨.value (.func 99), _, _⟩, _, _, _, _⟩ _ _ _ _); refine RH.cP Try.call99 ?_; refine ⟨_, hpow, ?_⟩; rintro _ _ ⟨rfl, rfl⟩) | ((with_reducible show RH _ _ _ _ _ _ _ _); refine RH.val (hK := ?_)) | (with_reducible first | refine Run.seq ?_ | refine Run.region ?_ | refine Run.block ?_ | refine Run.skip ?_ | refine Run.exit ?_ | refine Run.ret ?_) | (with_reducible show Run _ _ (.cond _ _ _) _ _ _; refine Run.condD rfl (fun h => ?_) (fun h => ?_)) | (with_reducible first | refine seqN (K := Run _ _ _ _) ?_ | refine seqE ?_ | refine blockE ?_))
    · exfalso; omega
    · refine ⟨eA, _, [hsl tInt (vsv s) (projL n k p i)], resA, ?_, ?_⟩
      · exact SEnt.ch chA
      · exact ⟨s, rfl, rfl⟩
theorem freshTo (K k b i : Nat) (hb : (lowd (i : Int) (K : Int) k).any (fun x => decide ((b : Int) ≤ x)) = true) : fresh K k b i = true := by rw [fresh, hb]; rfl
theorem lowd_any (i K : Int) (b : Int) (m k : Nat) (hm : m < k) (h : b ≤ dv i K m % K) : (lowd i K k).any (fun x => decide (b ≤ x)) = true := by
  induction k with
  | zero => omega
  | succ k ih =>
    rw [lowd, List.any_cons]
    rcases Nat.lt_or_eq_of_le (Nat.lt_succ_iff.1 hm) with h1 | rfl
    · rw [ih h1, Bool.or_true]
    · rw [decide_eq_true h, Bool.true_or]
set_option maxRecDepth 10000 in
set_option maxHeartbeats 1000000 in
theorem l12Fresh_c (K k b i : Nat) (hK : 1 ≤ K) (hk : k ≤ 3) (hi : (i : Int) ≤ 1152921504606846976) :
    Spec Try.prog 167 [vint (K : Int), vint (k : Int), vint (i : Int), vint (b : Int)] [] (fun r S' => r = vbool (fresh K k b i) ∧ S' = []) := by
  refine Spec.of_run2 (n := 25) Try.func167 rfl Try.results167 Try.ntmps167 rfl ?_
  repeat' (first | (with_reducible refine RL.done ?_) | (with_reducible refine RL.wanted ?_ ?_; exact rfl) | ((with_reducible show RH _ _ _ _ _ _ _ _); refine RH.val (hK := ?_)) | (with_reducible first | refine Run.seq ?_ | refine Run.region ?_ | refine Run.block ?_) | (with_reducible refine seqN (K := Run _ _ _ _) ?_))
  refine Run.loop (α := Nat) (fun m => [(0, vint (K : Int)), (1, vint (k : Int)), (2, vint (dv (i : Int) (K : Int) m)), (3, vint (b : Int)), (9, vint (m : Int))]) (fun m => []) (fun m => m ≤ k ∧ (lowd (i : Int) (K : Int) m).any (fun x => decide ((b : Int) ≤ x)) = false) (fun m => k - m) 0 (by simp [lowd]) (Ent.of (by (repeat (first | exact Sl.nil | refine Sl.cons rfl rfl ?_ | refine Sl.cons rfl (congrArg (fun z => vlit (Value.int .i64 z)) (by omega)) ?_ | refine Sl.cons rfl (by simp [dv]) ?_))) .nil) ?_
  rintro m ⟨hm, hno⟩
  have hd := dv_bound (i : Int) (K : Int) (by omega) (by omega) m
  rcases Nat.lt_or_eq_of_le hm with h9 | rfl
  · repeat' (first | (with_reducible refine RL.done ?_) | (with_reducible refine RL.wanted ?_ ?_; exact rfl) | ((with_reducible show RH _ _ _ _ _ _ _ _); refine RH.val (hK := ?_)) | (with_reducible first | refine Run.seq ?_ | refine Run.region ?_ | refine Run.block ?_ | refine Run.skip ?_ | refine Run.exit ?_ | refine Run.ret ?_) | (with_reducible show Run _ _ (.cond _ _ _) _ _ _; refine Run.condD rfl (fun h => ?_) (fun h => ?_)) | (with_reducible first | refine seqN (K := Run _ _ _ _) ?_ | refine seqE ?_ | refine seqR ?_ | refine blockN ?_ | refine blockR ?_ | refine blockE ?_))
    all_goals first
      | (exfalso; omega)
      | (refine ⟨eA, _, [], resA, .ch .nil, ?_⟩; exact ⟨congrArg vbool (freshTo K k b i (lowd_any _ _ _ m k h9 (by assumption))).symm, rfl⟩)
      | (with_reducible refine seqN ?_
         exact ⟨m + 1, ⟨by omega, by rw [lowd, List.any_cons, hno, Bool.or_false]; exact decide_eq_false (by assumption)⟩, by omega, Ent.of (by (repeat (first | exact Sl.nil | refine Sl.cons rfl rfl ?_ | refine Sl.cons rfl (congrArg (fun z => vlit (Value.int .i64 z)) (by omega)) ?_ | refine Sl.cons rfl (rfl) ?_))) .nil⟩)
  · repeat' (first | (with_reducible refine RL.done ?_) | (with_reducible refine RL.wanted ?_ ?_; exact rfl) | ((with_reducible show RH _ _ _ _ _ _ _ _); refine RH.val (hK := ?_)) | (with_reducible first | refine Run.seq ?_ | refine Run.region ?_ | refine Run.block ?_ | refine Run.skip ?_ | refine Run.exit ?_ | refine Run.ret ?_) | (with_reducible show Run _ _ (.cond _ _ _) _ _ _; refine Run.condD rfl (fun h => ?_) (fun h => ?_)) | (with_reducible first | refine seqN (K := Run _ _ _ _) ?_ | refine seqE ?_ | refine seqR ?_ | refine blockN ?_ | refine blockR ?_ | refine blockE ?_))
    all_goals first
      | (exfalso; omega)
      | (refine ⟨eA, _, [], resA, .ch .nil, ?_⟩; exact ⟨by rw [fresh, hno, Bool.false_or]; exact congrArg vbool (Bool.eq_iff_iff.2 (by simp)), rfl⟩)

end Go.Proofs.Ytiifdhdhjioefaa
