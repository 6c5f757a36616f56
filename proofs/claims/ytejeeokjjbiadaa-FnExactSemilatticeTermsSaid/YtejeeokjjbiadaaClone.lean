/- Clones: spec.l12Projection, l12Fresh, l12Add, impl.projection, found.add, isCloneRange, spec.l12Places. Proved for this program; conditions: 1 to 8 elements, up to 3 arguments, up to 27 positions, up to 61 functions. -/
import Derived.Test.YtejeeokjjbiadaaCloneP
import Derived.Test.YtejeeokjjbiadaaKeys
import Derived.Test.YtejeeokjjbiadaaOps
import Derived.Test.YtejeeokjjbiadaaOwn
namespace Go.Proofs.Ytejeeokjjbiadaa
open Go Go.Proofs
set_option linter.unusedVariables false

def projL (n : Int) (k p m : Nat) : List Int := (List.range m).map fun (i : Nat) => (lowd (i : Int) n k).getD p 0
theorem projL_length (n : Int) (k p m : Nat) : (projL n k p m).length = m := by simp [projL]
theorem projL_succ (n : Int) (k p m : Nat) (h : p < k) : projL n k p (m + 1) = projL n k p m ++ [(lowd (m : Int) n k)[p]'(by rw [lowd_length]; exact h)] := by
  simp only [projL, List.range_succ, List.map_append, List.map_cons, List.map_nil]
  rw [getD_g _ _ _ (by rw [lowd_length]; exact h)]
theorem projL_el (n : Int) (k p m : Nat) (hn : 1 ≤ n) (h : p < k) : elB n (projL n k p m) = true := by
  rw [elB, List.all_eq_true]
  intro x hx
  obtain ⟨i, hi, rfl⟩ := List.mem_map.1 hx
  rw [getD_g _ _ _ (by rw [lowd_length]; exact h)]
  simpa using lowd_range' (i : Int) n (by omega) hn k _ (List.getElem_mem _)
theorem projL_set (n : Int) (k p m size : Nat) (h : p < k) (hm : m < size) (hl : p < (lowd (m : Int) n k).length) : (projL n k p m ++ List.replicate (size - m) (0 : Int)).set m ((lowd (m : Int) n k)[p]) = projL n k p (m + 1) ++ List.replicate (size - (m + 1)) 0 := by
  have e : size - m = (size - (m + 1)) + 1 := by omega
  rw [List.set_append_right _ _ (by simp [projL_length]), projL_length, Nat.sub_self, e, List.replicate_succ, List.set_cons_zero, projL_succ n k p m h, List.append_assoc]
  rfl
def rangeB (n k : Int) : Bool := decide (1 ≤ k ∧ k ≤ 3) && decide (pw n k.toNat ≤ 27)

set_option maxRecDepth 10000 in
theorem isCloneRange_c (n k : Int) (h0 : 0 ≤ n) (h8 : n ≤ 1048576) :
    Spec Try.prog 166 [vint n, vint k] [] (fun r S' => r = vbool (rangeB n k) ∧ S' = []) := by
  refine Spec.of_run2 (n := 17) Try.func166 rfl Try.results166 Try.ntmps166 rfl ?_
  by_cases hk : 1 ≤ k ∧ k ≤ 3
  · obtain ⟨k, rfl⟩ : ∃ m : Nat, k = m := ⟨k.toNat, by omega⟩
    rw [rangeB, decide_eq_true hk]
    repeat' (first | (with_reducible first | refine RL.done ?_ | refine RL.app0 ?_) | (with_reducible refine RL.wanted ?_ ?_; exact rfl) | ((with_reducible show RH _ _ _ ⟨_, .call ⟨.value (.func 144), _, _⟩, _, _, _, _⟩ _ _ _ _); refine RH.cP Try.call144 ?_; refine ⟨_, power_c n k (by omega) (by omega) (by omega), ?_⟩; rintro _ _ ⟨rfl, rfl⟩) | ((with_reducible show RH _ _ _ _ _ _ _ _); refine RH.val (hK := ?_)) | (with_reducible show RL _ _ _ (_ :: _) _ _ _; first | refine RL.guardYes rfl rfl rfl rfl ?_ | refine RL.guardNoS rfl rfl rfl rfl rfl rfl ?_ | refine RL.splitD rfl rfl rfl (fun h => ?_) (fun h => ?_)) | (with_reducible first | refine Run.seq ?_ | refine Run.region ?_ | refine Run.ret ?_) | (with_reducible refine seqN (K := Run _ _ _ _) ?_))
    all_goals first
      | (exfalso; omega)
      | (refine ⟨eA, _, [], resA, .ch .nil, ?_⟩; exact ⟨rfl, rfl⟩)
  · rw [rangeB, decide_eq_false hk]
    repeat' (first | (with_reducible refine RL.done ?_) | (with_reducible refine RL.wanted ?_ ?_; exact rfl) | ((with_reducible show RH _ _ _ _ _ _ _ _); refine RH.val (hK := ?_)) | (with_reducible show RL _ _ _ (_ :: _) _ _ _; first | refine RL.guardYes rfl rfl rfl rfl ?_ | refine RL.guardNoS rfl rfl rfl rfl rfl rfl ?_ | refine RL.splitD rfl rfl rfl (fun h => ?_) (fun h => ?_)) | (with_reducible first | refine Run.seq ?_ | refine Run.region ?_ | refine Run.ret ?_) | (with_reducible refine seqN (K := Run _ _ _ _) ?_))
    all_goals first
      | (refine ⟨eA, _, [], resA, .ch .nil, ?_⟩; exact ⟨rfl, rfl⟩)
      | (refine ⟨eA, _, [], resA, .ch .nil, ?_⟩; exact ⟨by simp; omega, rfl⟩)
      | (exfalso; omega)
set_option maxRecDepth 10000 in
set_option maxHeartbeats 1000000 in
theorem projection_c (n : Int) (k p size : Nat) (h1 : 1 ≤ n) (h8 : n ≤ 8) (hk : k ≤ 3) (hp : p < k) (hs : pw n k = size) (h27 : size ≤ 64) :
    Spec Try.prog 180 [vint n, vint (k : Int), vint (p : Int)] [] (fun r S' => ∃ s : Sv, r = vlit (vsv s) ∧ S' = [hsl tInt (vsv s) (projL n k p size)]) := by
  have hpow := power_c n k (by omega) (by omega) hk
  rw [hs] at hpow
  refine Spec.of_run2 (n := 30) Try.func180 rfl Try.results180 Try.ntmps180 rfl ?_
  repeat' (first | (with_reducible first | refine RL.done ?_ | refine RL.app0 ?_) | (with_reducible refine RL.wanted ?_ ?_; exact rfl) | ((with_reducible show RH _ _ _ ⟨some 12, .makeSlice _ _ _, _, _, _, _⟩ _ _ _ _); refine RH.make (α := Int) rfl (fun x => [vint x]) 0 (fun c => .cons rfl .nil) rfl rfl (by omega) (by omega) (by omega) ?_; rintro _ _ ⟨b12, rfl, rfl⟩) | ((with_reducible show RH _ _ _ ⟨_, .call ⟨.value (.func 144), _, _⟩, _, _, _, _⟩ _ _ _ _); refine RH.cP Try.call144 ?_; refine ⟨_, hpow, ?_⟩; rintro _ _ ⟨rfl, rfl⟩) | ((with_reducible show RH _ _ _ _ _ _ _ _); refine RH.val (hK := ?_)) | (with_reducible first | refine Run.seq ?_ | refine Run.region ?_ | refine Run.block ?_) | (with_reducible refine seqN (K := Run _ _ _ _) ?_))
  refine Run.loop (α := Nat) (fun i => [(0, vint n), (1, vint (k : Int)), (2, vint (p : Int)), (7, vsb b12 size size), (14, vint (size : Int)), (15, vint (i : Int))]) (fun i => [harr b12 1 (fun x : Int => [vint x]) (projL n k p i ++ List.replicate (size - i) (0 : Int)) (size * 1)]) (fun i => i ≤ size) (fun i => size - i) 0 (by simp) (Ent.of slA (.cons .head (by simp [projL]) .nil)) ?_
  intro i hi
  have hll := lowd_length (i : Int) n k
  have hlen : (projL n k p i ++ List.replicate (size - i) (0 : Int)).length = size := by simp [projL_length]; omega
  rcases Nat.lt_or_eq_of_le hi with h9 | rfl
  · have hset := projL_set n k p i size hp h9 (by omega)
    repeat' (first | (with_reducible first | refine RL.done ?_ | refine RL.app1 ?_) | (with_reducible refine RL.wanted ?_ ?_; exact rfl) | ((with_reducible show RH _ _ _ ⟨_, .call ⟨.value (.func 145), _, _⟩, _, _, _, _⟩ _ _ _ _); refine RH.cP Try.call145 ?_; refine ⟨_, argsAt_c _ n k (by omega) (by omega) (by omega) (by omega), ?_⟩; rintro _ _ ⟨s, rfl, rfl⟩) | ((with_reducible show RH _ _ _ _ _ _ _ _); first | refine RH.val (hK := ?_) | refine RH.upd (hK := ?_)) | (with_reducible first | refine Run.seq ?_ | refine Run.region ?_ | refine Run.block ?_ | refine Run.skip ?_ | refine Run.exit ?_ | refine Run.ret ?_) | (with_reducible show Run _ _ (.cond _ _ _) _ _ _; refine Run.condD rfl (fun h => ?_) (fun h => ?_)) | (with_reducible first | refine seqN (K := Run _ _ _ _) ?_ | refine seqE ?_ | refine blockN ?_ | refine blockE ?_))
    · with_reducible refine seqN ?_
      exact ⟨i + 1, by omega, by omega, Ent.of slA (.cons (.tail .head) (congrArg (fun ys => harr b12 1 (fun x : Int => [vint x]) ys (size * 1)) hset) .nil)⟩
    · exfalso; omega
  · repeat' (first | (with_reducible refine RL.done ?_) | (with_reducible refine RL.wanted ?_ ?_; exact rfl) | ((with_reducible show RH _ _ _ _ _ _ _ _); refine RH.val (hK := ?_)) | (with_reducible first | refine Run.seq ?_ | refine Run.region ?_ | refine Run.block ?_ | refine Run.skip ?_ | refine Run.exit ?_ | refine Run.ret ?_) | (with_reducible show Run _ _ (.cond _ _ _) _ _ _; refine Run.condD rfl (fun h => ?_) (fun h => ?_)) | (with_reducible first | refine seqN (K := Run _ _ _ _) ?_ | refine seqE ?_ | refine blockE ?_))
    · exfalso; omega
    · refine ⟨eA, _, [hsl tInt (vsv (some ⟨b12, 0, none⟩, i, i)) (projL n k p i)], resA, ?_, ?_⟩
      · exact (SEnt.ch (.cons .head (by simp) .nil)).trans (SEnt.pack (fun _ => rfl) (by rw [projL_length]))
      · exact ⟨(some ⟨b12, 0, none⟩, i, i), rfl, rfl⟩
set_option maxRecDepth 10000 in
set_option maxHeartbeats 1000000 in
theorem l12Projection_c (n : Int) (k p size : Nat) (h1 : 1 ≤ n) (h8 : n ≤ 8) (hk : k ≤ 3) (hp : p < k) (hs : pw n k = size) (h27 : size ≤ 64) :
    Spec Try.prog 163 [vint n, vint (k : Int), vint (p : Int)] [] (fun r S' => ∃ s : Sv, r = vlit (vsv s) ∧ S' = [hsl tInt (vsv s) (projL n k p size)]) := by
  have hpow := l2Pow_c n k (by omega) (by omega) hk
  rw [hs] at hpow
  refine Spec.of_run2 (n := 28) Try.func163 rfl Try.results163 Try.ntmps163 rfl ?_
  repeat' (first | (with_reducible refine RL.done ?_) | (with_reducible refine RL.wanted ?_ ?_; exact rfl) | ((with_reducible show RH _ _ _ ⟨some 9, .buildSlice _ _ _, _, _, _, _⟩ _ _ _ _); refine RH.eff rfl rfl (EOpS.e (EOpS.slit (fun x : Int => [vint x]) _ (fun _ _ => rfl) (by repeat (first | exact Elts.nil | (apply Elts.cons; exact rfl; exact CellsOf.one))) rfl rfl)) ?_; rintro _ _ ⟨b9, rfl, rfl⟩) | ((with_reducible show RH _ _ _ _ _ _ _ _); refine RH.val (hK := ?_)) | (with_reducible first | refine Run.seq ?_ | refine Run.region ?_ | refine Run.block ?_) | (with_reducible refine seqN (K := Run _ _ _ _) ?_))
  refine Run.sent (T := [hsl tInt (vsv (some ⟨b9, 0, none⟩, 0, 0)) []]) (SEnt.packNil tInt rfl) ?_
  refine Run.loop (α := Nat × Sv) (fun x => [(0, vint n), (1, vint (k : Int)), (2, vint (p : Int)), (7, vlit (vsv x.2)), (8, vint (x.1 : Int))]) (fun x => [hsl tInt (vsv x.2) (projL n k p x.1)]) (fun x => x.1 ≤ size) (fun x => size - x.1) (0, (some ⟨b9, 0, none⟩, 0, 0)) (by simp) (Ent.of slA (.cons .head rfl .nil)) ?_
  rintro ⟨i, s⟩ hi
  dsimp only at hi ⊢
  have hll := lowd_length (i : Int) n k
  have hlen := projL_length n k p i
  rcases Nat.lt_or_eq_of_le hi with h9 | rfl
  · repeat' (first | (with_reducible first | refine RL.done ?_ | refine RL.app0 ?_ | refine RL.app1 ?_) | (with_reducible refine RL.wanted ?_ ?_; exact rfl) | ((with_reducible show RH _ _ _ ⟨some 25, .buildSlice _ _ _, _, _, _, _⟩ _ _ _ _); refine RH.eff rfl rfl (EOpS.e (EOpS.slit (fun x : Int => [vint x]) _ (fun _ _ => rfl) (by repeat (first | exact Elts.nil | (apply Elts.cons; exact rfl; exact CellsOf.one))) rfl rfl)) ?_; rintro _ _ ⟨b25, rfl, rfl⟩) | ((with_reducible show RH _ _ _ ⟨_, .call ⟨.value (.func 80), _, _⟩, _, _, _, _⟩ _ _ _ _); refine RH.cP Try.call80 ?_; refine ⟨_, hpow, ?_⟩; rintro _ _ ⟨rfl, rfl⟩) | ((with_reducible show RH _ _ _ ⟨_, .call ⟨.value (.func 120), _, _⟩, _, _, _, _⟩ _ _ _ _); refine RH.cP Try.call120 ?_; refine ⟨_, l2Args_c _ n k (by omega) (by omega) (by omega) (by omega), ?_⟩; rintro _ _ ⟨s2, rfl, rfl⟩) | ((with_reducible show RH _ _ _ ⟨_, .call ⟨.builtin .append, _, _⟩, _, _, _, _⟩ _ _ _ _); (refine RH.appI rfl rfl rfl (by repeat (first | exact Pick.nil | (apply Pick.cons; (with_reducible repeat (first | exact Rem.head | apply Rem.tail))))) (by first | omega | (simp; omega)) (by first | omega | (simp; omega)) ?_); rintro _ _ ⟨s, rfl, rfl⟩) | ((with_reducible show RH _ _ _ _ _ _ _ _); refine RH.val (hK := ?_)) | (with_reducible first | refine Run.seq ?_ | refine Run.region ?_ | refine Run.block ?_ | refine Run.skip ?_ | refine Run.exit ?_ | refine Run.ret ?_) | (with_reducible show Run _ _ (.cond _ _ _) _ _ _; refine Run.condD rfl (fun h => ?_) (fun h => ?_)) | (with_reducible first | refine seqN (K := Run _ _ _ _) ?_ | refine seqE ?_ | refine blockN ?_ | refine blockE ?_))
    · with_reducible refine seqN ?_
      exact ⟨(i + 1, _), by simp; omega, by simp; omega, Ent.of slA (by dsimp only; exact .cons .head (by rw [projL_succ n k p i hp]) chA)⟩
    · exfalso; omega
  · repeat' (first | (with_reducible first | refine RL.done ?_ | refine RL.app0 ?_) | (with_reducible refine RL.wanted ?_ ?_; exact rfl) | ((with_reducible show RH _ _ _ ⟨_, .call ⟨.value (.func 80), _, _⟩, _, _, _, _⟩ _ _ _ _); refine RH.cP Try.call80 ?_; refine ⟨_, hpow, ?_⟩; rintro _ _ ⟨rfl, rfl⟩) | ((with_reducible show RH _ _ _ _ _ _ _ _); refine RH.val (hK := ?_)) | (with_reducible first | refine Run.seq ?_ | refine Run.region ?_ | refine Run.block ?_ | refine Run.skip ?_ | refine Run.exit ?_ | refine Run.ret ?_) | (with_reducible show Run _ _ (.cond _ _ _) _ _ _; refine Run.condD rfl (fun h => ?_) (fun h => ?_)) | (with_reducible first | refine seqN (K := Run _ _ _ _) ?_ | refine seqE ?_ | refine blockE ?_))
    · exfalso; omega
    · refine ⟨eA, _, [hsl tInt (vsv s) (projL n k p i)], resA, ?_, ?_⟩
      · exact SEnt.ch chA
      · exact ⟨s, rfl, rfl⟩
theorem freshTo (K k b i : Nat) (hb : (lowd (i : Int) (K : Int) k).any (fun x => decide ((b : Int) ≤ x)) = true) : fresh K k b i = true := by rw [fresh, hb]; rfl
theorem lowd_any (i K : Int) (b : Int) (m k : Nat) (hm : m < k) (h : b ≤ dv i K m % K) : (lowd i K k).any (fun x => decide (b ≤ x)) = true := by
  induction k with
  | zero => omega
  | succ k ih =>
    rw [lowd, List.any_cons]
    rcases Nat.lt_or_eq_of_le (Nat.lt_succ_iff.1 hm) with h1 | rfl
    · rw [ih h1, Bool.or_true]
    · rw [decide_eq_true h, Bool.true_or]
set_option maxRecDepth 10000 in
set_option maxHeartbeats 1000000 in
theorem l12Fresh_c (K k b i : Nat) (hK : 1 ≤ K) (hk : k ≤ 3) (hi : (i : Int) ≤ 1152921504606846976) :
    Spec Try.prog 217 [vint (K : Int), vint (k : Int), vint (i : Int), vint (b : Int)] [] (fun r S' => r = vbool (fresh K k b i) ∧ S' = []) := by
  refine Spec.of_run2 (n := 25) Try.func217 rfl Try.results217 Try.ntmps217 rfl ?_
  repeat' (first | (with_reducible refine RL.done ?_) | (with_reducible refine RL.wanted ?_ ?_; exact rfl) | ((with_reducible show RH _ _ _ _ _ _ _ _); refine RH.val (hK := ?_)) | (with_reducible first | refine Run.seq ?_ | refine Run.region ?_ | refine Run.block ?_) | (with_reducible refine seqN (K := Run _ _ _ _) ?_))
  refine Run.loop (α := Nat) (fun m => [(0, vint (K : Int)), (1, vint (k : Int)), (2, vint (dv (i : Int) (K : Int) m)), (3, vint (b : Int)), (9, vint (m : Int))]) (fun m => []) (fun m => m ≤ k ∧ (lowd (i : Int) (K : Int) m).any (fun x => decide ((b : Int) ≤ x)) = false) (fun m => k - m) 0 (by simp [lowd]) (Ent.of (by (repeat (first | exact Sl.nil | refine Sl.cons rfl rfl ?_ | refine Sl.cons rfl (congrArg (fun z => vlit (Value.int .i64 z)) (by omega)) ?_ | refine Sl.cons rfl (by simp [dv]) ?_))) .nil) ?_
  rintro m ⟨hm, hno⟩
  have hd := dv_bound (i : Int) (K : Int) (by omega) (by omega) m
  rcases Nat.lt_or_eq_of_le hm with h9 | rfl
  · repeat' (first | (with_reducible refine RL.done ?_) | (with_reducible refine RL.wanted ?_ ?_; exact rfl) | ((with_reducible show RH _ _ _ _ _ _ _ _); refine RH.val (hK := ?_)) | (with_reducible first | refine Run.seq ?_ | refine Run.region ?_ | refine Run.block ?_ | refine Run.skip ?_ | refine Run.exit ?_ | refine Run.ret ?_) | (with_reducible show Run _ _ (.cond _ _ _) _ _ _; refine Run.condD rfl (fun h => ?_) (fun h => ?_)) | (with_reducible first | refine seqN (K := Run _ _ _ _) ?_ | refine seqE ?_ | refine seqR ?_ | refine blockN ?_ | refine blockR ?_ | refine blockE ?_))
    all_goals first
      | (exfalso; omega)
      | (refine ⟨eA, _, [], resA, .ch .nil, ?_⟩; exact ⟨congrArg vbool (freshTo K k b i (lowd_any _ _ _ m k h9 (by assumption))).symm, rfl⟩)
      | (with_reducible refine seqN ?_
         exact ⟨m + 1, ⟨by omega, by rw [lowd, List.any_cons, hno, Bool.or_false]; exact decide_eq_false (by assumption)⟩, by omega, Ent.of (by (repeat (first | exact Sl.nil | refine Sl.cons rfl rfl ?_ | refine Sl.cons rfl (congrArg (fun z => vlit (Value.int .i64 z)) (by omega)) ?_ | refine Sl.cons rfl (rfl) ?_))) .nil⟩)
  · repeat' (first | (with_reducible refine RL.done ?_) | (with_reducible refine RL.wanted ?_ ?_; exact rfl) | ((with_reducible show RH _ _ _ _ _ _ _ _); refine RH.val (hK := ?_)) | (with_reducible first | refine Run.seq ?_ | refine Run.region ?_ | refine Run.block ?_ | refine Run.skip ?_ | refine Run.exit ?_ | refine Run.ret ?_) | (with_reducible show Run _ _ (.cond _ _ _) _ _ _; refine Run.condD rfl (fun h => ?_) (fun h => ?_)) | (with_reducible first | refine seqN (K := Run _ _ _ _) ?_ | refine seqE ?_ | refine seqR ?_ | refine blockN ?_ | refine blockR ?_ | refine blockE ?_))
    all_goals first
      | (exfalso; omega)
      | (refine ⟨eA, _, [], resA, .ch .nil, ?_⟩; exact ⟨by rw [fresh, hno, Bool.false_or]; exact congrArg vbool (Bool.eq_iff_iff.2 (by simp)), rfl⟩)

set_option maxRecDepth 10000 in
set_option maxHeartbeats 2000000 in
theorem add_c (bc bm : Nat) (s1 s2 : Sv) (c : CS) (t : List Int) (op : Int) (ns : List Int) (h1 : c.1.length ≤ 1024) (h2 : c.2.length ≤ 1024) (ht : t.length ≤ 1024) (hns : ns.length ≤ 1024) (hm : keyS t ∈ List.map keyS c.1 ↔ t ∈ c.1) :
    Spec Try.prog 205 [vptr bc 0, vsl 1 (fun x : Int => [vint x]) t, vint op, vsl 1 (fun x : Int => [vint x]) ns] [hcells bc [vlit (vsv s1), vlit (vsv s2), vmap bm], hsl tRow (vsv s1) c.1, hsl (tPair tInt (tS tInt)) (vsv s2) c.2, hset bm (List.map keyS c.1)] (fun r S' => ∃ u1 u2 : Sv, r = vtup [] ∧ S' = [hcells bc [vlit (vsv u1), vlit (vsv u2), vmap bm], hsl tRow (vsv u1) (addC c t (op, ns)).1, hsl (tPair tInt (tS tInt)) (vsv u2) (addC c t (op, ns)).2, hset bm (List.map keyS (addC c t (op, ns)).1)]) := by
  refine Spec.of_run2 (n := 46) Try.func205 rfl Try.results205 Try.ntmps205 rfl ?_
  by_cases hin : t ∈ c.1
  · have e : addC c t (op, ns) = c := if_pos hin
    rw [e]
    have hk := hm.2 hin
    repeat' (first | (with_reducible first | refine RL.done ?_ | refine RL.app0 ?_) | (with_reducible refine RL.wanted ?_ ?_; exact rfl) | ((with_reducible show RH _ _ _ ⟨some 29, .buildSlice _ _ _, _, _, _, _⟩ _ _ _ _); (refine RH.eff rfl rfl (EOpS.e (EOpS.slit (fun t : List Int => [vsl 1 (fun x : Int => [vint x]) t]) _ (fun _ _ => rfl) (by ((repeat (first | exact Elts.nil | (apply Elts.cons; exact rfl; exact CellsOf.one))); done)) rfl rfl)) ?_; rintro _ _ ⟨b29, rfl, rfl⟩)) | ((with_reducible show RH _ _ _ ⟨_, .call ⟨.value (.func 147), _, _⟩, _, _, _, _⟩ _ _ _ _); refine RH.cP Try.call147 ?_; refine ⟨_, keyOf_c t (by omega), ?_⟩; rintro _ _ ⟨rfl, rfl⟩) | ((with_reducible show RH _ _ _ _ _ _ _ _); first | refine RH.val (hK := ?_) | refine RH.upd (hK := ?_)) | (with_reducible first | refine Run.seq ?_ | refine Run.region ?_ | refine Run.skip ?_) | (with_reducible show Run _ _ (.cond _ _ _) _ _ _; refine Run.condND rfl (fun h => ?_) (fun h => ?_)) | (with_reducible refine seqN (K := Run _ _ _ _) ?_))
    all_goals first
      | (exfalso; exact (by assumption : ¬ _) hk)
      | skip
    refine ⟨eA, _, [hcells bc [vlit (vsv s1), vlit (vsv s2), vmap bm], hsl tRow (vsv s1) c.1, hsl (tPair tInt (tS tInt)) (vsv s2) c.2, hset bm (List.map keyS c.1)], resA, ?_, ?_⟩
    · exact SEnt.ch chA
    · exact ⟨s1, s2, rfl, rfl⟩
  · have e : addC c t (op, ns) = (c.1 ++ [t], c.2 ++ [(op, ns)]) := if_neg hin
    rw [e]
    have hk : ¬ keyS t ∈ List.map keyS c.1 := fun h => hin (hm.1 h)
    repeat' (first | (with_reducible first | refine RL.done ?_ | refine RL.app0 ?_ | refine RD.app1 ?_) | (with_reducible refine RL.wanted ?_ ?_; exact rfl) | ((with_reducible show Run _ _ (.region 4 _ true) _ _ _); refine Run.regionD (fun i => i == 10 || i == 13) rfl ?_; change RD _ _ _ _ _ _ 14 (dm 14 0) _ _) | ((with_reducible show RD _ _ 4 _ _ _ _ _ _ _); first | ((with_reducible show RD _ _ _ _ _ _ _ (dm 14 0) _ _); refine RD.tk 1 (dm 14 15388) (dm 14 2) (hK := ?_)) | ((with_reducible show RD _ _ _ _ _ _ _ (dm 14 2) _ _); refine RD.tk 2 (dm 14 15384) (dm 14 6) (hK := ?_)) | ((with_reducible show RD _ _ _ _ _ _ _ (dm 14 6) _ _); refine RD.tk 3 (dm 14 15376) (dm 14 14) (hK := ?_)) | ((with_reducible show RD _ _ _ _ _ _ _ (dm 14 14) _ _); refine RD.tk 4 (dm 14 15360) (dm 14 30) (hK := ?_)) | ((with_reducible show RD _ _ _ _ _ _ _ (dm 14 30) _ _); refine RD.tk 5 (dm 14 16128) (dm 14 62) (hK := ?_)) | ((with_reducible show RD _ _ _ _ _ _ _ (dm 14 62) _ _); refine RD.tk 6 (dm 14 16256) (dm 14 126) (hK := ?_)) | ((with_reducible show RD _ _ _ _ _ _ _ (dm 14 126) _ _); refine RD.a2 0 7 ?_ ?_) | ((with_reducible show RD _ _ _ _ _ _ _ (dm 14 127) _ _); refine RD.a1 7 ?_) | ((with_reducible show RD _ _ _ _ _ _ _ (dm 14 254) _ _); refine RD.tk 8 (dm 14 15872) (dm 14 510) (hK := ?_)) | ((with_reducible show RD _ _ _ _ _ _ _ (dm 14 255) _ _); refine RD.tk 8 (dm 14 15872) (dm 14 511) (hK := ?_)) | ((with_reducible show RD _ _ _ _ _ _ _ (dm 14 510) _ _); refine RD.a2 0 9 ?_ ?_) | ((with_reducible show RD _ _ _ _ _ _ _ (dm 14 511) _ _); refine RD.a1 9 ?_) | ((with_reducible show RD _ _ _ _ _ _ _ (dm 14 1022) _ _); refine RD.a2 0 10 ?_ ?_) | ((with_reducible show RD _ _ _ _ _ _ _ (dm 14 1023) _ _); refine RD.a1 10 ?_) | ((with_reducible show RD _ _ _ _ _ _ _ (dm 14 2046) _ _); refine RD.tk 0 (dm 14 14336) (dm 14 2047) (hK := ?_)) | ((with_reducible show RD _ _ _ _ _ _ _ (dm 14 2047) _ _); refine RD.tk 11 (dm 14 12288) (dm 14 4095) (hK := ?_)) | ((with_reducible show RD _ _ _ _ _ _ _ (dm 14 4095) _ _); refine RD.tk 12 (dm 14 8192) (dm 14 8191) (hK := ?_)) | ((with_reducible show RD _ _ _ _ _ _ _ (dm 14 8191) _ _); refine RD.a1 13 ?_) | ((with_reducible show RD _ _ _ _ _ _ 0 _ _ _); refine RD.done (by kernel_rfl) ?_)) | ((with_reducible show RO _ _ 4 _ _ _ _ _ _ _ _); first | ((with_reducible show RO _ _ _ _ _ _ _ (dm 14 126) 0 _ _); refine RO.v (dm 14 127) (hK := ?_)) | ((with_reducible show RO _ _ _ _ _ _ _ (dm 14 126) 7 _ _); (refine RO.cP (dm 14 254) Try.call93 ?_; refine ⟨_, clone_c ns (by omega), ?_⟩; rintro _ _ ⟨s3, rfl, rfl⟩)) | ((with_reducible show RO _ _ _ _ _ _ _ (dm 14 127) 7 _ _); (refine RO.cP (dm 14 255) Try.call93 ?_; refine ⟨_, clone_c ns (by omega), ?_⟩; rintro _ _ ⟨s3, rfl, rfl⟩)) | ((with_reducible show RO _ _ _ _ _ _ _ (dm 14 510) 0 _ _); refine RO.v (dm 14 511) (hK := ?_)) | ((with_reducible show RO _ _ _ _ _ _ _ (dm 14 510) 9 _ _); (refine RO.eS (dm 14 1022) (hv := by show EOpS _ _ _ _ ⟨_, .buildSlice _ _ _, _, _, _, _⟩ _; exact EOpS.slitV (by repeat (first | exact Elts.nil | apply Elts.one1 rfl | apply Elts.agg2 rfl)) (by simp) rfl rfl) (h := ?_); rintro _ _ ⟨b42, rfl, rfl⟩)) | ((with_reducible show RO _ _ _ _ _ _ _ (dm 14 511) 9 _ _); (refine RO.eS (dm 14 1023) (hv := by show EOpS _ _ _ _ ⟨_, .buildSlice _ _ _, _, _, _, _⟩ _; exact EOpS.slitV (by repeat (first | exact Elts.nil | apply Elts.one1 rfl | apply Elts.agg2 rfl)) (by simp) rfl rfl) (h := ?_); rintro _ _ ⟨b42, rfl, rfl⟩)) | ((with_reducible show RO _ _ _ _ _ _ _ (dm 14 1022) 0 _ _); refine RO.v (dm 14 1023) (hK := ?_)) | ((with_reducible show RO _ _ _ _ _ _ _ (dm 14 1022) 10 _ _); (refine RO.h (dm 14 2046) ?_; show RH _ _ _ ⟨_, _, _, _, _, _⟩ _ _ _ _)) | ((with_reducible show RO _ _ _ _ _ _ _ (dm 14 1023) 10 _ _); (refine RO.h (dm 14 2047) ?_; show RH _ _ _ ⟨_, _, _, _, _, _⟩ _ _ _ _)) | ((with_reducible show RO _ _ _ _ _ _ _ (dm 14 8191) 13 _ _); (refine RO.h (dm 14 16383) ?_; show RH _ _ _ ⟨_, _, _, _, _, _⟩ _ _ _ _))) | ((with_reducible show RH _ _ _ ⟨some 29, .buildSlice _ _ _, _, _, _, _⟩ _ _ _ _); (refine RH.eff rfl rfl (EOpS.e (EOpS.slit (fun t : List Int => [vsl 1 (fun x : Int => [vint x]) t]) _ (fun _ _ => rfl) (by ((repeat (first | exact Elts.nil | (apply Elts.cons; exact rfl; exact CellsOf.one))); done)) rfl rfl)) ?_; rintro _ _ ⟨b29, rfl, rfl⟩)) | ((with_reducible show RH _ _ _ ⟨_, .call ⟨.value (.func 147), _, _⟩, _, _, _, _⟩ _ _ _ _); refine RH.cP Try.call147 ?_; refine ⟨_, keyOf_c t (by omega), ?_⟩; rintro _ _ ⟨rfl, rfl⟩) | ((with_reducible show RH _ _ _ ⟨some 30, .call ⟨.builtin .append, _, _⟩, _, _, _, _⟩ _ _ _ _); (refine RH.appF rfl rfl rfl (by repeat (first | exact Pick.nil | (apply Pick.cons; (with_reducible repeat (first | exact Rem.head | apply Rem.tail))))) (by first | omega | (simp; omega)) (by first | omega | (simp; omega)) ?_); rintro _ _ ⟨s30, rfl, rfl⟩) | ((with_reducible show RH _ _ _ ⟨some 43, .call ⟨.builtin .append, _, _⟩, _, _, _, _⟩ _ _ _ _); (refine RH.appPI rfl rfl rfl (by repeat (first | exact Pick.nil | (apply Pick.cons; (with_reducible repeat (first | exact Rem.head | apply Rem.tail))))) (by first | omega | (simp; omega)) (by first | omega | (simp; omega)) ?_); rintro _ _ ⟨s43, rfl, rfl⟩) | ((with_reducible show RH _ _ _ _ _ _ _ _); first | refine RH.val (hK := ?_) | refine RH.upd (hK := ?_)) | (with_reducible first | refine Run.seq ?_ | refine Run.region ?_ | refine Run.skip ?_) | (with_reducible show Run _ _ (.cond _ _ _) _ _ _; refine Run.condND rfl (fun h => ?_) (fun h => ?_)) | (with_reducible refine seqN (K := Run _ _ _ _) ?_))
    all_goals first
      | (exfalso; exact hk (by assumption))
      | skip
    all_goals
      refine ⟨eA, _, [hcells bc [vlit (vsv s30), vlit (vsv s43), vmap bm], hsl tRow (vsv s30) (c.1 ++ [t]), hsl (tPair tInt (tS tInt)) (vsv s43) (c.2 ++ [(op, ns)]), hset bm (List.map keyS (c.1 ++ [t]))], resA, ?_, ?_⟩
    all_goals first
      | exact ⟨s30, s43, rfl, rfl⟩
      | exact SEnt.ch (.cons (.tail (.tail .head)) rfl (.cons (.tail .head) rfl (.cons .head rfl (.cons .head (by rw [List.map_append]; rfl) .nil))))
end Go.Proofs.Ytejeeokjjbiadaa
