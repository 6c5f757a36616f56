/- The next list of numbers below a bound, rows chosen by numbers: spec.l8Next, l8Choose. Proved for this program; conditions: lengths below 2^20, numbers in range. -/
import Derived.Test.YtemfpennomelaaaRelB
import Derived.Test.YtemfpennomelaaaRelOf
namespace Go.Proofs.Ytemfpennomelaaa
open Go Go.Proofs
set_option linter.unusedVariables false

/-- the next digits, the last one first -/
def nextR (n : Int) : List Int → List Int × Bool
  | [] => ([], false)
  | d :: ds => if d < n - 1 then ((d + 1) :: ds, true) else (0 :: (nextR n ds).1, (nextR n ds).2)
def nextL (n : Int) (l : List Int) : List Int × Bool := ((nextR n l.reverse).1.reverse, (nextR n l.reverse).2)
theorem nextL_snoc (n : Int) (l : List Int) (d : Int) : nextL n (l ++ [d]) = if d < n - 1 then (l ++ [d + 1], true) else ((nextL n l).1 ++ [0], (nextL n l).2) := by
  simp only [nextL, List.reverse_append, List.reverse_cons, List.reverse_nil, List.nil_append, List.cons_append, nextR]
  split <;> simp
theorem take_snoc (l : List Int) (j : Nat) (h : j < l.length) : l.take (j + 1) = l.take j ++ [l[j]] := by
  rw [List.take_add_one, List.getElem?_eq_getElem h]; rfl

theorem lowd_range' (i n : Int) (h0 : 0 ≤ i) (hn : 1 ≤ n) : ∀ m, ∀ x ∈ lowd i n m, 0 ≤ x ∧ x < n
  | 0, x, h => by cases h
  | m + 1, x, h => by
    rcases List.mem_cons.1 h with rfl | h
    · exact ⟨Int.emod_nonneg _ (by omega), Int.emod_lt_of_pos _ (by omega)⟩
    · exact lowd_range' i n h0 hn m x h
theorem dv_succ (i n : Int) : ∀ m, dv i n (m + 1) = dv (i / n) n m
  | 0 => rfl
  | m + 1 => by rw [dv, dv_succ i n m]; rfl
theorem lowd_snoc (i n : Int) : ∀ m, lowd i n (m + 1) = lowd (i / n) n m ++ [i % n]
  | 0 => rfl
  | m + 1 => by rw [lowd, lowd_snoc i n m, dv_succ]; rfl
/-- counting up turns the last digits -/
theorem nextL_lowd (n : Int) (hn : 1 ≤ n) : ∀ (k : Nat) (i : Int), 0 ≤ i → i < pw n k → (nextL n (lowd i n k)).2 = decide (i + 1 < pw n k) ∧ (i + 1 < pw n k → (nextL n (lowd i n k)).1 = lowd (i + 1) n k)
  | 0, i, h0, h1 => by
    have : i = 0 := by simp only [pw] at h1; omega
    subst this
    exact ⟨rfl, fun h => by simp [pw] at h⟩
  | k + 1, i, h0, h1 => by
    have hq : i / n * n + i % n = i := Int.ediv_mul_add_emod i n
    have hr0 := Int.emod_nonneg i (show n ≠ 0 by omega)
    have hr1 := Int.emod_lt_of_pos i (show 0 < n by omega)
    have hq0 : 0 ≤ i / n := Int.ediv_nonneg h0 (by omega)
    have hq1 : i / n < pw n k := Int.ediv_lt_of_lt_mul (by omega) (by simpa [pw] using h1)
    rw [lowd_snoc, nextL_snoc]
    by_cases hd : i % n < n - 1
    · rw [if_pos hd]
      have e1 : (i + 1) / n = i / n := by
        rw [show i + 1 = (i % n + 1) + i / n * n by omega, Int.add_mul_ediv_right _ _ (by omega), Int.ediv_eq_zero_of_lt (by omega) (by omega), Int.zero_add]
      have e2 : (i + 1) % n = i % n + 1 := by
        rw [show i + 1 = (i % n + 1) + i / n * n by omega, Int.add_mul_emod_self_right, Int.emod_eq_of_lt (by omega) (by omega)]
      have e3 : i + 1 < pw n (k + 1) := by
        have h2 : (i / n + 1) * n ≤ pw n k * n := Int.mul_le_mul_of_nonneg_right (by omega) (by omega)
        rw [Int.add_mul] at h2
        simp only [pw]; omega
      refine ⟨by simp [e3], fun _ => ?_⟩
      rw [lowd_snoc, e1, e2]
    · rw [if_neg hd]
      have hd' : i % n = n - 1 := by omega
      have e0 : i + 1 = 0 + (i / n + 1) * n := by rw [Int.add_mul]; omega
      have e1 : (i + 1) / n = i / n + 1 := by
        rw [e0, Int.add_mul_ediv_right _ _ (by omega)]; simp
      have e2 : (i + 1) % n = 0 := by rw [e0, Int.add_mul_emod_self_right]; simp
      have e3 : i + 1 < pw n (k + 1) ↔ i / n + 1 < pw n k := by
        rw [e0, Int.zero_add]
        simp only [pw]
        exact ⟨fun h => Int.lt_of_mul_lt_mul_right h (by omega), fun h => Int.mul_lt_mul_of_pos_right h (by omega)⟩
      obtain ⟨h2, h3⟩ := nextL_lowd n hn k (i / n) hq0 hq1
      refine ⟨by rw [h2]; simp only [e3], fun h => ?_⟩
      rw [h3 (e3.1 h), lowd_snoc, e1, e2]

theorem set_mid (A R : List Int) (x y : Int) (k : Nat) (hk : k = A.length) : (A ++ [x] ++ R).set k y = A ++ [y] ++ R := by
  subst hk
  rw [List.append_assoc, List.set_append_right _ _ (Nat.le_refl _), Nat.sub_self, List.append_assoc]; rfl
theorem next_keep (n : Int) (l : List Int) (t : Nat) (ht : t < l.length) (hd : ¬ l[l.length - 1 - t]'(by omega) < n - 1) (h : nextL n l = ((nextL n (l.take (l.length - t))).1 ++ List.replicate t 0, (nextL n (l.take (l.length - t))).2)) :
    nextL n l = ((nextL n (l.take (l.length - (t + 1)))).1 ++ List.replicate (t + 1) 0, (nextL n (l.take (l.length - (t + 1)))).2) := by
  have e : l.length - t = l.length - 1 - t + 1 := by omega
  rw [e, take_snoc l _ (by omega), nextL_snoc, if_neg hd] at h
  rw [h, show l.length - (t + 1) = l.length - 1 - t by omega]
  simp [List.replicate_succ]
theorem next_hit (n : Int) (l : List Int) (t : Nat) (ht : t < l.length) (hd : l[l.length - 1 - t]'(by omega) < n - 1) (h : nextL n l = ((nextL n (l.take (l.length - t))).1 ++ List.replicate t 0, (nextL n (l.take (l.length - t))).2)) :
    nextL n l = ((l.take (l.length - t) ++ List.replicate t 0).set (l.length - 1 - t) (l[l.length - 1 - t] + 1), true) := by
  have e : l.length - t = l.length - 1 - t + 1 := by omega
  rw [e, take_snoc l _ (by omega), nextL_snoc, if_pos hd] at h
  rw [h, e, take_snoc l _ (by omega)]
  have hl : (l.take (l.length - 1 - t)).length = l.length - 1 - t := by simp; omega
  rw [set_mid _ _ _ _ _ hl.symm]
theorem zero_set (l : List Int) (t : Nat) (ht : t < l.length) : (l.take (l.length - t) ++ List.replicate t (0 : Int)).set (l.length - 1 - t) 0 = l.take (l.length - (t + 1)) ++ List.replicate (t + 1) 0 := by
  have e : l.length - t = l.length - 1 - t + 1 := by omega
  have hl : (l.take (l.length - 1 - t)).length = l.length - 1 - t := by simp; omega
  rw [e, take_snoc l _ (by omega), set_mid _ _ _ _ _ hl.symm, show l.length - (t + 1) = l.length - 1 - t by omega]
  simp [List.replicate_succ]
theorem zero_at (l : List Int) (t : Nat) (ht : t < l.length) (h : l.length - 1 - t < (l.take (l.length - t) ++ List.replicate t (0 : Int)).length) : (l.take (l.length - t) ++ List.replicate t (0 : Int))[l.length - 1 - t] = l[l.length - 1 - t] := by
  rw [List.getElem_append_left (by simp; omega)]; simp
set_option maxRecDepth 10000 in
set_option maxHeartbeats 1000000 in
theorem l8Next_c (l : List Int) (n : Int) (hl : l.length ≤ 1048576) (h0 : 0 ≤ n) (h1 : n ≤ 1048576) (hx : ∀ x ∈ l, 0 ≤ x) :
    Spec Try.prog 43 [vsl 1 (fun x : Int => [vint x]) l, vint n] [] (fun r S' => ∃ s : Sv, r = vtup [vlit (vsv s), vbool (nextL n l).2] ∧ S' = [hsl tInt (vsv s) (nextL n l).1]) := by
  refine Spec.of_run2 (n := 37) Try.func43 rfl Try.results43 Try.ntmps43 rfl ?_
  repeat' (first | (with_reducible first | refine RL.done ?_ | refine RL.app1 ?_) | (with_reducible refine RL.wanted ?_ ?_; exact rfl) | ((with_reducible show RH _ _ _ ⟨_, .call ⟨.value (.func 25), _, _⟩, _, _, _, _⟩ _ _ _ _); refine RH.cP Try.call25 ?_; refine ⟨_, l1Own_c _ (by omega), ?_⟩; rintro _ _ ⟨s, rfl, rfl⟩) | ((with_reducible show RH _ _ _ _ _ _ _ _); refine RH.val (hK := ?_)) | (with_reducible first | refine Run.seq ?_ | refine Run.region ?_ | refine Run.block ?_) | (with_reducible refine seqN (K := Run _ _ _ _) ?_))
  refine Run.loop (α := Nat) (fun t => [(1, vint n), (6, vlit (vsv s)), (7, vint ((l.length : Int) - 1 - (t : Int)))]) (fun t => [hsl tInt (vsv s) (l.take (l.length - t) ++ List.replicate t (0 : Int))]) (fun t => t ≤ l.length ∧ nextL n l = ((nextL n (l.take (l.length - t))).1 ++ List.replicate t 0, (nextL n (l.take (l.length - t))).2)) (fun t => l.length - t) 0 (by simp) (Ent.of slA (.cons .head (by simp) .nil)) ?_
  rintro t ⟨ht, hn⟩
  have hlen : (l.take (l.length - t) ++ List.replicate t (0 : Int)).length = l.length := by simp; omega
  rcases Nat.lt_or_eq_of_le ht with h9 | rfl
  · have hi : ((l.length : Int) - 1 - (t : Int)).toNat = l.length - 1 - t := by omega
    have hxl := hx _ (List.getElem_mem (show l.length - 1 - t < l.length by omega))
    have hz : (l.take (l.length - t) ++ List.replicate t (0 : Int))[((l.length : Int) - 1 - (t : Int)).toNat]'(by omega) = l[l.length - 1 - t] := by
      simp only [hi]
      exact zero_at l t h9 (by omega)
    repeat' (first | (with_reducible refine RL.done ?_) | (with_reducible refine RL.wanted ?_ ?_; exact rfl) | ((with_reducible show RH _ _ _ _ _ _ _ _); first | refine RH.val (hK := ?_) | refine RH.upd (hK := ?_)) | (with_reducible first | refine Run.seq ?_ | refine Run.region ?_ | refine Run.block ?_ | refine Run.skip ?_ | refine Run.exit ?_ | refine Run.ret ?_) | (with_reducible show Run _ _ (.cond _ _ _) _ _ _; refine Run.condD rfl (fun h => ?_) (fun h => ?_)) | (with_reducible first | refine seqN (K := Run _ _ _ _) ?_ | refine seqE ?_ | refine seqR ?_ | refine blockN ?_ | refine blockR ?_ | refine blockE ?_))
    · have hhit := next_hit n l t h9 (by omega) hn
      refine ⟨eA, _, [hsl tInt (vsv s) (nextL n l).1], resA, ?_, ?_⟩
      · exact SEnt.ch (.cons .head (by rw [hhit, hz]; simp only [hi]) .nil)
      · exact ⟨s, by rw [hhit]; rfl, rfl⟩
    · with_reducible refine seqN ?_
      exact ⟨t + 1, ⟨by omega, next_keep n l t h9 (by omega) hn⟩, by omega, Ent.of slA (.cons .head (congrArg (hsl tInt (vsv s)) (by rw [← zero_set l t h9]; simp only [hi])) .nil)⟩
    · exfalso; omega
  · repeat' (first | (with_reducible refine RL.done ?_) | (with_reducible refine RL.wanted ?_ ?_; exact rfl) | ((with_reducible show RH _ _ _ _ _ _ _ _); first | refine RH.val (hK := ?_) | refine RH.upd (hK := ?_)) | (with_reducible first | refine Run.seq ?_ | refine Run.region ?_ | refine Run.block ?_ | refine Run.skip ?_ | refine Run.exit ?_ | refine Run.ret ?_) | (with_reducible show Run _ _ (.cond _ _ _) _ _ _; refine Run.condD rfl (fun h => ?_) (fun h => ?_)) | (with_reducible first | refine seqN (K := Run _ _ _ _) ?_ | refine seqE ?_ | refine seqR ?_ | refine blockN ?_ | refine blockR ?_ | refine blockE ?_))
    all_goals first | (exfalso; omega) | skip
    · have e : nextL n l = (List.replicate l.length 0, false) := by rw [hn]; simp [nextL, nextR]
      refine ⟨eA, _, [hsl tInt (vsv s) (nextL n l).1], resA, ?_, ?_⟩
      · exact SEnt.ch (.cons .head (by rw [e]; simp) .nil)
      · exact ⟨s, by rw [e]; rfl, rfl⟩

/-- the rows with these numbers -/
theorem chosenV_succ (vals : List Sv) (ns : List Int) (j : Nat) (h : j < ns.length) (hx : (ns[j]).toNat < vals.length) : chosenV vals (ns.take (j + 1)) = chosenV vals (ns.take j) ++ [vals[(ns[j]).toNat]] := by
  rw [chosenV, chosenV, take_snoc ns j h, List.map_append, List.map_singleton, List.getD_eq_getElem?_getD, List.getElem?_eq_getElem hx]; rfl
set_option maxRecDepth 10000 in
set_option maxHeartbeats 1000000 in
theorem l8Choose_c (vals : List Sv) (ns : List Int) (hx : ∀ x ∈ ns, 0 ≤ x ∧ x.toNat < vals.length) (hl : ns.length ≤ 1048576) :
    Spec Try.prog 42 [vsl 1 (fun s : Sv => [vlit (vsv s)]) vals, vsl 1 (fun x : Int => [vint x]) ns] [] (fun r S' => ∃ s : Sv, r = vlit (vsv s) ∧ S' = [hsl tSv (vsv s) (chosenV vals ns)]) := by
  refine Spec.of_run2 (n := 25) Try.func42 rfl Try.results42 Try.ntmps42 rfl ?_
  repeat' (first | (with_reducible refine RL.done ?_) | (with_reducible refine RL.wanted ?_ ?_; exact rfl) | ((with_reducible show RH _ _ _ ⟨some 7, .buildSlice _ _ _, _, _, _, _⟩ _ _ _ _); (refine RH.eff rfl rfl (EOpS.e (EOpS.slitV (by ((repeat (first | exact Elts.nil | apply Elts.one1 rfl | apply Elts.agg2 rfl)); done)) (by simp) rfl rfl)) ?_; rintro _ _ ⟨b7, rfl, rfl⟩)) | ((with_reducible show RH _ _ _ _ _ _ _ _); refine RH.val (hK := ?_)) | (with_reducible first | refine Run.seq ?_ | refine Run.region ?_ | refine Run.block ?_) | (with_reducible refine seqN (K := Run _ _ _ _) ?_))
  refine Run.sent (T := [hsl tSv (vsv (some ⟨b7, 0, none⟩, 0, 0)) []]) (SEnt.packNil tSv rfl) ?_
  refine Run.loop (α := Nat × Sv) (fun x => [(0, vsl 1 (fun s : Sv => [vlit (vsv s)]) vals), (1, vsl 1 (fun x : Int => [vint x]) ns), (5, vlit (vsv x.2)), (6, vint (x.1 : Int))]) (fun x => [hsl tSv (vsv x.2) (chosenV vals (ns.take x.1))]) (fun x => x.1 ≤ ns.length) (fun x => ns.length - x.1) (0, (some ⟨b7, 0, none⟩, 0, 0)) (by simp) (Ent.of slA (.cons .head rfl chA)) ?_
  rintro ⟨j, s⟩ hj
  dsimp only at hj ⊢
  have hcl : (chosenV vals (ns.take j)).length = j := by simp [chosenV]; omega
  rcases Nat.lt_or_eq_of_le hj with h9 | rfl
  · have hxj := hx _ (List.getElem_mem h9)
    repeat' (first | (with_reducible refine RL.done ?_) | (with_reducible refine RL.wanted ?_ ?_; exact rfl) | ((with_reducible show RH _ _ _ ⟨some 22, .buildSlice _ _ _, _, _, _, _⟩ _ _ _ _); (refine RH.eff rfl rfl (EOpS.e (EOpS.slitV (by ((repeat (first | exact Elts.nil | apply Elts.one1 rfl | apply Elts.agg2 rfl)); done)) (by simp) rfl rfl)) ?_; rintro _ _ ⟨b22, rfl, rfl⟩)) | ((with_reducible show RH _ _ _ ⟨_, .call ⟨.builtin .append, _, _⟩, _, _, _, _⟩ _ _ _ _); (refine RH.appSv rfl rfl rfl (by repeat (first | exact Pick.nil | (apply Pick.cons; (with_reducible repeat (first | exact Rem.head | apply Rem.tail))))) (by first | omega | (simp; omega)) (by first | omega | (simp; omega)) ?_); rintro _ _ ⟨s, rfl, rfl⟩) | ((with_reducible show RH _ _ _ _ _ _ _ _); refine RH.val (hK := ?_)) | (with_reducible first | refine Run.seq ?_ | refine Run.region ?_ | refine Run.block ?_ | refine Run.skip ?_ | refine Run.exit ?_ | refine Run.ret ?_) | (with_reducible show Run _ _ (.cond _ _ _) _ _ _; refine Run.condD rfl (fun h => ?_) (fun h => ?_)) | (with_reducible first | refine seqN (K := Run _ _ _ _) ?_ | refine seqE ?_ | refine blockN ?_ | refine blockE ?_))
    · with_reducible refine seqN ?_
      exact ⟨(j + 1, _), by simp; omega, by simp; omega, Ent.of slA (by dsimp only; exact .cons .head (by rw [chosenV_succ vals ns j h9 hxj.2]) chA)⟩
    · exfalso; omega
  · repeat' (first | (with_reducible refine RL.done ?_) | (with_reducible refine RL.wanted ?_ ?_; exact rfl) | ((with_reducible show RH _ _ _ ⟨some 22, .buildSlice _ _ _, _, _, _, _⟩ _ _ _ _); (refine RH.eff rfl rfl (EOpS.e (EOpS.slitV (by ((repeat (first | exact Elts.nil | apply Elts.one1 rfl | apply Elts.agg2 rfl)); done)) (by simp) rfl rfl)) ?_; rintro _ _ ⟨b22, rfl, rfl⟩)) | ((with_reducible show RH _ _ _ _ _ _ _ _); refine RH.val (hK := ?_)) | (with_reducible first | refine Run.seq ?_ | refine Run.region ?_ | refine Run.block ?_ | refine Run.skip ?_ | refine Run.exit ?_ | refine Run.ret ?_) | (with_reducible show Run _ _ (.cond _ _ _) _ _ _; refine Run.condD rfl (fun h => ?_) (fun h => ?_)) | (with_reducible first | refine seqN (K := Run _ _ _ _) ?_ | refine seqE ?_ | refine blockE ?_))
    · exfalso; omega
    · refine ⟨eA, _, [hsl tSv (vsv s) (chosenV vals ns)], resA, ?_, ?_⟩
      · exact SEnt.ch (.cons .head (by rw [List.take_length]) chA)
      · exact ⟨s, rfl, rfl⟩
end Go.Proofs.Ytemfpennomelaaa
