/- All term functions: spec.l12Ops, TermFunctions, impl.opsOf, TermFunctions: the same answer. Proved for this program; conditions: lengths below 2^62. -/
import Derived.Test.YtejeeokjjbiadaaCloneV
namespace Go.Proofs.Ytejeeokjjbiadaa
open Go Go.Proofs
set_option linter.unusedVariables false

def opsL (k : Int) (xs : List (List Int)) : List (Int × List Int) := xs.map fun t => (k, t)
theorem opsL_length (k : Int) (xs : List (List Int)) : (opsL k xs).length = xs.length := by simp [opsL]
theorem opsL_succ (k : Int) (xs : List (List Int)) (j : Nat) (h : j < xs.length) : opsL k (xs.take (j + 1)) = opsL k (xs.take j) ++ [(k, xs[j])] := by
  simp only [opsL]; rw [List.take_add_one, List.getElem?_eq_getElem h, List.map_append]; rfl
set_option maxRecDepth 10000 in
set_option maxHeartbeats 1000000 in
theorem opsOf_c (k : Int) (xs : List (List Int)) (hl : xs.length ≤ 1024) (hr : ∀ t ∈ xs, t.length ≤ 4398046511104) :
    Spec Try.prog 111 [vint k, vsl 1 (fun t : List Int => [vsl 1 (fun x : Int => [vint x]) t]) xs] [] (fun r S' => ∃ s : Sv, r = vlit (vsv s) ∧ S' = [hsl (tPair tInt (tS tInt)) (vsv s) (opsL k xs)]) := by
  refine Spec.of_run2 (n := 24) Try.func111 rfl Try.results111 Try.ntmps111 rfl ?_
  repeat' (first | (with_reducible refine RL.done ?_) | (with_reducible refine RL.wanted ?_ ?_; exact rfl) | ((with_reducible show RH _ _ _ ⟨some 8, .buildSlice _ _ _, _, _, _, _⟩ _ _ _ _); refine RH.eff rfl rfl (EOpS.e (EOpS.slitV (by repeat (first | exact Elts.nil | apply Elts.one1 rfl | apply Elts.agg2 rfl)) (by simp) rfl rfl)) ?_; rintro _ _ ⟨b8, rfl, rfl⟩) | ((with_reducible show RH _ _ _ _ _ _ _ _); refine RH.val (hK := ?_)) | (with_reducible first | refine Run.seq ?_ | refine Run.region ?_ | refine Run.block ?_) | (with_reducible refine seqN (K := Run _ _ _ _) ?_))
  refine Run.sent (T := [hsl (tPair tInt (tS tInt)) (vsv (some ⟨b8, 0, none⟩, 0, 0)) []]) (SEnt.packNil (tPair tInt (tS tInt)) rfl) ?_
  refine Run.loop (α := Nat × Sv) (fun x => [(0, vint k), (5, vlit (vsv x.2)), (9, vsl 1 (fun t : List Int => [vsl 1 (fun x : Int => [vint x]) t]) xs), (10, vint (xs.length : Int)), (11, vint (x.1 : Int))]) (fun x => [hsl (tPair tInt (tS tInt)) (vsv x.2) (opsL k (xs.take x.1))]) (fun x => x.1 ≤ xs.length) (fun x => xs.length - x.1) (0, (some ⟨b8, 0, none⟩, 0, 0)) (by simp) (Ent.of slA (.cons .head rfl chA)) ?_
  rintro ⟨j, s⟩ hj
  dsimp only at hj ⊢
  have hle : (opsL k (xs.take j)).length ≤ 1024 := by rw [opsL_length, List.length_take]; omega
  rcases Nat.lt_or_eq_of_le hj with h9 | h9
  · repeat' (first | (with_reducible first | refine RL.done ?_ | refine RL.app1 ?_) | (with_reducible refine RL.wanted ?_ ?_; exact rfl) | ((with_reducible show RH _ _ _ ⟨some 20, .buildSlice _ _ _, _, _, _, _⟩ _ _ _ _); refine RH.eff rfl rfl (EOpS.e (EOpS.slitV (by repeat (first | exact Elts.nil | apply Elts.one1 rfl | apply Elts.agg2 rfl)) (by simp) rfl rfl)) ?_; rintro _ _ ⟨b20, rfl, rfl⟩) | ((with_reducible show RH _ _ _ ⟨_, .call ⟨.value (.func 93), _, _⟩, _, _, _, _⟩ _ _ _ _); refine RH.cP Try.call93 ?_; refine ⟨_, clone_c (xs[j]'(by omega)) (hr _ (List.getElem_mem (by omega))), ?_⟩; rintro _ _ ⟨s1, rfl, rfl⟩) | ((with_reducible show RH _ _ _ ⟨_, .call ⟨.builtin .append, _, _⟩, _, _, _, _⟩ _ _ _ _); (refine RH.appPI rfl rfl rfl (by repeat (first | exact Pick.nil | (apply Pick.cons; (with_reducible repeat (first | exact Rem.head | apply Rem.tail))))) (by first | omega | (simp; omega)) (by first | omega | (simp; omega)) ?_); rintro _ _ ⟨s, rfl, rfl⟩) | ((with_reducible show RH _ _ _ _ _ _ _ _); refine RH.val (hK := ?_)) | (with_reducible first | refine Run.seq ?_ | refine Run.region ?_ | refine Run.block ?_ | refine Run.skip ?_ | refine Run.exit ?_ | refine Run.ret ?_) | (with_reducible show Run _ _ (.cond _ _ _) _ _ _; refine Run.condD rfl (fun h => ?_) (fun h => ?_)) | (with_reducible first | refine seqN (K := Run _ _ _ _) ?_ | refine seqE ?_ | refine blockN ?_ | refine blockE ?_))
    all_goals first
      | (exfalso; omega)
      | (with_reducible refine seqN ?_
         exact ⟨(j + 1, _), by simp; omega, by simp; omega, Ent.of slA (by dsimp only; exact .cons .head (by rw [opsL_succ _ _ _ h9]) chA)⟩)
  · subst h9
    repeat' (first | (with_reducible refine RL.done ?_) | (with_reducible refine RL.wanted ?_ ?_; exact rfl) | ((with_reducible show RH _ _ _ _ _ _ _ _); refine RH.val (hK := ?_)) | (with_reducible first | refine Run.seq ?_ | refine Run.region ?_ | refine Run.block ?_ | refine Run.skip ?_ | refine Run.exit ?_ | refine Run.ret ?_) | (with_reducible show Run _ _ (.cond _ _ _) _ _ _; refine Run.condD rfl (fun h => ?_) (fun h => ?_)) | (with_reducible first | refine seqN (K := Run _ _ _ _) ?_ | refine seqE ?_ | refine blockE ?_))
    · exfalso; omega
    · refine ⟨eA, _, [hsl (tPair tInt (tS tInt)) (vsv s) (opsL k xs)], resA, ?_, ?_⟩
      · exact SEnt.ch (.cons .head (by rw [List.take_length]) .nil)
      · exact ⟨s, rfl, rfl⟩
end Go.Proofs.Ytejeeokjjbiadaa
