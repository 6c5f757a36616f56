/- Marks of numbers and the numbers that are marked: impl.marks, marked, imagesOf. Proved for this program; conditions: numbers below the size. -/
import Derived.Test.YtejeeokjjbiadaaHomS
namespace Go.Proofs.Ytejeeokjjbiadaa
open Go Go.Proofs
set_option linter.unusedVariables false

def trueTo (bs : List Bool) (j : Nat) : List Int := ((List.range j).filter fun i => bs.getD i false).map fun (i : Nat) => (i : Int)
abbrev trueAt (bs : List Bool) : List Int := trueTo bs bs.length
theorem trueTo_yes (bs : List Bool) (j : Nat) (hj : j < bs.length) (h : bs[j] = true) : trueTo bs (j + 1) = trueTo bs j ++ [(j : Int)] := by
  simp only [trueTo, List.range_succ, List.filter_append, List.map_append]
  rw [List.filter_cons, List.getD_eq_getElem?_getD, List.getElem?_eq_getElem hj, Option.getD_some, h]; rfl
theorem trueTo_no (bs : List Bool) (j : Nat) (hj : j < bs.length) (h : bs[j] = false) : trueTo bs (j + 1) = trueTo bs j := by
  simp only [trueTo, List.range_succ, List.filter_append, List.map_append]
  rw [List.filter_cons, List.getD_eq_getElem?_getD, List.getElem?_eq_getElem hj, Option.getD_some, h]; simp
theorem trueTo_le (bs : List Bool) (j : Nat) : (trueTo bs j).length ≤ j := by
  rw [trueTo, List.length_map]
  exact Nat.le_trans (List.length_filter_le _ _) (by simp)
set_option maxRecDepth 10000 in
set_option maxHeartbeats 1000000 in
theorem marked_c (bs : List Bool) (hl : bs.length ≤ 1048576) :
    Spec Try.prog 104 [vsl 1 (fun b : Bool => [vbool b]) bs] [] (fun r S' => ∃ s : Sv, r = vlit (vsv s) ∧ S' = [hsl tInt (vsv s) (trueAt bs)]) := by
  refine Spec.of_run2 (n := 21) Try.func104 rfl Try.results104 Try.ntmps104 rfl ?_
  repeat' (first | (with_reducible refine RL.done ?_) | (with_reducible refine RL.wanted ?_ ?_; exact rfl) | ((with_reducible show RH _ _ _ ⟨some 6, .buildSlice _ _ _, _, _, _, _⟩ _ _ _ _); refine RH.eff rfl rfl (EOpS.e (EOpS.slit (fun x : Int => [vint x]) _ (fun _ _ => rfl) (by repeat (first | exact Elts.nil | (apply Elts.cons; exact rfl; exact CellsOf.one))) rfl rfl)) ?_; rintro _ _ ⟨b6, rfl, rfl⟩) | ((with_reducible show RH _ _ _ _ _ _ _ _); refine RH.val (hK := ?_)) | (with_reducible first | refine Run.seq ?_ | refine Run.region ?_ | refine Run.block ?_) | (with_reducible refine seqN (K := Run _ _ _ _) ?_))
  refine Run.sent (T := [hsl tInt (vsv (some ⟨b6, 0, none⟩, 0, 0)) []]) (SEnt.packNil tInt rfl) ?_
  refine Run.loop (α := Nat × Sv) (fun x => [(3, vlit (vsv x.2)), (7, vsl 1 (fun b : Bool => [vbool b]) bs), (8, vint (bs.length : Int)), (9, vint (x.1 : Int))]) (fun x => [hsl tInt (vsv x.2) (trueTo bs x.1)]) (fun x => x.1 ≤ bs.length) (fun x => bs.length - x.1) (0, (some ⟨b6, 0, none⟩, 0, 0)) (by simp) (Ent.of slA (.cons .head rfl chA)) ?_
  rintro ⟨j, s⟩ hj
  dsimp only at hj ⊢
  have hcl := trueTo_le bs j
  rcases Nat.lt_or_eq_of_le hj with h9 | rfl
  · repeat' (first | (with_reducible refine RL.done ?_) | (with_reducible refine RL.wanted ?_ ?_; exact rfl) | ((with_reducible show RH _ _ _ ⟨some 17, .buildSlice _ _ _, _, _, _, _⟩ _ _ _ _); refine RH.eff rfl rfl (EOpS.e (EOpS.slit (fun x : Int => [vint x]) _ (fun _ _ => rfl) (by repeat (first | exact Elts.nil | (apply Elts.cons; exact rfl; exact CellsOf.one))) rfl rfl)) ?_; rintro _ _ ⟨b17, rfl, rfl⟩) | ((with_reducible show RH _ _ _ ⟨_, .call ⟨.builtin .append, _, _⟩, _, _, _, _⟩ _ _ _ _); (refine RH.appI rfl rfl rfl (by repeat (first | exact Pick.nil | (apply Pick.cons; (with_reducible repeat (first | exact Rem.head | apply Rem.tail))))) (by first | omega | (simp; omega)) (by first | omega | (simp; omega)) ?_); rintro _ _ ⟨s, rfl, rfl⟩) | ((with_reducible show RH _ _ _ _ _ _ _ _); refine RH.val (hK := ?_)) | (with_reducible first | refine Run.seq ?_ | refine Run.region ?_ | refine Run.block ?_ | refine Run.skip ?_ | refine Run.exit ?_ | refine Run.ret ?_) | (with_reducible show Run _ _ (.cond _ _ _) _ _ _; first | refine Run.condD rfl (fun h => ?_) (fun h => ?_) | refine Run.cond rfl (fun h => ?_) (fun h => ?_)) | (with_reducible first | refine seqN (K := Run _ _ _ _) ?_ | refine seqE ?_ | refine blockN ?_ | refine blockE ?_))
    all_goals first
      | (exfalso; omega)
      | (with_reducible refine seqN ?_
         exact ⟨(j + 1, _), by simp; omega, by simp; omega, Ent.of slA (by dsimp only; exact .cons .head (by rw [trueTo_yes bs j h9 (by assumption)]) chA)⟩)
      | (with_reducible refine seqN ?_
         exact ⟨(j + 1, s), by simp; omega, by simp; omega, Ent.of slA (by dsimp only; exact .cons .head (by rw [trueTo_no bs j h9 (by assumption)]) chA)⟩)
  · repeat' (first | (with_reducible refine RL.done ?_) | (with_reducible refine RL.wanted ?_ ?_; exact rfl) | ((with_reducible show RH _ _ _ ⟨some 17, .buildSlice _ _ _, _, _, _, _⟩ _ _ _ _); refine RH.eff rfl rfl (EOpS.e (EOpS.slit (fun x : Int => [vint x]) _ (fun _ _ => rfl) (by repeat (first | exact Elts.nil | (apply Elts.cons; exact rfl; exact CellsOf.one))) rfl rfl)) ?_; rintro _ _ ⟨b17, rfl, rfl⟩) | ((with_reducible show RH _ _ _ _ _ _ _ _); refine RH.val (hK := ?_)) | (with_reducible first | refine Run.seq ?_ | refine Run.region ?_ | refine Run.block ?_ | refine Run.skip ?_ | refine Run.exit ?_ | refine Run.ret ?_) | (with_reducible show Run _ _ (.cond _ _ _) _ _ _; first | refine Run.condD rfl (fun h => ?_) (fun h => ?_) | refine Run.cond rfl (fun h => ?_) (fun h => ?_)) | (with_reducible first | refine seqN (K := Run _ _ _ _) ?_ | refine seqE ?_ | refine blockN ?_ | refine blockE ?_))
    all_goals first
      | (exfalso; omega)
      | (refine ⟨eA, _, [hsl tInt (vsv s) (trueAt bs)], resA, ?_, ?_⟩
         · exact SEnt.ch chA
         · exact ⟨s, rfl, rfl⟩)
end Go.Proofs.Ytejeeokjjbiadaa
