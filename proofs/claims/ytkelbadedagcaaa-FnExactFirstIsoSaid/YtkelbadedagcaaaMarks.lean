/- Marks of numbers and the numbers that are marked: impl.marks, marked, imagesOf. Proved for this program; conditions: numbers below the size. -/
import Derived.Test.YtkelbadedagcaaaHomS
namespace Go.Proofs.Ytkelbadedagcaaa
open Go Go.Proofs
set_option linter.unusedVariables false

def trueTo (bs : List Bool) (j : Nat) : List Int := ((List.range j).filter fun i => bs.getD i false).map fun (i : Nat) => (i : Int)
abbrev trueAt (bs : List Bool) : List Int := trueTo bs bs.length
theorem trueTo_yes (bs : List Bool) (j : Nat) (hj : j < bs.length) (h : bs[j] = true) : trueTo bs (j + 1) = trueTo bs j ++ [(j : Int)] := by
  simp only [trueTo, List.range_succ, List.filter_append, List.map_append]
  rw [List.filter_cons, List.getD_eq_getElem?_getD, List.getElem?_eq_getElem hj, Option.getD_some, h]; rfl
theorem trueTo_no (bs : List Bool) (j : Nat) (hj : j < bs.length) (h : bs[j] = false) : trueTo bs (j + 1) = trueTo bs j := by
  simp only [trueTo, List.range_succ, List.filter_append, List.map_append]
  rw [List.filter_cons, List.getD_eq_getElem?_getD, List.getElem?_eq_getElem hj, Option.getD_some, h]; simp
theorem trueTo_le (bs : List Bool) (j : Nat) : (trueTo bs j).length ≤ j := by
  rw [trueTo, List.length_map]
  exact Nat.le_trans (List.length_filter_le _ _) (by simp)
set_option maxRecDepth 10000 in
set_option maxHeartbeats 1000000 in
theorem marked_c (bs : List Bool) (hl : bs.length ≤ 1048576) :
    Spec Try.prog 110 [vsl 1 (fun b : Bool => [vbool b]) bs] [] (fun r S' => ∃ s : Sv, r = vlit (vsv s) ∧ S' = [hsl tInt (vsv s) (trueAt bs)]) := by
  refine Spec.of_run2 (n := 21) Try.func110 rfl Try.results110 Try.ntmps110 rfl ?_
  repeat' (first | (with_reducible first | refine RL.done ?_ | refine RL.app0 ?_ | refine RL.app1 ?_ | refine RL.app2 ?_ | refine RL.app3 ?_ | refine RL.app4 ?_) | (with_reducible refine RL.wanted ?_ ?_; exact rfl) | ((with_reducible show RH _ _ _ ⟨some 6, .buildSlice _ _ _, _, _, _, _⟩ _ _ _ _); refine RH.eff rfl rfl (EOpS.e (EOpS.slit (fun x : Int => [vint x]) _ (fun _ _ => rfl) (by repeat (first | exact Elts.nil | (apply Elts.cons; exact rfl; exact CellsOf.one))) rfl rfl)) ?_; rintro _ _ ⟨b6, rfl, rfl⟩) | ((with_reducible show RH _ _ _ ⟨some 17, .buildSlice _ _ _, _, _, _, _⟩ _ _ _ _); refine RH.eff rfl rfl (EOpS.e (EOpS.slit (fun x : Int => [vint x]) _ (fun _ _ => rfl) (by repeat (first | exact Elts.nil | (apply Elts.cons; exact rfl; exact CellsOf.one))) rfl rfl)) ?_; rintro _ _ ⟨b17, rfl, rfl⟩) | ((with_reducible show RH _ _ _ _ _ _ _ _); first | refine RH.val (hK := ?_) | refine RH.upd (hK := ?_) | (refine RH.lr (h := ?_); intro u)) | (with_reducible first | refine Run.seq ?_ | refine Run.region ?_ | refine Run.block ?_ | refine Run.skip ?_ | refine Run.exit ?_ | refine Run.ret ?_) | (with_reducible show Run _ _ (.cond _ _ _) _ _ _; first | refine Run.condT rfl ?_ | refine Run.condF rfl ?_ | refine Run.condD rfl (fun h => ?_) (fun h => ?_) | refine Run.condND rfl (fun h => ?_) (fun h => ?_) | refine Run.condNB rfl (fun h => ?_) (fun h => ?_) | refine Run.cond rfl (fun h => ?_) (fun h => ?_)) | (with_reducible first | refine seqN (K := Run _ _ _ _) ?_ | refine seqE ?_ | refine seqR ?_ | refine blockN ?_ | refine blockR ?_ | refine blockE ?_) | (with_reducible refine blockX ?_ ?_; exact rfl))
  refine Run.sent (T := [hsl tInt (vsv (some ⟨b6, 0, none⟩, 0, 0)) []]) (SEnt.packNil tInt rfl) ?_
  refine Run.loop (α := Nat × Sv) (fun x => [(3, vlit (vsv x.2)), (7, vsl 1 (fun b : Bool => [vbool b]) bs), (8, vint (bs.length : Int)), (9, vint (x.1 : Int))]) (fun x => [hsl tInt (vsv x.2) (trueTo bs x.1)]) (fun x => x.1 ≤ bs.length) (fun x => bs.length - x.1) (0, (some ⟨b6, 0, none⟩, 0, 0)) (by simp) (Ent.of slA (.cons .head rfl chA)) ?_
  rintro ⟨j, s⟩ hj
  dsimp only at hj ⊢
  have hcl := trueTo_le bs j
  rcases Nat.lt_or_eq_of_le hj with h9 | rfl
  · repeat' (first | (with_reducible first | refine RL.done ?_ | refine RL.app0 ?_ | refine RL.app1 ?_ | refine RL.app2 ?_ | refine RL.app3 ?_ | refine RL.app4 ?_) | (with_reducible refine RL.wanted ?_ ?_; exact rfl) | ((with_reducible show RH _ _ _ ⟨some 6, .buildSlice _ _ _, _, _, _, _⟩ _ _ _ _); refine RH.eff rfl rfl (EOpS.e (EOpS.slit (fun x : Int => [vint x]) _ (fun _ _ => rfl) (by repeat (first | exact Elts.nil | (apply Elts.cons; exact rfl; exact CellsOf.one))) rfl rfl)) ?_; rintro _ _ ⟨b6, rfl, rfl⟩) | ((with_reducible show RH _ _ _ ⟨some 17, .buildSlice _ _ _, _, _, _, _⟩ _ _ _ _); refine RH.eff rfl rfl (EOpS.e (EOpS.slit (fun x : Int => [vint x]) _ (fun _ _ => rfl) (by repeat (first | exact Elts.nil | (apply Elts.cons; exact rfl; exact CellsOf.one))) rfl rfl)) ?_; rintro _ _ ⟨b17, rfl, rfl⟩) | ((with_reducible show RH _ _ _ ⟨_, .call ⟨.builtin .append, _, _⟩, _, _, _, _⟩ _ _ _ _); (first | refine RH.appI rfl rfl rfl (by repeat (first | exact Pick.nil | (apply Pick.cons; (with_reducible repeat (first | exact Rem.head | apply Rem.tail))))) (by first | omega | (simp; omega)) (by first | omega | (simp; omega)) ?_ | refine RH.appR rfl rfl rfl (by repeat (first | exact Pick.nil | (apply Pick.cons; (with_reducible repeat (first | exact Rem.head | apply Rem.tail))))) (by first | omega | (simp; omega)) (by first | omega | (simp; omega)) ?_ | refine RH.appRI rfl rfl rfl (by repeat (first | exact Pick.nil | (apply Pick.cons; (with_reducible repeat (first | exact Rem.head | apply Rem.tail))))) (by exact rfl) (by first | omega | (simp; omega)) (by first | omega | (simp; omega)) ?_ | refine RH.appF rfl rfl rfl (by repeat (first | exact Pick.nil | (apply Pick.cons; (with_reducible repeat (first | exact Rem.head | apply Rem.tail))))) (by first | omega | (simp; omega)) (by first | omega | (simp; omega)) ?_ | refine RH.appSv rfl rfl rfl (by repeat (first | exact Pick.nil | (apply Pick.cons; (with_reducible repeat (first | exact Rem.head | apply Rem.tail))))) (by first | omega | (simp; omega)) (by first | omega | (simp; omega)) ?_ | refine RH.appPI rfl rfl rfl (by repeat (first | exact Pick.nil | (apply Pick.cons; (with_reducible repeat (first | exact Rem.head | apply Rem.tail))))) (by first | omega | (simp; omega)) (by first | omega | (simp; omega)) ?_); rintro _ _ ⟨s, rfl, rfl⟩) | ((with_reducible show RH _ _ _ _ _ _ _ _); first | refine RH.val (hK := ?_) | refine RH.upd (hK := ?_) | (refine RH.lr (h := ?_); intro u)) | (with_reducible first | refine Run.seq ?_ | refine Run.region ?_ | refine Run.block ?_ | refine Run.skip ?_ | refine Run.exit ?_ | refine Run.ret ?_) | (with_reducible show Run _ _ (.cond _ _ _) _ _ _; first | refine Run.condT rfl ?_ | refine Run.condF rfl ?_ | refine Run.condD rfl (fun h => ?_) (fun h => ?_) | refine Run.condND rfl (fun h => ?_) (fun h => ?_) | refine Run.condNB rfl (fun h => ?_) (fun h => ?_) | refine Run.cond rfl (fun h => ?_) (fun h => ?_)) | (with_reducible first | refine seqN (K := Run _ _ _ _) ?_ | refine seqE ?_ | refine seqR ?_ | refine blockN ?_ | refine blockR ?_ | refine blockE ?_) | (with_reducible refine blockX ?_ ?_; exact rfl))
    all_goals first
      | (exfalso; omega)
      | (with_reducible refine seqN ?_
         exact ⟨(j + 1, _), by simp; omega, by simp; omega, Ent.of slA (by dsimp only; exact .cons .head (by rw [trueTo_yes bs j h9 (by assumption)]) chA)⟩)
      | (with_reducible refine seqN ?_
         exact ⟨(j + 1, s), by simp; omega, by simp; omega, Ent.of slA (by dsimp only; exact .cons .head (by rw [trueTo_no bs j h9 (by assumption)]) chA)⟩)
  · repeat' (first | (with_reducible first | refine RL.done ?_ | refine RL.app0 ?_ | refine RL.app1 ?_ | refine RL.app2 ?_ | refine RL.app3 ?_ | refine RL.app4 ?_) | (with_reducible refine RL.wanted ?_ ?_; exact rfl) | ((with_reducible show RH _ _ _ ⟨some 6, .buildSlice _ _ _, _, _, _, _⟩ _ _ _ _); refine RH.eff rfl rfl (EOpS.e (EOpS.slit (fun x : Int => [vint x]) _ (fun _ _ => rfl) (by repeat (first | exact Elts.nil | (apply Elts.cons; exact rfl; exact CellsOf.one))) rfl rfl)) ?_; rintro _ _ ⟨b6, rfl, rfl⟩) | ((with_reducible show RH _ _ _ ⟨some 17, .buildSlice _ _ _, _, _, _, _⟩ _ _ _ _); refine RH.eff rfl rfl (EOpS.e (EOpS.slit (fun x : Int => [vint x]) _ (fun _ _ => rfl) (by repeat (first | exact Elts.nil | (apply Elts.cons; exact rfl; exact CellsOf.one))) rfl rfl)) ?_; rintro _ _ ⟨b17, rfl, rfl⟩) | ((with_reducible show RH _ _ _ _ _ _ _ _); first | refine RH.val (hK := ?_) | refine RH.upd (hK := ?_) | (refine RH.lr (h := ?_); intro u)) | (with_reducible first | refine Run.seq ?_ | refine Run.region ?_ | refine Run.block ?_ | refine Run.skip ?_ | refine Run.exit ?_ | refine Run.ret ?_) | (with_reducible show Run _ _ (.cond _ _ _) _ _ _; first | refine Run.condT rfl ?_ | refine Run.condF rfl ?_ | refine Run.condD rfl (fun h => ?_) (fun h => ?_) | refine Run.condND rfl (fun h => ?_) (fun h => ?_) | refine Run.condNB rfl (fun h => ?_) (fun h => ?_) | refine Run.cond rfl (fun h => ?_) (fun h => ?_)) | (with_reducible first | refine seqN (K := Run _ _ _ _) ?_ | refine seqE ?_ | refine seqR ?_ | refine blockN ?_ | refine blockR ?_ | refine blockE ?_) | (with_reducible refine blockX ?_ ?_; exact rfl))
    all_goals first
      | (exfalso; omega)
      | (refine ⟨eA, _, [hsl tInt (vsv s) (trueAt bs)], resA, ?_, ?_⟩
         · exact SEnt.ch chA
         · exact ⟨s, rfl, rfl⟩)
set_option maxRecDepth 10000 in
set_option maxHeartbeats 1000000 in
theorem marks_c (l : List Int) (m : Nat) (hx : ∀ x ∈ l, 0 ≤ x ∧ x < m) (hl : l.length ≤ 1048576) (hm : m ≤ 1048576) :
    Spec Try.prog 143 [vsl 1 (fun x : Int => [vint x]) l, vint (m : Int)] [] (fun r S' => ∃ s : Sv, r = vlit (vsv s) ∧ S' = [hsl tBool (vsv s) (mkB m l)]) := by
  refine Spec.of_run2 (n := 21) Try.func143 rfl Try.results143 Try.ntmps143 rfl ?_
  repeat' (first | (with_reducible first | refine RL.done ?_ | refine RL.app0 ?_ | refine RL.app1 ?_ | refine RL.app2 ?_ | refine RL.app3 ?_ | refine RL.app4 ?_) | (with_reducible refine RL.wanted ?_ ?_; exact rfl) | ((with_reducible show RH _ _ _ ⟨some 9, .makeSlice _ _ _, _, _, _, _⟩ _ _ _ _); refine RH.make (α := Bool) rfl (fun x => [vbool x]) false (fun c => .cons rfl .nil) rfl rfl (by omega) (by omega) (by omega) ?_; rintro _ _ ⟨b9, rfl, rfl⟩) | ((with_reducible show RH _ _ _ _ _ _ _ _); first | refine RH.val (hK := ?_) | refine RH.upd (hK := ?_) | (refine RH.lr (h := ?_); intro u)) | (with_reducible first | refine Run.seq ?_ | refine Run.region ?_ | refine Run.block ?_ | refine Run.skip ?_ | refine Run.exit ?_ | refine Run.ret ?_) | (with_reducible show Run _ _ (.cond _ _ _) _ _ _; first | refine Run.condT rfl ?_ | refine Run.condF rfl ?_ | refine Run.condD rfl (fun h => ?_) (fun h => ?_) | refine Run.condND rfl (fun h => ?_) (fun h => ?_) | refine Run.condNB rfl (fun h => ?_) (fun h => ?_) | refine Run.cond rfl (fun h => ?_) (fun h => ?_)) | (with_reducible first | refine seqN (K := Run _ _ _ _) ?_ | refine seqE ?_ | refine seqR ?_ | refine blockN ?_ | refine blockR ?_ | refine blockE ?_) | (with_reducible refine blockX ?_ ?_; exact rfl))
  refine Run.loop (α := Nat) (fun j => [(5, vsb b9 m m), (10, vsl 1 (fun x : Int => [vint x]) l), (11, vint (l.length : Int)), (12, vint (j : Int))]) (fun j => [harr b9 1 (fun x : Bool => [vbool x]) (mkB m (l.take j)) (m * 1)]) (fun j => j ≤ l.length) (fun j => l.length - j) 0 (by simp) (Ent.of slA (.cons .head (by rw [List.take_zero, mkB_nil]) chA)) ?_
  intro j hj
  have hml := mkB_length m (l.take j)
  rcases Nat.lt_or_eq_of_le hj with h9 | rfl
  · have hxj := hx _ (List.getElem_mem h9)
    repeat' (first | (with_reducible first | refine RL.done ?_ | refine RL.app0 ?_ | refine RL.app1 ?_ | refine RL.app2 ?_ | refine RL.app3 ?_ | refine RL.app4 ?_) | (with_reducible refine RL.wanted ?_ ?_; exact rfl) | ((with_reducible show RH _ _ _ ⟨some 9, .makeSlice _ _ _, _, _, _, _⟩ _ _ _ _); refine RH.make (α := Bool) rfl (fun x => [vbool x]) false (fun c => .cons rfl .nil) rfl rfl (by omega) (by omega) (by omega) ?_; rintro _ _ ⟨b9, rfl, rfl⟩) | ((with_reducible show RH _ _ _ _ _ _ _ _); first | refine RH.val (hK := ?_) | refine RH.upd (hK := ?_) | (refine RH.lr (h := ?_); intro u)) | (with_reducible first | refine Run.seq ?_ | refine Run.region ?_ | refine Run.block ?_ | refine Run.skip ?_ | refine Run.exit ?_ | refine Run.ret ?_) | (with_reducible show Run _ _ (.cond _ _ _) _ _ _; first | refine Run.condT rfl ?_ | refine Run.condF rfl ?_ | refine Run.condD rfl (fun h => ?_) (fun h => ?_) | refine Run.condND rfl (fun h => ?_) (fun h => ?_) | refine Run.condNB rfl (fun h => ?_) (fun h => ?_) | refine Run.cond rfl (fun h => ?_) (fun h => ?_)) | (with_reducible first | refine seqN (K := Run _ _ _ _) ?_ | refine seqE ?_ | refine seqR ?_ | refine blockN ?_ | refine blockR ?_ | refine blockE ?_) | (with_reducible refine blockX ?_ ?_; exact rfl))
    all_goals first
      | (exfalso; omega)
      | (with_reducible refine seqN ?_
         exact ⟨j + 1, by omega, by omega, Ent.of slA (.cons .head (congrArg (fun ys => harr b9 1 (fun x : Bool => [vbool x]) ys (m * 1)) (mkB_set m l j h9 (by omega))) chA)⟩)
  · rw [List.take_length] at *
    repeat' (first | (with_reducible first | refine RL.done ?_ | refine RL.app0 ?_ | refine RL.app1 ?_ | refine RL.app2 ?_ | refine RL.app3 ?_ | refine RL.app4 ?_) | (with_reducible refine RL.wanted ?_ ?_; exact rfl) | ((with_reducible show RH _ _ _ ⟨some 9, .makeSlice _ _ _, _, _, _, _⟩ _ _ _ _); refine RH.make (α := Bool) rfl (fun x => [vbool x]) false (fun c => .cons rfl .nil) rfl rfl (by omega) (by omega) (by omega) ?_; rintro _ _ ⟨b9, rfl, rfl⟩) | ((with_reducible show RH _ _ _ _ _ _ _ _); first | refine RH.val (hK := ?_) | refine RH.upd (hK := ?_) | (refine RH.lr (h := ?_); intro u)) | (with_reducible first | refine Run.seq ?_ | refine Run.region ?_ | refine Run.block ?_ | refine Run.skip ?_ | refine Run.exit ?_ | refine Run.ret ?_) | (with_reducible show Run _ _ (.cond _ _ _) _ _ _; first | refine Run.condT rfl ?_ | refine Run.condF rfl ?_ | refine Run.condD rfl (fun h => ?_) (fun h => ?_) | refine Run.condND rfl (fun h => ?_) (fun h => ?_) | refine Run.condNB rfl (fun h => ?_) (fun h => ?_) | refine Run.cond rfl (fun h => ?_) (fun h => ?_)) | (with_reducible first | refine seqN (K := Run _ _ _ _) ?_ | refine seqE ?_ | refine seqR ?_ | refine blockN ?_ | refine blockR ?_ | refine blockE ?_) | (with_reducible refine blockX ?_ ?_; exact rfl))
    all_goals first
      | (exfalso; omega)
      | (refine ⟨eA, _, [hsl tBool (vsv (some ⟨b9, 0, none⟩, m, m)) (mkB m l)], resA, ?_, ?_⟩
         · exact (SEnt.ch (.cons .head rfl .nil)).trans (SEnt.pack (fun _ => rfl) hml.symm)
         · exact ⟨(some ⟨b9, 0, none⟩, m, m), rfl, rfl⟩)
set_option maxRecDepth 10000 in
set_option maxHeartbeats 1000000 in
theorem imagesOf_c (f : List Int) (m : Nat) (hx : ∀ x ∈ f, 0 ≤ x ∧ x < m) (hl : f.length ≤ 1048576) (hm : m ≤ 1048576) :
    Spec Try.prog 108 [vsl 1 (fun x : Int => [vint x]) f, vint (m : Int)] [] (fun r S' => ∃ s : Sv, r = vlit (vsv s) ∧ S' = [hsl tInt (vsv s) (trueAt (mkB m f))]) := by
  refine Spec.of_run2 (n := 9) Try.func108 rfl Try.results108 Try.ntmps108 rfl ?_
  repeat' (first | (with_reducible first | refine RL.done ?_ | refine RL.app0 ?_ | refine RL.app1 ?_ | refine RL.app2 ?_ | refine RL.app3 ?_ | refine RL.app4 ?_) | (with_reducible refine RL.wanted ?_ ?_; exact rfl) | ((with_reducible show RH _ _ _ ⟨_, .call ⟨.value (.func 143), _, _⟩, _, _, _, _⟩ _ _ _ _); refine RH.cP Try.call143 ?_; refine ⟨_, marks_c f m hx (by omega) (by omega), ?_⟩; rintro _ _ ⟨s7, rfl, rfl⟩) | ((with_reducible show RH _ _ _ ⟨_, .call ⟨.value (.func 110), _, _⟩, _, _, _, _⟩ _ _ _ _); refine RH.cL Try.call110 ?_; apply Exists.intro; apply And.intro; (focus ((repeat (first | exact LVs.nil | (apply LVs.sl; (with_reducible repeat (first | exact Has.head | apply Has.tail)); exact inferInstance; exact rfl) | (apply LVs.arr; (with_reducible repeat (first | exact Has.head | apply Has.tail)); first | exact rfl | omega | simp) | (apply LVs.cut; (with_reducible repeat (first | exact Has.head | apply Has.tail)); exact inferInstance; exact rfl; first | omega | (simp; omega)) | apply LVs.agg | apply LVs.refl)); done)); refine ⟨_, marked_c (mkB m f) (by rw [mkB_length]; omega), (by intro r H h; first | (obtain ⟨rfl, rfl⟩ := h; exact ⟨inferInstance, inferInstance⟩) | (obtain ⟨_, rfl, rfl⟩ := h; exact ⟨inferInstance, inferInstance⟩) | (obtain ⟨_, _, rfl, rfl⟩ := h; exact ⟨inferInstance, inferInstance⟩)), ?_⟩; rintro _ _ ⟨s8, rfl, rfl⟩; refine RL.nm ?_) | ((with_reducible show RH _ _ _ _ _ _ _ _); first | refine RH.val (hK := ?_) | refine RH.upd (hK := ?_) | (refine RH.lr (h := ?_); intro u)) | (with_reducible first | refine Run.seq ?_ | refine Run.region ?_ | refine Run.block ?_ | refine Run.skip ?_ | refine Run.exit ?_ | refine Run.ret ?_) | (with_reducible show Run _ _ (.cond _ _ _) _ _ _; first | refine Run.condT rfl ?_ | refine Run.condF rfl ?_ | refine Run.condD rfl (fun h => ?_) (fun h => ?_) | refine Run.condND rfl (fun h => ?_) (fun h => ?_) | refine Run.condNB rfl (fun h => ?_) (fun h => ?_) | refine Run.cond rfl (fun h => ?_) (fun h => ?_)) | (with_reducible first | refine seqN (K := Run _ _ _ _) ?_ | refine seqE ?_ | refine seqR ?_ | refine blockN ?_ | refine blockR ?_ | refine blockE ?_) | (with_reducible refine blockX ?_ ?_; exact rfl))
  all_goals
    refine ⟨eA, _, [hsl tInt (vsv s8) (trueAt (mkB m f))], resA, ?_, ?_⟩
  all_goals first
    | exact SEnt.ch chA
    | exact ⟨s8, rfl, rfl⟩
theorem trueAt_full (m : Nat) (f : List Int) : ((trueAt (mkB m f)).length = m) ↔ ontoB m f = true := by
  have hl := mkB_length m f
  show (trueTo (mkB m f) (mkB m f).length).length = m ↔ _
  rw [trueTo, List.length_map, hl]
  have h1 : ((List.range m).filter fun i => (mkB m f).getD i false).length = (List.range m).length ↔ ∀ a ∈ List.range m, (mkB m f).getD a false = true := List.length_filter_eq_length_iff
  rw [List.length_range] at h1
  rw [h1, ontoB, List.all_eq_true]
  constructor
  · intro h x hx
    have h2 := h x hx
    have h3 := List.mem_range.1 hx
    rw [List.getD_eq_getElem?_getD, List.getElem?_eq_getElem (show x < (mkB m f).length by omega), Option.getD_some, mkB_at] at h2
    exact h2
  · intro h x hx
    have h2 := h x hx
    have h3 := List.mem_range.1 hx
    rw [List.getD_eq_getElem?_getD, List.getElem?_eq_getElem (show x < (mkB m f).length by omega), Option.getD_some, mkB_at]
    exact h2
end Go.Proofs.Ytkelbadedagcaaa
