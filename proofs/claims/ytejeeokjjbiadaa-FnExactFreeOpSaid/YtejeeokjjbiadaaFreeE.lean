/- The elements of the free algebra, an element as an operation: spec and impl: the same answer. Proved for this program; conditions: lengths below 2^62. -/
import Derived.Test.YtejeeokjjbiadaaFree
namespace Go.Proofs.Ytejeeokjjbiadaa
open Go Go.Proofs
set_option linter.unusedVariables false
set_option maxRecDepth 10000 in
theorem specElems_c (n : Int) (os : List (Int × List Int)) (k : Int) (o : Option (List (List Int))) (hoo : FreeIs n os k o) (hol : os.length ≤ 4611686018427387904) (ho : OpsLen os) :
    Spec Try.prog 37 [vagg [vint n, vsl 2 (fun y : Int × (List Int) => [vint y.1, vsl 1 (fun x : Int => [vint x]) y.2]) os], vint k] [] (GenRes (genO (rankB n os k) o)) := by
  refine Spec.of_run2 (n := 11) Try.func37 rfl Try.results37 Try.ntmps37 rfl ?_
  repeat' (first | (with_reducible first | refine RL.done ?_ | refine RL.app1 ?_) | (with_reducible refine RL.wanted ?_ ?_; exact rfl) | ((with_reducible show RH _ _ _ ⟨some 2, .box _ _, _, _, _, _⟩ _ _ _ _); (refine RH.boxAgg rfl rfl ?_; rintro _ _ ⟨b2, rfl, rfl⟩)) | ((with_reducible show RH _ _ _ ⟨_, .call ⟨.value (.func 77), _, _⟩, _, _, _, _⟩ _ _ _ _); refine RH.cP Try.call77 ?_; refine ⟨_, l11Free_c n os k o hoo hol ho, ?_⟩; rintro _ _ ⟨s8, rfl, rfl⟩) | ((with_reducible show RH _ _ _ _ _ _ _ _); refine RH.val (hK := ?_)) | (with_reducible first | refine Run.seq ?_ | refine Run.region ?_ | refine Run.ret ?_) | (with_reducible refine seqN (K := Run _ _ _ _) ?_))
  all_goals (refine ⟨eA, _, [hsl (tS tInt) (vsv s8) ((genO (rankB n os k) o).getD [])], resA, ?_, ?_⟩
             · exact SEnt.ch chA
             · exact ⟨s8, rfl, rfl⟩)
set_option maxRecDepth 10000 in
set_option maxHeartbeats 1000000 in
theorem implElems_c (n : Int) (os : List (Int × List Int)) (k : Int) (o : Option (List (List Int))) (hoo : FreeIs n os k o) (hol : os.length ≤ 4611686018427387904) (ho : OpsLen os) :
    Spec Try.prog 38 [vagg [vint n, vsl 2 (fun y : Int × (List Int) => [vint y.1, vsl 1 (fun x : Int => [vint x]) y.2]) os], vint k] [] (GenRes (genO (rankB n os k) o)) := by
  cases hO : genO (rankB n os k) o with
  | none =>
    refine Spec.of_run2 (n := 24) Try.func38 rfl Try.results38 Try.ntmps38 rfl ?_
    repeat' (first | (with_reducible first | refine RL.done ?_ | refine RL.app0 ?_) | (with_reducible refine RL.wanted ?_ ?_; exact rfl) | ((with_reducible show RH _ _ _ ⟨some 2, .box _ _, _, _, _, _⟩ _ _ _ _); (refine RH.boxAgg rfl rfl ?_; rintro _ _ ⟨b2, rfl, rfl⟩)) | ((with_reducible show RH _ _ _ ⟨some 16, .buildSlice _ _ _, _, _, _, _⟩ _ _ _ _); (refine RH.eff rfl rfl (EOpS.e (EOpS.slitV (by ((repeat (first | exact Elts.nil | apply Elts.one1 rfl | apply Elts.agg2 rfl)); done)) (by simp) rfl rfl)) ?_; rintro _ _ ⟨b16, rfl, rfl⟩)) | ((with_reducible show RH _ _ _ ⟨_, .call ⟨.value (.func 82), _, _⟩, _, _, _, _⟩ _ _ _ _); refine RH.cP Try.call82 ?_; refine ⟨_, freeI_no hoo hol ho hO, ?_⟩; rintro _ _ ⟨rfl, rfl⟩) | ((with_reducible show RH _ _ _ _ _ _ _ _); refine RH.val (hK := ?_)) | (with_reducible first | refine Run.seq ?_ | refine Run.region ?_ | refine Run.ret ?_) | (with_reducible show Run _ _ (.cond _ _ _) _ _ _; refine Run.condT rfl ?_) | (with_reducible first | refine seqN (K := Run _ _ _ _) ?_ | refine seqR ?_))
    all_goals (refine ⟨eA, _, [hsl (tS tInt) (vsv (some ⟨b16, 0, none⟩, 0, 0)) []], resA, ?_, ?_⟩
               · exact (SEnt.packNil (tS tInt) rfl).trans (SEnt.ch (.cons .head rfl .nil))
               · exact ⟨_, rfl, rfl⟩)
  | some X =>
    refine Spec.of_run2 (n := 24) Try.func38 rfl Try.results38 Try.ntmps38 rfl ?_
    repeat' (first | (with_reducible first | refine RL.done ?_ | refine RL.app4 ?_) | (with_reducible refine RL.wanted ?_ ?_; exact rfl) | ((with_reducible show RH _ _ _ ⟨some 2, .box _ _, _, _, _, _⟩ _ _ _ _); (refine RH.boxAgg rfl rfl ?_; rintro _ _ ⟨b2, rfl, rfl⟩)) | ((with_reducible show RH _ _ _ ⟨_, .call ⟨.value (.func 82), _, _⟩, _, _, _, _⟩ _ _ _ _); refine RH.cP Try.call82 ?_; refine ⟨_, freeI_yes hoo hol ho hO, ?_⟩; rintro _ _ ⟨b, bs, bm, s, kv, rfl, rfl, hkv⟩) | ((with_reducible show RH _ _ _ _ _ _ _ _); refine RH.val (hK := ?_)) | (with_reducible first | refine Run.seq ?_ | refine Run.region ?_ | refine Run.skip ?_ | refine Run.ret ?_) | (with_reducible show Run _ _ (.cond _ _ _) _ _ _; refine Run.condF rfl ?_) | (with_reducible refine seqN (K := Run _ _ _ _) ?_))
    all_goals (refine ⟨eA, _, [hsl (tS tInt) (vsv s) X], resA, ?_, ?_⟩
               · exact SEnt.ch chA
               · exact ⟨s, rfl, rfl⟩)
/-- an element as an operation -/
def fopV (k i : Int) (o : Option (List (List Int))) : Option (Int × List Int) := match o with
  | none => none
  | some X => if 0 ≤ i ∧ i < (X.length : Int) then some (k, X.getD i.toNat []) else none
abbrev OpRes (o : Option (Int × List Int)) (r : VP) (S' : List HP) : Prop := ∃ s : Sv, r = vtup [vagg [vint (o.getD (0, [])).1, vlit (vsv s)], vbool o.isSome] ∧ S' = [hsl tInt (vsv s) (o.getD (0, [])).2]
theorem fopV_yes {k i : Int} {X : List (List Int)} (h : 0 ≤ i) (hi : i.toNat < X.length) : fopV k i (some X) = some (k, X[i.toNat]) := by
  rw [fopV, if_pos ⟨h, by omega⟩, List.getD_eq_getElem?_getD, List.getElem?_eq_getElem hi]; rfl
theorem fopV_no {k i : Int} {X : List (List Int)} (h : ¬ (0 ≤ i ∧ i < (X.length : Int))) : fopV k i (some X) = none := if_neg h
set_option maxRecDepth 10000 in
set_option maxHeartbeats 1000000 in
theorem specFop_c (n : Int) (os : List (Int × List Int)) (k i : Int) (o : Option (List (List Int))) (hoo : FreeIs n os k o) (hol : os.length ≤ 4611686018427387904) (ho : OpsLen os) :
    Spec Try.prog 26 [vagg [vint n, vsl 2 (fun y : Int × (List Int) => [vint y.1, vsl 1 (fun x : Int => [vint x]) y.2]) os], vint k, vint i] [] (OpRes (fopV k i (genO (rankB n os k) o))) := by
  cases hO : genO (rankB n os k) o with
  | none =>
    refine Spec.of_run2 (n := 34) Try.func26 rfl Try.results26 Try.ntmps26 rfl ?_
    repeat' (first | (with_reducible first | refine RL.done ?_ | refine RL.app1 ?_) | (with_reducible refine RL.wanted ?_ ?_; exact rfl) | ((with_reducible show RH _ _ _ ⟨some 3, .box _ _, _, _, _, _⟩ _ _ _ _); (refine RH.boxAgg rfl rfl ?_; rintro _ _ ⟨b3, rfl, rfl⟩)) | ((with_reducible show RH _ _ _ ⟨some 6, .alloc _, _, _, _, _⟩ _ _ _ _); refine RH.alloc rfl ?_; rintro _ _ ⟨b6, rfl, rfl⟩) | ((with_reducible show RH _ _ _ ⟨_, .call ⟨.value (.func 77), _, _⟩, _, _, _, _⟩ _ _ _ _); refine RH.cP Try.call77 ?_; refine ⟨_, freeS_no hoo hol ho hO, ?_⟩; rintro _ _ ⟨s8, rfl, rfl⟩) | ((with_reducible show RH _ _ _ _ _ _ _ _); first | refine RH.val (hK := ?_) | refine RH.upd (hK := ?_)) | (with_reducible show RL _ _ _ (_ :: _) _ _ _; refine RL.guardNoS rfl rfl rfl rfl rfl rfl ?_) | (with_reducible first | refine Run.seq ?_ | refine Run.region ?_ | refine Run.ret ?_) | (with_reducible show Run _ _ (.cond _ _ _) _ _ _; refine Run.condT rfl ?_) | (with_reducible first | refine seqN (K := Run _ _ _ _) ?_ | refine seqR ?_))
    all_goals (refine ⟨eA, _, [hsl tInt (vsv (none, 0, 0)) []], resA, ?_, ?_⟩
               · exact (SEnt.ch .nil).trans (SEnt.nil _ _)
               · exact ⟨(none, 0, 0), rfl, rfl⟩)
  | some X =>
    obtain ⟨hg, rfl⟩ := genO_some hO
    have hF := free_ok hg hoo
    obtain ⟨hfl, hf1, hf64⟩ := fLen_at hg
    have hfew := hF.few
    by_cases hi : 0 ≤ i ∧ i < (X.length : Int)
    · have hil : i.toNat < X.length := by omega
      have hrow : X[i.toNat].length ≤ 4398046511104 := by rw [(hF.tup _ (List.getElem_mem hil)).1]; omega
      refine Spec.of_run2 (n := 34) Try.func26 rfl Try.results26 Try.ntmps26 rfl ?_
      repeat' (first | (with_reducible first | refine RL.done ?_ | refine RL.app0 ?_ | refine RL.app1 ?_) | (with_reducible refine RL.wanted ?_ ?_; exact rfl) | ((with_reducible show RH _ _ _ ⟨some 3, .box _ _, _, _, _, _⟩ _ _ _ _); (refine RH.boxAgg rfl rfl ?_; rintro _ _ ⟨b3, rfl, rfl⟩)) | ((with_reducible show RH _ _ _ ⟨some 6, .alloc _, _, _, _, _⟩ _ _ _ _); refine RH.alloc rfl ?_; rintro _ _ ⟨b6, rfl, rfl⟩) | ((with_reducible show RH _ _ _ ⟨_, .call ⟨.value (.func 77), _, _⟩, _, _, _, _⟩ _ _ _ _); refine RH.cP Try.call77 ?_; refine ⟨_, freeS_yes hoo hol ho hO, ?_⟩; rintro _ _ ⟨s8, rfl, rfl⟩) | ((with_reducible show RH _ _ _ ⟨_, .call ⟨.value (.func 78), _, _⟩, _, _, _, _⟩ _ _ _ _); refine RH.cP Try.call78 ?_; refine ⟨_, l1In_c _ _ _, ?_⟩; rintro _ _ ⟨rfl, rfl⟩) | ((with_reducible show RH _ _ _ ⟨_, .call ⟨.value (.func 92), _, _⟩, _, _, _, _⟩ _ _ _ _); refine RH.cL Try.call92 ?_; apply Exists.intro; apply And.intro; (focus ((repeat (first | exact LVs.nil | (apply LVs.sl; (with_reducible repeat (exact Has.head)); exact inferInstance; exact rfl))); done)); refine ⟨_, l1Own_c _ hrow, (by intro r H h; first | (obtain ⟨rfl, rfl⟩ := h; exact ⟨inferInstance, inferInstance⟩) | (obtain ⟨_, rfl, rfl⟩ := h; exact ⟨inferInstance, inferInstance⟩) | (obtain ⟨_, _, rfl, rfl⟩ := h; exact ⟨inferInstance, inferInstance⟩) | (obtain ⟨_, _, rfl, rfl, _⟩ := h; exact ⟨inferInstance, inferInstance⟩)), ?_⟩; rintro _ _ ⟨s32, rfl, rfl⟩; refine RL.nm ?_) | ((with_reducible show RH _ _ _ ⟨_, .load _ (.tmp 30), _, _, _, _⟩ _ _ _ _); with_reducible refine RH.focusRow (t := tInt) i.toNat (X[i.toNat]'(by omega)) (by ((with_reducible repeat (first | exact Rem.head | apply Rem.tail)); done)) (List.getElem?_eq_getElem _) ?_; intro u) | ((with_reducible show RH _ _ _ _ _ _ _ _); first | refine RH.val (hK := ?_) | refine RH.upd (hK := ?_)) | (with_reducible show RL _ _ _ (_ :: _) _ _ _; refine RL.guardYes rfl rfl rfl rfl ?_) | (with_reducible first | refine Run.seq ?_ | refine Run.region ?_ | refine Run.skip ?_ | refine Run.ret ?_) | (with_reducible show Run _ _ (.cond _ _ _) _ _ _; refine Run.condND rfl (fun h => ?_) (fun h => ?_)) | (with_reducible first | refine seqN (K := Run _ _ _ _) ?_ | refine seqR ?_))
      all_goals first
        | (exfalso; omega)
        | (exfalso; simp_all; done)
        | (exfalso; simp_all; omega)
        | (refine ⟨eA, _, [hsl tInt (vsv s32) X[i.toNat]], resA, ?_, ?_⟩
           · exact SEnt.ch chA
           · exact ⟨s32, by rw [fopV_yes hi.1 hil]; rfl, by rw [fopV_yes hi.1 hil]; rfl⟩)
    · refine Spec.of_run2 (n := 34) Try.func26 rfl Try.results26 Try.ntmps26 rfl ?_
      repeat' (first | (with_reducible first | refine RL.done ?_ | refine RL.app0 ?_ | refine RL.app1 ?_) | (with_reducible refine RL.wanted ?_ ?_; exact rfl) | ((with_reducible show RH _ _ _ ⟨some 3, .box _ _, _, _, _, _⟩ _ _ _ _); (refine RH.boxAgg rfl rfl ?_; rintro _ _ ⟨b3, rfl, rfl⟩)) | ((with_reducible show RH _ _ _ ⟨some 6, .alloc _, _, _, _, _⟩ _ _ _ _); refine RH.alloc rfl ?_; rintro _ _ ⟨b6, rfl, rfl⟩) | ((with_reducible show RH _ _ _ ⟨_, .call ⟨.value (.func 77), _, _⟩, _, _, _, _⟩ _ _ _ _); refine RH.cP Try.call77 ?_; refine ⟨_, freeS_yes hoo hol ho hO, ?_⟩; rintro _ _ ⟨s8, rfl, rfl⟩) | ((with_reducible show RH _ _ _ ⟨_, .call ⟨.value (.func 78), _, _⟩, _, _, _, _⟩ _ _ _ _); refine RH.cP Try.call78 ?_; refine ⟨_, l1In_c _ _ _, ?_⟩; rintro _ _ ⟨rfl, rfl⟩) | ((with_reducible show RH _ _ _ _ _ _ _ _); first | refine RH.val (hK := ?_) | refine RH.upd (hK := ?_) | (refine RH.lr (h := ?_); intro u)) | (with_reducible show RL _ _ _ (_ :: _) _ _ _; refine RL.guardYes rfl rfl rfl rfl ?_) | (with_reducible first | refine Run.seq ?_ | refine Run.region ?_ | refine Run.skip ?_ | refine Run.ret ?_) | (with_reducible show Run _ _ (.cond _ _ _) _ _ _; refine Run.condND rfl (fun h => ?_) (fun h => ?_)) | (with_reducible first | refine seqN (K := Run _ _ _ _) ?_ | refine seqR ?_))
      all_goals first
        | (refine ⟨eA, _, [hsl tInt (vsv (none, 0, 0)) []], resA, ?_, ?_⟩
           · exact (SEnt.ch .nil).trans (SEnt.nil _ _)
           · exact ⟨(none, 0, 0), by rw [fopV_no hi]; rfl, by rw [fopV_no hi]; rfl⟩)
        | (exfalso; omega)
        | (exfalso; simp_all; done)
        | (exfalso; simp_all; omega)
set_option maxRecDepth 10000 in
set_option maxHeartbeats 1000000 in
theorem implFop_c (n : Int) (os : List (Int × List Int)) (k i : Int) (o : Option (List (List Int))) (hoo : FreeIs n os k o) (hol : os.length ≤ 4611686018427387904) (ho : OpsLen os) :
    Spec Try.prog 27 [vagg [vint n, vsl 2 (fun y : Int × (List Int) => [vint y.1, vsl 1 (fun x : Int => [vint x]) y.2]) os], vint k, vint i] [] (OpRes (fopV k i (genO (rankB n os k) o))) := by
  cases hO : genO (rankB n os k) o with
  | none =>
    refine Spec.of_run2 (n := 48) Try.func27 rfl Try.results27 Try.ntmps27 rfl ?_
    repeat' (first | (with_reducible first | refine RL.done ?_ | refine RL.app0 ?_) | (with_reducible refine RL.wanted ?_ ?_; exact rfl) | ((with_reducible show RH _ _ _ ⟨some 3, .box _ _, _, _, _, _⟩ _ _ _ _); (refine RH.boxAgg rfl rfl ?_; rintro _ _ ⟨b3, rfl, rfl⟩)) | ((with_reducible show RH _ _ _ ⟨some 6, .alloc _, _, _, _, _⟩ _ _ _ _); refine RH.alloc rfl ?_; rintro _ _ ⟨b6, rfl, rfl⟩) | ((with_reducible show RH _ _ _ ⟨_, .call ⟨.value (.func 82), _, _⟩, _, _, _, _⟩ _ _ _ _); refine RH.cP Try.call82 ?_; refine ⟨_, freeI_no hoo hol ho hO, ?_⟩; rintro _ _ ⟨rfl, rfl⟩) | ((with_reducible show RH _ _ _ _ _ _ _ _); first | refine RH.val (hK := ?_) | refine RH.upd (hK := ?_)) | (with_reducible show RL _ _ _ (_ :: _) _ _ _; refine RL.guardNoS rfl rfl rfl rfl rfl rfl ?_) | (with_reducible first | refine Run.seq ?_ | refine Run.region ?_ | refine Run.ret ?_) | (with_reducible show Run _ _ (.cond _ _ _) _ _ _; refine Run.condT rfl ?_) | (with_reducible first | refine seqN (K := Run _ _ _ _) ?_ | refine seqR ?_))
    all_goals (refine ⟨eA, _, [hsl tInt (vsv (none, 0, 0)) []], resA, ?_, ?_⟩
               · exact (SEnt.ch .nil).trans (SEnt.nil _ _)
               · exact ⟨(none, 0, 0), rfl, rfl⟩)
  | some X =>
    obtain ⟨hg, rfl⟩ := genO_some hO
    have hF := free_ok hg hoo
    obtain ⟨hfl, hf1, hf64⟩ := fLen_at hg
    have hfew := hF.few
    by_cases hi : 0 ≤ i ∧ i < (X.length : Int)
    · have hil : i.toNat < X.length := by omega
      have hrow : X[i.toNat].length ≤ 4398046511104 := by rw [(hF.tup _ (List.getElem_mem hil)).1]; omega
      refine Spec.of_run2 (n := 48) Try.func27 rfl Try.results27 Try.ntmps27 rfl ?_
      repeat' (first | (with_reducible first | refine RL.done ?_ | refine RL.app1 ?_ | refine RL.app3 ?_) | (with_reducible refine RL.wanted ?_ ?_; exact rfl) | ((with_reducible show RH _ _ _ ⟨some 3, .box _ _, _, _, _, _⟩ _ _ _ _); (refine RH.boxAgg rfl rfl ?_; rintro _ _ ⟨b3, rfl, rfl⟩)) | ((with_reducible show RH _ _ _ ⟨some 6, .alloc _, _, _, _, _⟩ _ _ _ _); refine RH.alloc rfl ?_; rintro _ _ ⟨b6, rfl, rfl⟩) | ((with_reducible show RH _ _ _ ⟨_, .call ⟨.value (.func 82), _, _⟩, _, _, _, _⟩ _ _ _ _); refine RH.cP Try.call82 ?_; refine ⟨_, freeI_frz hoo hol ho hO, ?_⟩; rintro _ _ ⟨b, bs, bm, kv, rfl, rfl, hkv⟩) | ((with_reducible show RH _ _ _ ⟨_, .call ⟨.value (.func 93), _, _⟩, _, _, _, _⟩ _ _ _ _); refine RH.cP Try.call93 ?_; refine ⟨_, clone_c _ hrow, ?_⟩; rintro _ _ ⟨s46, rfl, rfl⟩) | ((with_reducible show RH _ _ _ _ _ _ _ _); first | refine RH.val (hK := ?_) | refine RH.upd (hK := ?_)) | (with_reducible show RL _ _ _ (_ :: _) _ _ _; first | refine RL.guardYes rfl rfl rfl rfl ?_ | refine RL.guardNoS rfl rfl rfl rfl rfl rfl ?_ | refine RL.splitD rfl rfl rfl (fun h => ?_) (fun h => ?_)) | (with_reducible first | refine Run.seq ?_ | refine Run.region ?_ | refine Run.skip ?_ | refine Run.ret ?_) | (with_reducible show Run _ _ (.cond _ _ _) _ _ _; first | refine Run.condT rfl ?_ | refine Run.condD rfl (fun h => ?_) (fun h => ?_)) | (with_reducible first | refine seqN (K := Run _ _ _ _) ?_ | refine seqR ?_))
      all_goals first
        | (exfalso; omega)
        | (refine ⟨eA, _, [hsl tInt (vsv s46) X[i.toNat]], resA, ?_, ?_⟩
           · exact SEnt.ch chA
           · exact ⟨s46, by rw [fopV_yes hi.1 hil]; rfl, by rw [fopV_yes hi.1 hil]; rfl⟩)
    · refine Spec.of_run2 (n := 48) Try.func27 rfl Try.results27 Try.ntmps27 rfl ?_
      repeat' (first | (with_reducible first | refine RL.done ?_ | refine RL.app3 ?_) | (with_reducible refine RL.wanted ?_ ?_; exact rfl) | ((with_reducible show RH _ _ _ ⟨some 3, .box _ _, _, _, _, _⟩ _ _ _ _); (refine RH.boxAgg rfl rfl ?_; rintro _ _ ⟨b3, rfl, rfl⟩)) | ((with_reducible show RH _ _ _ ⟨some 6, .alloc _, _, _, _, _⟩ _ _ _ _); refine RH.alloc rfl ?_; rintro _ _ ⟨b6, rfl, rfl⟩) | ((with_reducible show RH _ _ _ ⟨_, .call ⟨.value (.func 82), _, _⟩, _, _, _, _⟩ _ _ _ _); refine RH.cP Try.call82 ?_; refine ⟨_, freeI_frz hoo hol ho hO, ?_⟩; rintro _ _ ⟨b, bs, bm, kv, rfl, rfl, hkv⟩) | ((with_reducible show RH _ _ _ _ _ _ _ _); first | refine RH.val (hK := ?_) | refine RH.upd (hK := ?_)) | (with_reducible show RL _ _ _ (_ :: _) _ _ _; first | refine RL.guardYes rfl rfl rfl rfl ?_ | refine RL.guardNoS rfl rfl rfl rfl rfl rfl ?_ | refine RL.splitD rfl rfl rfl (fun h => ?_) (fun h => ?_)) | (with_reducible first | refine Run.seq ?_ | refine Run.region ?_ | refine Run.skip ?_ | refine Run.ret ?_) | (with_reducible show Run _ _ (.cond _ _ _) _ _ _; first | refine Run.condT rfl ?_ | refine Run.condD rfl (fun h => ?_) (fun h => ?_)) | (with_reducible first | refine seqN (K := Run _ _ _ _) ?_ | refine seqR ?_))
      all_goals first
        | (refine ⟨eA, _, [hsl tInt (vsv (none, 0, 0)) []], resA, ?_, ?_⟩
           · exact (SEnt.ch .nil).trans (SEnt.nil _ _)
           · exact ⟨(none, 0, 0), by rw [fopV_no hi]; rfl, by rw [fopV_no hi]; rfl⟩)
        | (exfalso; omega)
end Go.Proofs.Ytejeeokjjbiadaa
