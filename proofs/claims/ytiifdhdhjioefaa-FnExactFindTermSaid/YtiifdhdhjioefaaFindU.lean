/- The search for a term that obeys a condition: impl.FindTerm, RefutingRows. Proved for this program; conditions: lengths below 2^62. -/
import Derived.Test.YtiifdhdhjioefaaFindT
namespace Go.Proofs.Ytiifdhdhjioefaa
open Go Go.Proofs
set_option linter.unusedVariables false
def fndV (n : Int) (os : List (Int × List Int)) (a : Int) (rs : List (List Int × List Int)) : QS := if mayB n os a rs = true then seaV n.toNat a.toNat (pw n a.toNat).toNat os rs else (([], []), 0, 0)
theorem fndV_no {n : Int} {os : List (Int × List Int)} {a : Int} {rs : List (List Int × List Int)} (h : mayB n os a rs = false) : fndV n os a rs = (([], []), 0, 0) := by rw [fndV, h]; rfl
theorem fndV_yes {N k0 size : Nat} {os : List (Int × List Int)} {rs : List (List Int × List Int)} (h : mayB (N : Int) os (k0 : Int) rs = true) (hk : MalOk N k0 size os rs) : fndV (N : Int) os (k0 : Int) rs = seaV N k0 size os rs := by
  rw [fndV, if_pos h, Int.toNat_natCast, Int.toNat_natCast, hk.pw, Int.toNat_natCast]
def stepsQ (s : QS) : List (Int × List Int) := if s.2.2 = 1 then s.1.2 else []
abbrev FndRes (n : Int) (os : List (Int × List Int)) (a : Int) (rs : List (List Int × List Int)) (r : VP) (S' : List HP) : Prop :=
  ∃ s : Sv, r = vtup [vlit (vsv s), vint (fndV n os a rs).2.2, vbool (mayB n os a rs)] ∧ S' = [hsl (tPair tInt (tS tInt)) (vsv s) (stepsQ (fndV n os a rs))]
set_option maxRecDepth 10000 in
set_option maxHeartbeats 4000000 in
theorem implFnd_c (n : Int) (os : List (Int × List Int)) (a : Int) (rs : List (List Int × List Int)) (hol : os.length ≤ 4611686018427387904) (ho : OpsLen os) (hl : rs.length ≤ 4611686018427387904) (hr : ∀ y ∈ rs, y.1.length ≤ 4611686018427387904 ∧ y.2.length ≤ 4611686018427387904) :
    Spec Try.prog 60 [vagg [vint n, vsl 2 (fun y : Int × (List Int) => [vint y.1, vsl 1 (fun x : Int => [vint x]) y.2]) os], vagg [vint a, vsl 2 (fun y : (List Int) × (List Int) => [vsl 1 (fun x : Int => [vint x]) y.1, vsl 1 (fun x : Int => [vint x]) y.2]) rs]] [] (FndRes n os a rs) := by
  have hM := canSearch_c n os a rs hol ho hl hr
  cases hm : mayB n os a rs with
  | false =>
    have e := fndV_no hm
    rw [hm] at hM
    refine Spec.of_run2 (n := 30) Try.func60 rfl Try.results60 Try.ntmps60 rfl ?_
    repeat' (first | (with_reducible first | refine RL.done ?_ | refine RL.app0 ?_) | (with_reducible refine RL.wanted ?_ ?_; exact rfl) | ((with_reducible show RH _ _ _ ⟨some 2, .box _ _, _, _, _, _⟩ _ _ _ _); (refine RH.boxAgg rfl rfl ?_; rintro _ _ ⟨b2, rfl, rfl⟩)) | ((with_reducible show RH _ _ _ ⟨some 3, .box _ _, _, _, _, _⟩ _ _ _ _); (refine RH.boxAgg rfl rfl ?_; rintro _ _ ⟨b3, rfl, rfl⟩)) | ((with_reducible show RH _ _ _ ⟨some 12, .buildSlice _ _ _, _, _, _, _⟩ _ _ _ _); refine RH.eff rfl rfl (EOpS.e (EOpS.slitV (by repeat (first | exact Elts.nil | apply Elts.one1 rfl | apply Elts.agg2 rfl)) (by simp) rfl rfl)) ?_; rintro _ _ ⟨b12, rfl, rfl⟩) | ((with_reducible show RH _ _ _ ⟨_, .call ⟨.value (.func 126), _, _⟩, _, _, _, _⟩ _ _ _ _); refine RH.cP Try.call126 ?_; refine ⟨_, hM, ?_⟩; rintro _ _ ⟨rfl, rfl⟩) | ((with_reducible show RH _ _ _ _ _ _ _ _); refine RH.val (hK := ?_)) | (with_reducible first | refine Run.seq ?_ | refine Run.region ?_ | refine Run.ret ?_) | (with_reducible show Run _ _ (.cond _ _ _) _ _ _; refine Run.condT rfl ?_) | (with_reducible first | refine seqN (K := Run _ _ _ _) ?_ | refine seqR ?_))
    all_goals first
      | (exfalso; simp_all; done)
      | (refine ⟨eA, _, [hsl (tPair tInt (tS tInt)) (vsv (some ⟨b12, 0, none⟩, 0, 0)) []], resA, ?_, ?_⟩
         · exact (SEnt.packNil (tPair tInt (tS tInt)) rfl).trans (SEnt.ch (.cons .head rfl .nil))
         · exact ⟨(some ⟨b12, 0, none⟩, 0, 0), by rw [e, hm]; rfl, by rw [e]; rfl⟩)
      | trace_state
  | true =>
    rw [hm] at hM
    obtain ⟨N, k0, size, rfl, rfl, hk, _⟩ := mal_ok hm
    have e := fndV_yes hm hk
    have hsea := searchTerm_c N k0 size os rs hk
    obtain ⟨S, hS⟩ : ∃ S, seaV N k0 size os rs = S := ⟨_, rfl⟩
    rw [hS] at hsea e
    obtain ⟨c, tr, st⟩ := S
    by_cases h1 : st = 1
    · have hq : stepsQ (fndV (N : Int) os (k0 : Int) rs) = c.2 := by rw [e, stepsQ]; exact if_pos h1
      refine Spec.of_run2 (n := 30) Try.func60 rfl Try.results60 Try.ntmps60 rfl ?_
      repeat' (first | (with_reducible first | refine RL.done ?_ | refine RL.app0 ?_ | refine RL.app4 ?_) | (with_reducible refine RL.wanted ?_ ?_; exact rfl) | ((with_reducible show RH _ _ _ ⟨some 2, .box _ _, _, _, _, _⟩ _ _ _ _); (refine RH.boxAgg rfl rfl ?_; rintro _ _ ⟨b2, rfl, rfl⟩)) | ((with_reducible show RH _ _ _ ⟨some 3, .box _ _, _, _, _, _⟩ _ _ _ _); (refine RH.boxAgg rfl rfl ?_; rintro _ _ ⟨b3, rfl, rfl⟩)) | ((with_reducible show RH _ _ _ ⟨_, .call ⟨.value (.func 126), _, _⟩, _, _, _, _⟩ _ _ _ _); refine RH.cP Try.call126 ?_; refine ⟨_, hM, ?_⟩; rintro _ _ ⟨rfl, rfl⟩) | ((with_reducible show RH _ _ _ ⟨_, .call ⟨.value (.func 127), _, _⟩, _, _, _, _⟩ _ _ _ _); refine RH.cP Try.call127 ?_; refine ⟨_, hsea, ?_⟩; rintro _ _ ⟨bq, bm, fv, u1, u2, rfl, rfl⟩) | ((with_reducible show RH _ _ _ _ _ _ _ _); refine RH.val (hK := ?_)) | (with_reducible first | refine Run.seq ?_ | refine Run.region ?_ | refine Run.skip ?_ | refine Run.ret ?_) | (with_reducible show Run _ _ (.cond _ _ _) _ _ _; first | refine Run.condF rfl ?_ | refine Run.condD rfl (fun h => ?_) (fun h => ?_)) | (with_reducible refine seqN (K := Run _ _ _ _) ?_))
      all_goals first
        | (exfalso; omega)
        | (exfalso; simp_all; done)
        | (refine ⟨eA, _, [hsl (tPair tInt (tS tInt)) (vsv u2) c.2], resA, ?_, ?_⟩
           · exact SEnt.ch chA
           · exact ⟨u2, by rw [e, hm, h1]; rfl, by rw [hq]⟩)
        | trace_state
    · have hq : stepsQ (fndV (N : Int) os (k0 : Int) rs) = [] := by rw [e, stepsQ]; exact if_neg h1
      refine Spec.of_run2 (n := 30) Try.func60 rfl Try.results60 Try.ntmps60 rfl ?_
      repeat' (first | (with_reducible first | refine RL.done ?_ | refine RL.app0 ?_ | refine RL.app4 ?_) | (with_reducible refine RL.wanted ?_ ?_; exact rfl) | ((with_reducible show Run _ _ (.region 5 _ true) _ _ _); refine Run.regionD (fun i => false) rfl ?_; change RD _ _ _ _ _ _ 8 (dm 8 0) _ _) | ((with_reducible show RD _ _ 5 _ _ _ _ _ _ _); first | ((with_reducible show RD _ _ _ _ _ _ _ (dm 8 0) _ _); refine RD.tk 1 (dm 8 220) (dm 8 2) (hK := ?_)) | ((with_reducible show RD _ _ _ _ _ _ _ (dm 8 2) _ _); refine RD.tk 2 (dm 8 216) (dm 8 6) (hK := ?_)) | ((with_reducible show RD _ _ _ _ _ _ _ (dm 8 6) _ _); refine RD.tk 3 (dm 8 208) (dm 8 14) (hK := ?_)) | ((with_reducible show RD _ _ _ _ _ _ _ (dm 8 14) _ _); refine RD.tk 4 (dm 8 192) (dm 8 30) (hK := ?_)) | ((with_reducible show RD _ _ _ _ _ _ _ (dm 8 30) _ _); refine RD.a1 0 ?_) | ((with_reducible show RD _ _ _ _ _ _ _ (dm 8 31) _ _); refine RD.tk 5 (dm 8 192) (dm 8 63) (hK := ?_)) | ((with_reducible show RD _ _ _ _ _ _ _ (dm 8 63) _ _); refine RD.tk 6 (dm 8 128) (dm 8 127) (hK := ?_)) | ((with_reducible show RD _ _ _ _ _ _ _ (dm 8 127) _ _); refine RD.tk 7 (dm 8 0) (dm 8 255) (hK := ?_)) | ((with_reducible show RD _ _ _ _ _ _ 0 _ _ _); refine RD.done (by kernel_rfl) ?_)) | ((with_reducible show RO _ _ 5 _ _ _ _ _ _ _ _); ((with_reducible show RO _ _ _ _ _ _ _ (dm 8 30) 0 _ _); (refine RO.eS (dm 8 31) (hv := by show EOpS _ _ _ _ ⟨_, .buildSlice _ _ _, _, _, _, _⟩ _; exact EOpS.slitV (by repeat (first | exact Elts.nil | apply Elts.one1 rfl | apply Elts.agg2 rfl)) (by simp) rfl rfl) (h := ?_); rintro _ _ ⟨b21, rfl, rfl⟩))) | ((with_reducible show RH _ _ _ ⟨some 2, .box _ _, _, _, _, _⟩ _ _ _ _); (refine RH.boxAgg rfl rfl ?_; rintro _ _ ⟨b2, rfl, rfl⟩)) | ((with_reducible show RH _ _ _ ⟨some 3, .box _ _, _, _, _, _⟩ _ _ _ _); (refine RH.boxAgg rfl rfl ?_; rintro _ _ ⟨b3, rfl, rfl⟩)) | ((with_reducible show RH _ _ _ ⟨_, .call ⟨.value (.func 126), _, _⟩, _, _, _, _⟩ _ _ _ _); refine RH.cP Try.call126 ?_; refine ⟨_, hM, ?_⟩; rintro _ _ ⟨rfl, rfl⟩) | ((with_reducible show RH _ _ _ ⟨_, .call ⟨.value (.func 127), _, _⟩, _, _, _, _⟩ _ _ _ _); refine RH.cP Try.call127 ?_; refine ⟨_, hsea, ?_⟩; rintro _ _ ⟨bq, bm, fv, u1, u2, rfl, rfl⟩) | ((with_reducible show RH _ _ _ _ _ _ _ _); refine RH.val (hK := ?_)) | (with_reducible first | refine Run.seq ?_ | refine Run.region ?_ | refine Run.skip ?_ | refine Run.ret ?_) | (with_reducible show Run _ _ (.cond _ _ _) _ _ _; first | refine Run.condF rfl ?_ | refine Run.condD rfl (fun h => ?_) (fun h => ?_)) | (with_reducible first | refine seqN (K := Run _ _ _ _) ?_ | refine seqR ?_))
      all_goals first
        | (exfalso; omega)
        | (exfalso; simp_all; done)
        | (refine ⟨eA, _, [hsl (tPair tInt (tS tInt)) (vsv (some ⟨b21, 0, none⟩, 0, 0)) []], resA, ?_, ?_⟩
           · exact (SEnt.packNil (tPair tInt (tS tInt)) rfl).trans (SEnt.ch (.cons .head rfl .nil))
           · exact ⟨(some ⟨b21, 0, none⟩, 0, 0), by rw [e, hm]; rfl, by rw [hq]⟩)
        | trace_state
end Go.Proofs.Ytiifdhdhjioefaa
