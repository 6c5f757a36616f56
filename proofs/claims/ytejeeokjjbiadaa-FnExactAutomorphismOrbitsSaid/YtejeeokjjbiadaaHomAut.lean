/- All automorphisms: spec.Automorphisms, impl.Automorphisms: the same answer. Proved for this program; conditions: lengths below 2^62. -/
import Derived.Test.YtejeeokjjbiadaaHomA
import Derived.Test.YtejeeokjjbiadaaHomX
namespace Go.Proofs.Ytejeeokjjbiadaa
open Go Go.Proofs
set_option linter.unusedVariables false

def autV (n : Int) (os : List (Int × List Int)) : Option (List (List Int)) := if algB n os then homsV (homS n os n os true (fun _ => true) 301) else none
theorem twoB_self {n : Int} {os : List (Int × List Int)} (h : algB n os = true) : twoB n os n os = true := by
  rw [twoB, h, alikeB, decide_eq_true rfl]; rfl
theorem algB_ok {n : Int} {os : List (Int × List Int)} (h : algB n os = true) : ∃ N : Nat, n = N ∧ HomOk (N : Int) N os os := by
  obtain ⟨N, m2, h1, h2, hh⟩ := twoB_ok (twoB_self h)
  obtain rfl : N = m2 := by omega
  exact ⟨N, h1, hh⟩
theorem autV_small {n : Int} {os : List (Int × List Int)} {L : List (List Int)} (h : autV n os = some L) : L.length ≤ 300 ∧ 1 ≤ n ∧ n ≤ 8 ∧ RowsH n n L := by
  rw [autV] at h
  split at h
  · rename_i h2
    obtain ⟨N, rfl, hh⟩ := algB_ok h2
    rw [homsV] at h
    split at h
    · rename_i h1
      cases h
      exact ⟨h1.2, hh.n1, hh.n8, homS_rows N N hh.prs true _ 301⟩
    · cases h
  · cases h
set_option maxRecDepth 10000 in
set_option maxHeartbeats 2000000 in
theorem implAuts_c (n : Int) (os : List (Int × List Int)) (hl : os.length ≤ 4611686018427387904) (ho : OpsLen os) :
    Spec Try.prog 103 [vagg [vint n, vsl 2 (fun y : Int × (List Int) => [vint y.1, vsl 1 (fun x : Int => [vint x]) y.2]) os]] [] (LstRes (autV n os)) := by
  have hA := isAlgebra_c n os hl ho
  refine Spec.of_run2 (n := 13) Try.func103 rfl Try.results103 Try.ntmps103 rfl ?_
  cases h2 : algB n os with
  | false =>
    have e : autV n os = none := by rw [autV, h2]; rfl
    rw [h2] at hA
    rw [e]
    repeat' (first | (with_reducible first | refine RL.done ?_ | refine RL.app0 ?_) | (with_reducible refine RL.wanted ?_ ?_; exact rfl) | ((with_reducible show RH _ _ _ ⟨some 1, .box _ _, _, _, _, _⟩ _ _ _ _); (refine RH.boxAgg rfl rfl ?_; rintro _ _ ⟨b1, rfl, rfl⟩)) | ((with_reducible show RH _ _ _ ⟨some 7, .buildSlice _ _ _, _, _, _, _⟩ _ _ _ _); (refine RH.eff rfl rfl (EOpS.e (EOpS.slitV (by ((repeat (first | exact Elts.nil | apply Elts.one1 rfl | apply Elts.agg2 rfl)); done)) (by simp) rfl rfl)) ?_; rintro _ _ ⟨b7, rfl, rfl⟩)) | ((with_reducible show RH _ _ _ ⟨_, .call ⟨.value (.func 96), _, _⟩, _, _, _, _⟩ _ _ _ _); refine RH.cP Try.call96 ?_; refine ⟨_, hA, ?_⟩; rintro _ _ ⟨rfl, rfl⟩) | ((with_reducible show RH _ _ _ _ _ _ _ _); refine RH.val (hK := ?_)) | (with_reducible first | refine Run.seq ?_ | refine Run.region ?_ | refine Run.ret ?_) | (with_reducible show Run _ _ (.cond _ _ _) _ _ _; refine Run.condT rfl ?_) | (with_reducible first | refine seqN (K := Run _ _ _ _) ?_ | refine seqR ?_))
    all_goals first
      | (refine ⟨eA, _, [hsl (tS tInt) (vsv (some ⟨b7, 0, none⟩, 0, 0)) []], resA, ?_, ?_⟩
         · exact (SEnt.ch (.cons .head rfl .nil)).trans (SEnt.packNil (tS tInt) rfl)
         · exact ⟨_, rfl, rfl⟩)
  | true =>
    rw [h2] at hA
    have e : autV n os = homsV (homS n os n os true (fun _ => true) 301) := by rw [autV, h2]; rfl
    rw [e]
    obtain ⟨N, rfl, hh⟩ := algB_ok h2
    repeat' (first | (with_reducible first | refine RL.done ?_ | refine RL.app0 ?_ | refine RL.app1 ?_) | (with_reducible refine RL.wanted ?_ ?_; exact rfl) | ((with_reducible show RH _ _ _ ⟨some 1, .box _ _, _, _, _, _⟩ _ _ _ _); (refine RH.boxAgg rfl rfl ?_; rintro _ _ ⟨b1, rfl, rfl⟩)) | ((with_reducible show RH _ _ _ ⟨_, .call ⟨.value (.func 96), _, _⟩, _, _, _, _⟩ _ _ _ _); refine RH.cP Try.call96 ?_; refine ⟨_, hA, ?_⟩; rintro _ _ ⟨rfl, rfl⟩) | ((with_reducible show RH _ _ _ ⟨_, .call ⟨.value (.func 162), _, _⟩, _, _, _, _⟩ _ _ _ _); refine RH.cP Try.call162 ?_; refine ⟨_, listHoms_c N N os os true hh, ?_⟩; rintro _ _ ⟨s, rfl, rfl⟩) | ((with_reducible show RH _ _ _ _ _ _ _ _); refine RH.val (hK := ?_)) | (with_reducible first | refine Run.seq ?_ | refine Run.region ?_ | refine Run.skip ?_ | refine Run.ret ?_) | (with_reducible show Run _ _ (.cond _ _ _) _ _ _; refine Run.condF rfl ?_) | (with_reducible refine seqN (K := Run _ _ _ _) ?_))
    all_goals first
      | (refine ⟨eA, _, [hsl (tS tInt) (vsv s) ((homsV (homS (N : Int) os N os true (fun _ => true) 301)).getD [])], resA, ?_, ?_⟩
         · exact SEnt.ch (.cons .head rfl .nil)
         · exact ⟨s, rfl, rfl⟩)
end Go.Proofs.Ytejeeokjjbiadaa
