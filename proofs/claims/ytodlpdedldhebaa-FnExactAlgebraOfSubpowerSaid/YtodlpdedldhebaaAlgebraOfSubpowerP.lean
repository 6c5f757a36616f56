/- The statement FnExactAlgebraOfSubpowerSaid: for every input the law FnExactAlgebraOfSubpower answers true, and the input reads as it did. No conditions. -/
import Derived.Test.YtodlpdedldhebaaRows
import Derived.Test.YtodlpdedldhebaaAlgebraOfSubpower
import Derived.Test.YtodlpdedldhebaaClose
import Derived.WalkKit
import Derived.ProofKit
import Derived.OpenShut
namespace Go.Proofs.Ytodlpdedldhebaa.fnExactAlgebraOfSubpower
open Go Go.Proofs Go.Proofs.Ytodlpdedldhebaa Go.Proofs.Ytodlpdedldhebaa Go.ChangeShapes Go.WideShapes Go.ChangeAt Go.RowKit
set_option linter.unusedVariables false

theorem own : ownKnob Try.prog.godebug = none := by kernel_rfl

theorem readable : ∀ t ∈ [50, 3, 22], Try.prog.readableRec t = true ∧ t < Try.prog.types.size := by
  have h3 : Try.prog.readableRec 3 = true := by kernel_rfl
  have k3 : 3 < Try.prog.types.size := of_decide_eq_true (by kernel_rfl)
  have h22 : Try.prog.readableRec 22 = true := by kernel_rfl
  have k22 : 22 < Try.prog.types.size := of_decide_eq_true (by kernel_rfl)
  have h50 : Try.prog.readableRec 50 = true := by kernel_rfl
  have k50 : 50 < Try.prog.types.size := of_decide_eq_true (by kernel_rfl)
  intro t ht
  simp only [List.mem_cons, List.not_mem_nil, or_false] at ht
  rcases ht with rfl | rfl | rfl
  · exact ⟨h50, k50⟩
  · exact ⟨h3, k3⟩
  · exact ⟨h22, k22⟩

set_option maxRecDepth 100000 in
theorem lifted (os : Os) (started : os.Started) (H : Type) (enc : TypeId × Value → H) :
    ReturnsInHanded {} Try.checked os 12 .any (Rows.fnExactAlgebraOfSubpowerSpec.pre6 enc Try.prog Try.f12 Rows.fnExactAlgebraOfSubpowerRow.domain false) (Rows.fnExactAlgebraOfSubpowerSpec.post enc Try.prog Try.f12 false true false false) := by
  refine returnsInHanded_of_change (C := Try.checked) own started (by kernel_rfl) Try.func12
    (ChangeSpec.witness6 (enc := enc) (C := Try.checked) false ⟨#[], #[.agg #[.int .i64 0, .slice none 0 0], .int .i64 0, .slice none 0 0], []⟩ 8 (by kernel_rfl) (by kernel_rfl) (by kernel_rfl) (by kernel_rfl)) ?_
  intro W base args ds gs before hval0 hW hcnd _
  have hval : ∀ (j : Nat) t v, Try.f12.params[j]? = some t → args[j]? = some v → Value.okWide Try.prog W .any base t v := hval0
  have hW2 := hW
  obtain ⟨p, q, hA0, hV, rfl, hfz, hnd⟩ := hW
  have hA : DataW.TrodAll enc Try.prog W 0 (fun _ => true) true Try.f12.params.toList args.toList ds p := hA0
  have hA1 := hA
  rw [Try.params12] at hA hval
  obtain ⟨v0, vs0, d0, ds0, p0, q0, hargs, rfl, rfl, h0, r0⟩ := trodAll_cons hA
  obtain ⟨v1, vs1, d1, ds1, p1, q1, rfl, rfl, rfl, h1, r1⟩ := trodAll_cons r0
  obtain ⟨v2, vs2, d2, ds2, p2, q2, rfl, rfl, rfl, h2, r2⟩ := trodAll_cons r1
  obtain ⟨rfl, rfl, rfl⟩ := trodAll_nil r2
  obtain rfl : args = #[v0, v1, v2] := by cases args; simp_all
  obtain ⟨rfl, rfl⟩ := trodVars_none hV
  obtain ⟨a0, g0, e0⟩ := (argOf_struct Try.underlying50 (reads_pair Try.underlying50 rfl rfl rfl rfl rfl rfl (show Try.prog.cellsOf 3 = 1 by kernel_rfl) (show Try.prog.cellsOf 48 = 1 by kernel_rfl) (show Try.prog.cellsOf 50 = 1 + 1 by kernel_rfl) (reads_int Try.underlying3) (reads_slice Try.underlying48 (show Try.prog.cellsOf 113 = 2 by kernel_rfl) (by decide) (reads_pair Try.underlying113 rfl rfl rfl rfl rfl rfl (show Try.prog.cellsOf 3 = 1 by kernel_rfl) (show Try.prog.cellsOf 40 = 1 by kernel_rfl) (show Try.prog.cellsOf 113 = 1 + 1 by kernel_rfl) (reads_int Try.underlying3) (reads_slice Try.underlying40 (show Try.prog.cellsOf 3 = 1 by kernel_rfl) (by decide) (reads_int Try.underlying3)))))).arg (hval 0 50 v0 rfl rfl) h0
  obtain ⟨a1, g1, e1⟩ := (argOf_int Try.underlying3).arg (hval 1 3 v1 rfl rfl) h1
  obtain ⟨a2, g2, e2⟩ := (argOf_slice Try.underlying22 (show Try.prog.cellsOf 40 = 1 by kernel_rfl) (by decide) (reads_slice Try.underlying40 (show Try.prog.cellsOf 3 = 1 by kernel_rfl) (by decide) (reads_int Try.underlying3))).arg (hval 2 22 v2 rfl rfl) h2
  clear hA0 hval0
  refine (law_calls (law_c a0 a1 a2 g0 g1 g2) (W := W) (.cons e0 (.cons e1 (.cons e2 .nil)))).mono fun e W2 ⟨he, hg⟩ => ?_
  subst he
  refine ⟨_, rfl, post_below (pv := []) hW2 (fun _ _ _ => (trodAll_cons_mk (shut_bool Try.underlying4 _) trodAll_mk0)) (fun sp hsp => trodAll_stays (by kernel_rfl) hg ?_ hA1 (fun x hx => hW2.lt x (List.mem_append_left _ hx)) (fun x hx => hsp x (List.mem_append_left _ hx))) (fun _ _ => rfl) rfl hg (ok_one (by kernel_rfl) rfl (okWide_bool_mk Try.underlying4 _))⟩
  rw [Try.params12]
  exact readable

theorem over : Rows.fnExactAlgebraOfSubpowerRow.holds Try.pinned (OpenSpec.ofChange Rows.fnExactAlgebraOfSubpowerSpec) :=
  OpenClaim.holds_of_wide 12 Try.f12 rfl rfl rfl rfl rfl rfl rfl ⟨rfl, rfl, rfl, rfl, rfl⟩ rfl rfl rfl rfl rfl (by kernel_rfl) Try.func12 (by kernel_rfl)
    (of_decide_eq_true (by kernel_rfl)) (by unfold Func.isWrapper; first | (rw [if_pos (by decide +kernel)]; kernel_rfl) | (rw [if_neg (by decide +kernel)]; exact ⟨rfl, rfl⟩))
    (fun os started H enc _ => lifted os started H enc)

theorem proved : Rows.FnExactAlgebraOfSubpowerSaid := over
#print axioms proved
end Go.Proofs.Ytodlpdedldhebaa.fnExactAlgebraOfSubpower
