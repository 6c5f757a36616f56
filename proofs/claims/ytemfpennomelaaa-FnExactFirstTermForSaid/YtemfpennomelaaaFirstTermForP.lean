/- The statement FnExactFirstTermForSaid: for every input the law FnExactFirstTermFor answers true, and the input reads as it did. No conditions. -/
import Derived.Test.YtemfpennomelaaaRows
import Derived.Test.YtemfpennomelaaaFirstTermFor
import Derived.Test.YtemfpennomelaaaClose
import Derived.WalkKit
import Derived.ProofKit
import Derived.OpenShut
namespace Go.Proofs.Ytemfpennomelaaa.fnExactFirstTermFor
open Go Go.Proofs Go.Proofs.Ytemfpennomelaaa Go.Proofs.Ytemfpennomelaaa Go.ChangeShapes Go.WideShapes Go.ChangeAt Go.RowKit
set_option linter.unusedVariables false

theorem own : ownKnob Try.prog.godebug = none := by kernel_rfl

theorem readable : ∀ t ∈ [24, 3, 25, 26], Try.prog.readableRec t = true ∧ t < Try.prog.types.size := by
  have h3 : Try.prog.readableRec 3 = true := by kernel_rfl
  have k3 : 3 < Try.prog.types.size := of_decide_eq_true (by kernel_rfl)
  have h24 : Try.prog.readableRec 24 = true := by kernel_rfl
  have k24 : 24 < Try.prog.types.size := of_decide_eq_true (by kernel_rfl)
  have h25 : Try.prog.readableRec 25 = true := by kernel_rfl
  have k25 : 25 < Try.prog.types.size := of_decide_eq_true (by kernel_rfl)
  have h26 : Try.prog.readableRec 26 = true := by kernel_rfl
  have k26 : 26 < Try.prog.types.size := of_decide_eq_true (by kernel_rfl)
  intro t ht
  simp only [List.mem_cons, List.not_mem_nil, or_false] at ht
  rcases ht with rfl | rfl | rfl | rfl
  · exact ⟨h24, k24⟩
  · exact ⟨h3, k3⟩
  · exact ⟨h25, k25⟩
  · exact ⟨h26, k26⟩

set_option maxRecDepth 100000 in
theorem lifted (os : Os) (started : os.Started) (H : Type) (enc : TypeId × Value → H) :
    ReturnsInHanded {} Try.checked os 3 .any (Rows.fnExactFirstTermForSpec.pre6 enc Try.prog Try.f3 Rows.fnExactFirstTermForRow.domain false) (Rows.fnExactFirstTermForSpec.post enc Try.prog Try.f3 false true false false) := by
  refine returnsInHanded_of_change (C := Try.checked) own started (by kernel_rfl) Try.func3
    (ChangeSpec.witness6 (enc := enc) (C := Try.checked) false ⟨#[], #[.agg #[.int .i64 0, .slice none 0 0], .int .i64 0, .slice none 0 0, .slice none 0 0], []⟩ 8 (by kernel_rfl) (by kernel_rfl) (by kernel_rfl) (by kernel_rfl)) ?_
  intro W base args ds gs before hval0 hW hcnd _
  have hval : ∀ (j : Nat) t v, Try.f3.params[j]? = some t → args[j]? = some v → Value.okWide Try.prog W .any base t v := hval0
  have hW2 := hW
  obtain ⟨p, q, hA0, hV, rfl, hfz, hnd⟩ := hW
  have hA : DataW.TrodAll enc Try.prog W 0 (fun _ => true) true Try.f3.params.toList args.toList ds p := hA0
  have hA1 := hA
  rw [Try.params3] at hA hval
  obtain ⟨v0, vs0, d0, ds0, p0, q0, hargs, rfl, rfl, h0, r0⟩ := trodAll_cons hA
  obtain ⟨v1, vs1, d1, ds1, p1, q1, rfl, rfl, rfl, h1, r1⟩ := trodAll_cons r0
  obtain ⟨v2, vs2, d2, ds2, p2, q2, rfl, rfl, rfl, h2, r2⟩ := trodAll_cons r1
  obtain ⟨v3, vs3, d3, ds3, p3, q3, rfl, rfl, rfl, h3, r3⟩ := trodAll_cons r2
  obtain ⟨rfl, rfl, rfl⟩ := trodAll_nil r3
  obtain rfl : args = #[v0, v1, v2, v3] := by cases args; simp_all
  obtain ⟨rfl, rfl⟩ := trodVars_none hV
  obtain ⟨a0, g0, e0⟩ := (argOf_struct Try.underlying24 (reads_pair Try.underlying24 rfl rfl rfl rfl rfl rfl (show Try.prog.cellsOf 3 = 1 by kernel_rfl) (show Try.prog.cellsOf 22 = 1 by kernel_rfl) (show Try.prog.cellsOf 24 = 1 + 1 by kernel_rfl) (reads_int Try.underlying3) (reads_slice Try.underlying22 (show Try.prog.cellsOf 63 = 2 by kernel_rfl) (by decide) (reads_pair Try.underlying63 rfl rfl rfl rfl rfl rfl (show Try.prog.cellsOf 3 = 1 by kernel_rfl) (show Try.prog.cellsOf 26 = 1 by kernel_rfl) (show Try.prog.cellsOf 63 = 1 + 1 by kernel_rfl) (reads_int Try.underlying3) (reads_slice Try.underlying26 (show Try.prog.cellsOf 3 = 1 by kernel_rfl) (by decide) (reads_int Try.underlying3)))))).arg (hval 0 24 v0 rfl rfl) h0
  obtain ⟨a1, g1, e1⟩ := (argOf_int Try.underlying3).arg (hval 1 3 v1 rfl rfl) h1
  obtain ⟨a2, g2, e2⟩ := (argOf_slice Try.underlying25 (show Try.prog.cellsOf 26 = 1 by kernel_rfl) (by decide) (reads_slice Try.underlying26 (show Try.prog.cellsOf 3 = 1 by kernel_rfl) (by decide) (reads_int Try.underlying3))).arg (hval 2 25 v2 rfl rfl) h2
  obtain ⟨a3, g3, e3⟩ := (argOf_slice Try.underlying26 (show Try.prog.cellsOf 3 = 1 by kernel_rfl) (by decide) (reads_int Try.underlying3)).arg (hval 3 26 v3 rfl rfl) h3
  clear hA0 hval0
  refine (law_calls (law_c a0 a1 a2 a3 g0 g1 g2 g3) (W := W) (.cons e0 (.cons e1 (.cons e2 (.cons e3 .nil))))).mono fun e W2 ⟨he, hg⟩ => ?_
  subst he
  refine ⟨_, rfl, post_below (pv := []) hW2 (fun _ _ _ => (trodAll_cons_mk (shut_bool Try.underlying4 _) trodAll_mk0)) (fun sp hsp => trodAll_stays (by kernel_rfl) hg ?_ hA1 (fun x hx => hW2.lt x (List.mem_append_left _ hx)) (fun x hx => hsp x (List.mem_append_left _ hx))) (fun _ _ => rfl) rfl hg (ok_one (by kernel_rfl) rfl (okWide_bool_mk Try.underlying4 _))⟩
  rw [Try.params3]
  exact readable

theorem and_t {a b : Bool} (h : a = true) (k : b = true) : (a && b) = true := by rw [h, k]; rfl
theorem heard : (Try.prog.stopsHeard && Try.prog.mayEnter && (Rows.fnExactFirstTermForRow.lifted == Try.prog.liftsFinal)) = true := by kernel_rfl
set_option maxHeartbeats 16000000 in
theorem facts : joinedFacts Try.prog 3 Try.f3 Rows.fnExactFirstTermForSpec Rows.fnExactFirstTermForRow = true := by
  have h0 := heard
  rw [Bool.and_eq_true, Bool.and_eq_true] at h0
  obtain ⟨⟨hh, hm⟩, hl⟩ := h0
  unfold joinedFacts
  refine and_t (and_t (and_t (and_t (and_t (and_t (and_t (and_t ?_ hh) hm) hl) ?_) ?_) ?_) ?_) ?_
  all_goals (as_aux_lemma => kernel_rfl)
theorem named : Try.prog.funcNamed Rows.fnExactFirstTermForRow.func = some 3 := by kernel_rfl
theorem inst : Try.f3.isInstance Try.prog Rows.fnExactFirstTermForRow.origin Rows.fnExactFirstTermForRow.targs := of_decide_eq_true (by kernel_rfl)
theorem wrap : Try.f3.isWrapper Try.prog Rows.fnExactFirstTermForRow.wrapper Rows.fnExactFirstTermForRow.mainSum := by unfold Func.isWrapper; first | (rw [if_pos (by decide +kernel)]; kernel_rfl) | (rw [if_neg (by decide +kernel)]; exact ⟨rfl, rfl⟩)
theorem over : Rows.fnExactFirstTermForRow.holds Try.pinned (OpenSpec.ofChange Rows.fnExactFirstTermForSpec) :=
  OpenClaim.holds_of_wide 3 Try.f3 rfl rfl rfl rfl rfl rfl rfl ⟨rfl, rfl, rfl, rfl, rfl⟩ rfl rfl rfl rfl rfl named Try.func3 facts inst wrap
    (fun os started H enc _ => lifted os started H enc)

theorem proved : Rows.FnExactFirstTermForSaid := over
#print axioms proved
end Go.Proofs.Ytemfpennomelaaa.fnExactFirstTermFor
