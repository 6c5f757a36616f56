/- The statement FnDefinitionsSaid: for every input the law FnDefinitions answers true, and the input reads as it did. No conditions. -/
import Derived.Test.YtiifdhdhjioefaaRows
import Derived.Test.YtiifdhdhjioefaaDefinitions
import Derived.Test.YtiifdhdhjioefaaClose
import Derived.WalkKit
import Derived.ProofKit
import Derived.OpenShut
namespace Go.Proofs.Ytiifdhdhjioefaa.fnDefinitions
open Go Go.Proofs Go.Proofs.Ytiifdhdhjioefaa Go.Proofs.Ytiifdhdhjioefaa Go.ChangeShapes Go.WideShapes Go.ChangeAt Go.RowKit
set_option linter.unusedVariables false

theorem own : ownKnob Try.prog.godebug = none := by kernel_rfl

theorem readable : ∀ t ∈ [22], Try.prog.readableRec t = true ∧ t < Try.prog.types.size := by
  have h22 : Try.prog.readableRec 22 = true := by kernel_rfl
  have k22 : 22 < Try.prog.types.size := of_decide_eq_true (by kernel_rfl)
  intro t ht
  simp only [List.mem_cons, List.not_mem_nil, or_false] at ht
  subst ht
  · exact ⟨h22, k22⟩

set_option maxRecDepth 100000 in
theorem lifted (os : Os) (started : os.Started) (H : Type) (enc : TypeId × Value → H) :
    ReturnsInHanded {} Try.checked os 4 .any (Rows.fnDefinitionsSpec.pre6 enc Try.prog Try.f4 Rows.fnDefinitionsRow.domain false) (Rows.fnDefinitionsSpec.post enc Try.prog Try.f4 false true false false) := by
  refine returnsInHanded_of_change (C := Try.checked) own started (by kernel_rfl) Try.func4
    (ChangeSpec.witness6 (enc := enc) (C := Try.checked) false ⟨#[], #[.slice none 0 0], []⟩ 8 (by kernel_rfl) (by kernel_rfl) (by kernel_rfl) (by kernel_rfl)) ?_
  intro W base args ds gs before hval0 hW hcnd _
  have hval : ∀ (j : Nat) t v, Try.f4.params[j]? = some t → args[j]? = some v → Value.okWide Try.prog W .any base t v := hval0
  have hW2 := hW
  obtain ⟨p, q, hA0, hV, rfl, hfz, hnd⟩ := hW
  have hA : DataW.TrodAll enc Try.prog W 0 (fun _ => true) true Try.f4.params.toList args.toList ds p := hA0
  have hA1 := hA
  rw [Try.params4] at hA hval
  obtain ⟨v0, vs0, d0, ds0, p0, q0, hargs, rfl, rfl, h0, r0⟩ := trodAll_cons hA
  obtain ⟨rfl, rfl, rfl⟩ := trodAll_nil r0
  obtain rfl : args = #[v0] := by cases args; simp_all
  obtain ⟨rfl, rfl⟩ := trodVars_none hV
  obtain ⟨a0, g0, e0⟩ := (argOf_slice Try.underlying22 (show Try.prog.cellsOf 5 = 1 by kernel_rfl) (by decide) (reads_u8 Try.underlying5)).arg (hval 0 22 v0 rfl rfl) h0
  clear hA0 hval0
  refine (law_calls (law_c a0 g0) (W := W) (.cons e0 .nil)).mono fun e W2 ⟨he, hg⟩ => ?_
  subst he
  refine ⟨_, rfl, post_below (pv := []) hW2 (fun _ _ _ => (trodAll_cons_mk (shut_bool Try.underlying4 _) trodAll_mk0)) (fun sp hsp => trodAll_stays (by kernel_rfl) hg ?_ hA1 (fun x hx => hW2.lt x (List.mem_append_left _ hx)) (fun x hx => hsp x (List.mem_append_left _ hx))) (fun _ _ => rfl) rfl hg (ok_one (by kernel_rfl) rfl (okWide_bool_mk Try.underlying4 _))⟩
  rw [Try.params4]
  exact readable

theorem and_t {a b : Bool} (h : a = true) (k : b = true) : (a && b) = true := by rw [h, k]; rfl
theorem heard : (Try.prog.stopsHeard && Try.prog.mayEnter && (Rows.fnDefinitionsRow.lifted == Try.prog.liftsFinal)) = true := by kernel_rfl
set_option maxHeartbeats 16000000 in
theorem facts : joinedFacts Try.prog 4 Try.f4 Rows.fnDefinitionsSpec Rows.fnDefinitionsRow = true := by
  have h0 := heard
  rw [Bool.and_eq_true, Bool.and_eq_true] at h0
  obtain ⟨⟨hh, hm⟩, hl⟩ := h0
  unfold joinedFacts
  refine and_t (and_t (and_t (and_t (and_t (and_t (and_t (and_t ?_ hh) hm) hl) ?_) ?_) ?_) ?_) ?_
  all_goals (as_aux_lemma => kernel_rfl)
theorem named : Try.prog.funcNamed Rows.fnDefinitionsRow.func = some 4 := by kernel_rfl
theorem inst : Try.f4.isInstance Try.prog Rows.fnDefinitionsRow.origin Rows.fnDefinitionsRow.targs := of_decide_eq_true (by kernel_rfl)
theorem wrap : Try.f4.isWrapper Try.prog Rows.fnDefinitionsRow.wrapper Rows.fnDefinitionsRow.mainSum := by unfold Func.isWrapper; first | (rw [if_pos (by decide +kernel)]; kernel_rfl) | (rw [if_neg (by decide +kernel)]; exact ⟨rfl, rfl⟩)
theorem over : Rows.fnDefinitionsRow.holds Try.pinned (OpenSpec.ofChange Rows.fnDefinitionsSpec) :=
  OpenClaim.holds_of_wide 4 Try.f4 rfl rfl rfl rfl rfl rfl rfl ⟨rfl, rfl, rfl, rfl, rfl⟩ rfl rfl rfl rfl rfl named Try.func4 facts inst wrap
    (fun os started H enc _ => lifted os started H enc)

theorem proved : Rows.FnDefinitionsSaid := over
#print axioms proved
end Go.Proofs.Ytiifdhdhjioefaa.fnDefinitions
