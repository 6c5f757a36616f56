/- The statement FnExactRefutingRowsSaid: for every input the law FnExactRefutingRows answers true, and the input reads as it did. No conditions. -/
import Derived.Test.YtiifdhdhjioefaaRows
import Derived.Test.YtiifdhdhjioefaaRefutingRows
import Derived.Test.YtiifdhdhjioefaaClose
import Derived.WalkKit
import Derived.ProofKit
import Derived.OpenShut
namespace Go.Proofs.Ytiifdhdhjioefaa.fnExactRefutingRows
open Go Go.Proofs Go.Proofs.Ytiifdhdhjioefaa Go.Proofs.Ytiifdhdhjioefaa Go.ChangeShapes Go.WideShapes Go.ChangeAt Go.RowKit
set_option linter.unusedVariables false

theorem own : ownKnob Try.prog.godebug = none := by kernel_rfl

theorem readable : ∀ t ∈ [62, 81], Try.prog.readableRec t = true ∧ t < Try.prog.types.size := by
  have h62 : Try.prog.readableRec 62 = true := by kernel_rfl
  have k62 : 62 < Try.prog.types.size := of_decide_eq_true (by kernel_rfl)
  have h81 : Try.prog.readableRec 81 = true := by kernel_rfl
  have k81 : 81 < Try.prog.types.size := of_decide_eq_true (by kernel_rfl)
  intro t ht
  simp only [List.mem_cons, List.not_mem_nil, or_false] at ht
  rcases ht with rfl | rfl
  · exact ⟨h62, k62⟩
  · exact ⟨h81, k81⟩

set_option maxRecDepth 100000 in
theorem lifted (os : Os) (started : os.Started) (H : Type) (enc : TypeId × Value → H) :
    ReturnsInHanded {} Try.checked os 6 .any (Rows.fnExactRefutingRowsSpec.pre6 enc Try.prog Try.f6 Rows.fnExactRefutingRowsRow.domain false) (Rows.fnExactRefutingRowsSpec.post enc Try.prog Try.f6 false true false false) := by
  refine returnsInHanded_of_change (C := Try.checked) own started (by kernel_rfl) Try.func6
    (ChangeSpec.witness6 (enc := enc) (C := Try.checked) false ⟨#[], #[.agg #[.int .i64 0, .slice none 0 0], .agg #[.int .i64 0, .slice none 0 0]], []⟩ 8 (by kernel_rfl) (by kernel_rfl) (by kernel_rfl) (by kernel_rfl)) ?_
  intro W base args ds gs before hval0 hW hcnd _
  have hval : ∀ (j : Nat) t v, Try.f6.params[j]? = some t → args[j]? = some v → Value.okWide Try.prog W .any base t v := hval0
  have hW2 := hW
  obtain ⟨p, q, hA0, hV, rfl, hfz, hnd⟩ := hW
  have hA : DataW.TrodAll enc Try.prog W 0 (fun _ => true) true Try.f6.params.toList args.toList ds p := hA0
  have hA1 := hA
  rw [Try.params6] at hA hval
  obtain ⟨v0, vs0, d0, ds0, p0, q0, hargs, rfl, rfl, h0, r0⟩ := trodAll_cons hA
  obtain ⟨v1, vs1, d1, ds1, p1, q1, rfl, rfl, rfl, h1, r1⟩ := trodAll_cons r0
  obtain ⟨rfl, rfl, rfl⟩ := trodAll_nil r1
  obtain rfl : args = #[v0, v1] := by cases args; simp_all
  obtain ⟨rfl, rfl⟩ := trodVars_none hV
  obtain ⟨a0, g0, e0⟩ := (argOf_struct Try.underlying62 (reads_pair Try.underlying62 rfl rfl rfl rfl rfl rfl (show Try.prog.cellsOf 3 = 1 by kernel_rfl) (show Try.prog.cellsOf 60 = 1 by kernel_rfl) (show Try.prog.cellsOf 62 = 1 + 1 by kernel_rfl) (reads_int Try.underlying3) (reads_slice Try.underlying60 (show Try.prog.cellsOf 177 = 2 by kernel_rfl) (by decide) (reads_pair Try.underlying177 rfl rfl rfl rfl rfl rfl (show Try.prog.cellsOf 3 = 1 by kernel_rfl) (show Try.prog.cellsOf 35 = 1 by kernel_rfl) (show Try.prog.cellsOf 177 = 1 + 1 by kernel_rfl) (reads_int Try.underlying3) (reads_slice Try.underlying35 (show Try.prog.cellsOf 3 = 1 by kernel_rfl) (by decide) (reads_int Try.underlying3)))))).arg (hval 0 62 v0 rfl rfl) h0
  obtain ⟨a1, g1, e1⟩ := (argOf_struct Try.underlying81 (reads_pair Try.underlying81 rfl rfl rfl rfl rfl rfl (show Try.prog.cellsOf 3 = 1 by kernel_rfl) (show Try.prog.cellsOf 79 = 1 by kernel_rfl) (show Try.prog.cellsOf 81 = 1 + 1 by kernel_rfl) (reads_int Try.underlying3) (reads_slice Try.underlying79 (show Try.prog.cellsOf 190 = 2 by kernel_rfl) (by decide) (reads_pair Try.underlying190 rfl rfl rfl rfl rfl rfl (show Try.prog.cellsOf 35 = 1 by kernel_rfl) (show Try.prog.cellsOf 35 = 1 by kernel_rfl) (show Try.prog.cellsOf 190 = 1 + 1 by kernel_rfl) (reads_slice Try.underlying35 (show Try.prog.cellsOf 3 = 1 by kernel_rfl) (by decide) (reads_int Try.underlying3)) (reads_slice Try.underlying35 (show Try.prog.cellsOf 3 = 1 by kernel_rfl) (by decide) (reads_int Try.underlying3)))))).arg (hval 1 81 v1 rfl rfl) h1
  clear hA0 hval0
  refine (law_calls (law_c a0 a1 g0 g1) (W := W) (.cons e0 (.cons e1 .nil))).mono fun e W2 ⟨he, hg⟩ => ?_
  subst he
  refine ⟨_, rfl, post_below (pv := []) hW2 (fun _ _ _ => (trodAll_cons_mk (shut_bool Try.underlying4 _) trodAll_mk0)) (fun sp hsp => trodAll_stays (by kernel_rfl) hg ?_ hA1 (fun x hx => hW2.lt x (List.mem_append_left _ hx)) (fun x hx => hsp x (List.mem_append_left _ hx))) (fun _ _ => rfl) rfl hg (ok_one (by kernel_rfl) rfl (okWide_bool_mk Try.underlying4 _))⟩
  rw [Try.params6]
  exact readable

theorem and_t {a b : Bool} (h : a = true) (k : b = true) : (a && b) = true := by rw [h, k]; rfl
theorem heard : (Try.prog.stopsHeard && Try.prog.mayEnter && (Rows.fnExactRefutingRowsRow.lifted == Try.prog.liftsFinal)) = true := by kernel_rfl
set_option maxHeartbeats 16000000 in
theorem facts : joinedFacts Try.prog 6 Try.f6 Rows.fnExactRefutingRowsSpec Rows.fnExactRefutingRowsRow = true := by
  have h0 := heard
  rw [Bool.and_eq_true, Bool.and_eq_true] at h0
  obtain ⟨⟨hh, hm⟩, hl⟩ := h0
  unfold joinedFacts
  refine and_t (and_t (and_t (and_t (and_t (and_t (and_t (and_t ?_ hh) hm) hl) ?_) ?_) ?_) ?_) ?_
  all_goals (as_aux_lemma => kernel_rfl)
theorem named : Try.prog.funcNamed Rows.fnExactRefutingRowsRow.func = some 6 := by kernel_rfl
theorem inst : Try.f6.isInstance Try.prog Rows.fnExactRefutingRowsRow.origin Rows.fnExactRefutingRowsRow.targs := of_decide_eq_true (by kernel_rfl)
theorem wrap : Try.f6.isWrapper Try.prog Rows.fnExactRefutingRowsRow.wrapper Rows.fnExactRefutingRowsRow.mainSum := by unfold Func.isWrapper; first | (rw [if_pos (by decide +kernel)]; kernel_rfl) | (rw [if_neg (by decide +kernel)]; exact ⟨rfl, rfl⟩)
theorem over : Rows.fnExactRefutingRowsRow.holds Try.pinned (OpenSpec.ofChange Rows.fnExactRefutingRowsSpec) :=
  OpenClaim.holds_of_wide 6 Try.f6 rfl rfl rfl rfl rfl rfl rfl ⟨rfl, rfl, rfl, rfl, rfl⟩ rfl rfl rfl rfl rfl named Try.func6 facts inst wrap
    (fun os started H enc _ => lifted os started H enc)

theorem proved : Rows.FnExactRefutingRowsSaid := over
#print axioms proved
end Go.Proofs.Ytiifdhdhjioefaa.fnExactRefutingRows
