/- The tied card FnExactConditionNamedCardSaid: for every input the law FnExactConditionNamed answers true, and the input reads as it did; the tables that the row lists are tied to the program's text by the given tie. No conditions. -/
import Derived.Test.YtemfpennomelaaaDoorRows
import Derived.Test.YtemfpennomelaaaDoorTie
import Derived.Test.YtemfpennomelaaaDoorCards
import Derived.Test.YtemfpennomelaaaDoorConditionNamed
import Derived.Test.YtemfpennomelaaaDoorClose
import Derived.WalkKit
import Derived.ProofKit
import Derived.OpenShut
import Derived.LaidMore
import Derived.Lay
import Derived.Stop.Joined
import Derived.SevenTiedAt
namespace Go.Proofs.YtemfpennomelaaaDoor.fnExactConditionNamed
open Go Go.Proofs Go.Proofs.YtemfpennomelaaaDoor Go.Proofs.YtemfpennomelaaaDoor Go.ChangeShapes Go.WideShapes Go.ChangeAt Go.RowKit
set_option linter.unusedVariables false

theorem own : ownKnob Tryd.prog.godebug = none := by kernel_rfl

theorem readable : ∀ t ∈ [9], Tryd.prog.readableRec t = true ∧ t < Tryd.prog.types.size := by
  have h9 : Tryd.prog.readableRec 9 = true := by kernel_rfl
  have k9 : 9 < Tryd.prog.types.size := of_decide_eq_true (by kernel_rfl)
  intro t ht
  simp only [List.mem_cons, List.not_mem_nil, or_false] at ht
  subst ht
  · exact ⟨h9, k9⟩

/-- a world in which the listed tables lie meets the row's condition -/
theorem start_met (os : Os) (args : Array Value) : laidMetH Tryd.prog Rows.fnExactConditionNamedRow.laid ((World.laidAll Tryd.prog os Rows.fnExactConditionNamedRow.laid).forCall (fun _ _ => 0) ⟨#[], args, []⟩).memory := by
  rw [MakeChecks.laidMetH_plain _ _ _ (by kernel_rfl)]
  exact laidMet_laidAll _ (by kernel_rfl) (by kernel_rfl)
set_option maxRecDepth 100000 in
theorem lifted (os : Os) (started : os.Started) (H : Type) (enc : TypeId × Value → H) :
    ReturnsInHanded {} Tryd.checked os 3 .any (fun w args => (Rows.fnExactConditionNamedSpec.pre enc Tryd.prog Tryd.f3 [] false w args ∧ laidMetH Tryd.prog Rows.fnExactConditionNamedRow.laid w) ∧ sizedMet enc Tryd.prog Tryd.f3 (OpenSpec.ofChange Rows.fnExactConditionNamedSpec) false w args)
      (Rows.fnExactConditionNamedSpec.post enc Tryd.prog Tryd.f3 false true false false) := by
  refine returnsInHanded_of_change_and (C := Tryd.checked) (X := fun w _ => laidMetH Tryd.prog Rows.fnExactConditionNamedRow.laid w) (fun _ _ _ hh h => h.of_heap hh) own started (by kernel_rfl) Tryd.func3
    (ChangeSpec.witness_shaped (enc := enc) (C := Tryd.checked) (os := os) (X := fun w _ => laidMetH Tryd.prog Rows.fnExactConditionNamedRow.laid w) false (World.laidAll Tryd.prog os Rows.fnExactConditionNamedRow.laid) #[.string .empty] 8 (World.laidAll_os _ _ _) (World.shaped_of_ZipB (by kernel_rfl) (by kernel_rfl)) (by kernel_rfl) (by kernel_rfl) (by kernel_rfl) (start_met os _)) ?_
  intro W base args ds gs before hval0 hW _ _ _ _
  have hval : ∀ (j : Nat) t v, Tryd.f3.params[j]? = some t → args[j]? = some v → Value.okWide Tryd.prog W .any base t v := hval0
  have hW2 := hW
  obtain ⟨p, q, hA0, hV, rfl, hfz, hnd⟩ := hW
  have hA : DataW.TrodAll enc Tryd.prog W 0 (fun _ => true) true Tryd.f3.params.toList args.toList ds p := hA0
  have hA1 := hA
  rw [Tryd.params3] at hA hval
  obtain ⟨v0, vs0, d0, ds0, p0, q0, hargs, rfl, rfl, h0, r0⟩ := trodAll_cons hA
  obtain ⟨rfl, rfl, rfl⟩ := trodAll_nil r0
  obtain rfl : args = #[v0] := by cases args; simp_all
  obtain ⟨rfl, rfl⟩ := trodVars_none hV
  obtain ⟨a0, g0, e0⟩ := (argOf_string Tryd.underlying9).arg (hval 0 9 v0 rfl rfl) h0
  clear hA0 hval0
  refine (law_calls (law_c a0 g0) (W := W) (.cons e0 .nil)).mono fun e W2 ⟨he, hg⟩ => ?_
  subst he
  refine ⟨_, rfl, post_below (pv := []) hW2 (fun _ _ _ => (trodAll_cons_mk (shut_bool Tryd.underlying4 _) trodAll_mk0)) (fun sp hsp => trodAll_stays (by kernel_rfl) hg ?_ hA1 (fun x hx => hW2.lt x (List.mem_append_left _ hx)) (fun x hx => hsp x (List.mem_append_left _ hx))) (fun _ _ => rfl) rfl hg (ok_one (by kernel_rfl) rfl (okWide_bool_mk Tryd.underlying4 _))⟩
  rw [Tryd.params3]
  exact readable

theorem and_t {a b : Bool} (h : a = true) (k : b = true) : (a && b) = true := by rw [h, k]; rfl
theorem heard : (Tryd.prog.stopsHeard && Tryd.prog.mayEnter && (Rows.fnExactConditionNamedRow.lifted == Tryd.prog.liftsFinal)) = true := by kernel_rfl
set_option maxHeartbeats 16000000 in
theorem facts : joinedFacts Tryd.prog 3 Tryd.f3 Rows.fnExactConditionNamedSpec Rows.fnExactConditionNamedRow = true := by
  have h0 := heard
  rw [Bool.and_eq_true, Bool.and_eq_true] at h0
  obtain ⟨⟨hh, hm⟩, hl⟩ := h0
  unfold joinedFacts
  refine and_t (and_t (and_t (and_t (and_t (and_t (and_t (and_t ?_ hh) hm) hl) ?_) ?_) ?_) ?_) ?_
  all_goals (as_aux_lemma => kernel_rfl)
theorem named : Tryd.prog.funcNamed Rows.fnExactConditionNamedRow.func = some 3 := by kernel_rfl
theorem inst : Tryd.f3.isInstance Tryd.prog Rows.fnExactConditionNamedRow.origin Rows.fnExactConditionNamedRow.targs := of_decide_eq_true (by kernel_rfl)
theorem wrap : Tryd.f3.isWrapper Tryd.prog Rows.fnExactConditionNamedRow.wrapper Rows.fnExactConditionNamedRow.mainSum := by unfold Func.isWrapper; first | (rw [if_pos (by decide +kernel)]; kernel_rfl) | (rw [if_neg (by decide +kernel)]; exact ⟨rfl, rfl⟩)
theorem over : Rows.fnExactConditionNamedRow.holds Tryd.pinned (OpenSpec.ofChange Rows.fnExactConditionNamedSpec) :=
  OpenClaim.holds_of_wide 3 Tryd.f3 rfl rfl rfl rfl rfl rfl rfl ⟨rfl, rfl, rfl, rfl, rfl⟩ rfl rfl rfl rfl rfl named Tryd.func3 facts inst wrap
    (fun os started H enc _ => lifted os started H enc)

theorem said : Rows.FnExactConditionNamedSaid := over
theorem proved : Rows.FnExactConditionNamedCardSaid :=
  Claim7.holds_tied_plain_at .later [] _ true _ false said (fun _ h => by cases h) (by kernel_rfl) (fun _ h => by cases h) fnExactConditionNamed_row_tie rfl ⟨rfl, rfl⟩ (by kernel_rfl) rfl
    (fun f fn hf hfn => by
      obtain rfl : f = 3 := Option.some.inj (hf.symm.trans named)
      obtain rfl : fn = Tryd.f3 := Option.some.inj (hfn.symm.trans Tryd.func3)
      exact ⟨by kernel_rfl, fun j t ht => by
        rw [Tryd.params3] at ht
        have hm : t ∈ [9] := by simpa using Array.mem_of_getElem? ht
        have hall : ([9].all fun u => !Tryd.prog.wantsStandIn u) = true := by kernel_rfl
        exact (show Tryd.prog.wantsStandIn t = false by simpa using List.all_eq_true.1 hall t hm)⟩)
    (by kernel_rfl)
#print axioms proved
end Go.Proofs.YtemfpennomelaaaDoor.fnExactConditionNamed
