/- From a contract of a law's function to the row's last step: the call ends, answers true, and leaves every old block as it was. Proved for every program; no conditions. -/
import Derived.Test.YtpifgpciopfhjaaCoreZ
import Derived.Below
import Derived.ChangeSame
import Derived.ProofKit
import Derived.OpenShut
namespace Go.Proofs.Ytpifgpciopfhjaa
open Go Go.RowKit Go.WideShapes Go.ChangeShapes

/-- the world as a law finds it: all that is there is left as it is -/
abbrev ctxOf (W : World) : Ctx := ⟨fun b => b < W.heap.size, fun _ => False, W⟩

theorem law_calls {P : Program} {f : FuncId} {ps : List VP} (h : Spec P f ps [] (fun r S' => r = vbool true ∧ S' = [])) {W : World} {vs : List Value} (ha : Args (ctxOf W) ps vs) :
    Calls P f vs.toArray W fun e W' => e = .returned (.bool true) ∧ Below W.heap.size W W' := by
  have hs : SH (ctxOf W) [] := ⟨[], .nil, by simp, by simp, fun b hb => hb.elim id False.elim, fun _ _ h => h.elim⟩
  refine (h.run (ctxOf W) vs ha hs).mono fun e w' ⟨v, F', r, S', he, hl, hr, _, hR, _⟩ => ?_
  subst hR
  have : v = .bool true := hr
  subst this
  exact ⟨he, hl.os, hl.tape, hl.output, hl.size, fun k hk => hl.heap k (.inl hk)⟩

section
variable {H : Type} {enc : TypeId × Value → H} {P : Program}
theorem post_below {f : Func} {s : ChangeSpec} {apart fresh handsOn again : Bool} {W W' : World} {args : Array Value} {v : Value} {ds gs : List (DataW H)} {before pa pv : List MemPlace}
    (hW : DataW.Whole enc P f.params.toList s.vars apart W args.toList ds gs before)
    (hres : ∀ (b : Nat) (sp : Nat → Bool) (hd : Bool), DataW.TrodAll enc P W' b sp hd f.resultTypes.toList (v.resultList f.resultTypes.size) (s.fn H (ds ++ gs)).results [])
    (hargs : ∀ sp : Nat → Bool, (∀ p ∈ before, sp p.block = true) → DataW.TrodAll enc P W' 0 sp true f.params.toList args.toList (s.fn H (ds ++ gs)).args pa)
    (hvars : ∀ sp : Nat → Bool, (∀ p ∈ before, sp p.block = true) → DataW.TrodVars enc P W' sp s.vars (s.fn H (ds ++ gs)).vars pv)
    (hps : before = pa ++ pv) (hb : Below W.heap.size W W')
    (hok : ∀ (j : Nat) (t : TypeId) (r : Value), f.resultTypes[j]? = some t → (v.resultList f.resultTypes.size)[j]? = some r → Value.okWide P W' .any 0 t r) :
    s.post enc P f apart fresh handsOn again W args v W' := by
  have hlt : ∀ p ∈ before, p.block < W.heap.size := fun p hp => hW.lt p hp
  have hold : ∀ p ∈ before, (fun b => decide (b < W.heap.size)) p.block = true := fun p hp => by simpa using hlt p hp
  refine ⟨ds, gs, before, [], pa, pv, hW, hres _ _ _, hargs _ hold, hvars _ hold, World.keptBut_mono (fun p hp => ⟨hp, .inr ?_⟩) (hb.frame (· ∈ before)), fun _ => ?_⟩
  · rwa [← List.mem_append, ← hps]
  · obtain ⟨_, _, _, _, _, hz, hn⟩ := hW
    refine ⟨hok, _, _, ([] ++ pa) ++ pv, ⟨[] ++ pa, pv, trodAll_append (hargs _ (fun _ _ => rfl)) (hres _ _ _), hvars _ (fun _ _ => rfl), rfl, fun b off hp => ?_, fun ha => ?_⟩, fun p hp _ => by rw [hps]; simpa using hp⟩
    · have hin : MemPlace.cell b off ∈ before := by rw [hps]; simpa using hp
      rw [hb.frozen (hlt _ hin)]
      exact hz b off hin
    · have := hn ha
      rw [hps] at this
      simpa using this
end
end Go.Proofs.Ytpifgpciopfhjaa
