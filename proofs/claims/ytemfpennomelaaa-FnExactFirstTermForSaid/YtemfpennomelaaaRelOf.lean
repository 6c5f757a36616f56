/- A list of one's own: spec.l1Own, impl.clone. Proved for this program; conditions: lengths below 2^42. -/
import Derived.Test.YtemfpennomelaaaTypes
import Derived.Test.YtemfpennomelaaaSrtF
import Derived.Test.YtemfpennomelaaaHrow
import Derived.Test.YtemfpennomelaaaSetP
import Derived.Test.YtemfpennomelaaaHas
import Derived.Test.YtemfpennomelaaaKeys
namespace Go.Proofs.Ytemfpennomelaaa
open Go Go.Proofs
set_option linter.unusedVariables false

set_option maxRecDepth 10000 in
theorem l1Own_c (p : List Int) (hp : p.length ≤ 4398046511104) :
    Spec Try.prog 25 [vsl 1 (fun x : Int => [vint x]) p] [] (fun r S' => ∃ s : Sv, r = vlit (vsv s) ∧ S' = [hsl tInt (vsv s) p]) := by
  refine Spec.of_run2 (n := 6) Try.func25 rfl Try.results25 Try.ntmps25 rfl ?_
  repeat' (first | (with_reducible refine RL.done ?_) | (with_reducible refine RL.wanted ?_ ?_; exact rfl) | ((with_reducible show RH _ _ _ ⟨some 3, .buildSlice _ _ _, _, _, _, _⟩ _ _ _ _); refine RH.eff rfl rfl (EOpS.e (EOpS.slit (fun x : Int => [vint x]) _ (fun _ _ => rfl) (by repeat (first | exact Elts.nil | (apply Elts.cons; exact rfl; exact CellsOf.one))) rfl rfl)) ?_; rintro _ _ ⟨b3, rfl, rfl⟩) | ((with_reducible show RH _ _ _ ⟨_, .call ⟨.builtin .append, _, _⟩, _, _, _, _⟩ _ _ _ _); refine RH.appV rfl rfl rfl (by with_reducible repeat (first | exact Plc.head | apply Plc.tail)) rfl (by decide) (by first | omega | (simp; omega)) (by first | omega | (simp; omega)) ?_; rintro _ _ ⟨b9, c9, rfl, rfl⟩) | ((with_reducible show RH _ _ _ _ _ _ _ _); refine RH.val (hK := ?_)) | (with_reducible first | refine Run.seq ?_ | refine Run.region ?_ | refine Run.ret ?_) | (with_reducible refine seqN (K := Run _ _ _ _) ?_))
  refine ⟨eA, _, [hsl tInt (vsv (some ⟨b9, 0, none⟩, 0 + p.length, c9)) p], resA, ?_, ?_⟩
  · exact SEnt.pack (rv := fun x : Int => .int .i64 x) (fun _ => rfl) (Nat.zero_add _)
  · exact ⟨(some ⟨b9, 0, none⟩, 0 + p.length, c9), rfl, rfl⟩
set_option maxRecDepth 10000 in
theorem clone_c (p : List Int) (hp : p.length ≤ 4398046511104) :
    Spec Try.prog 53 [vsl 1 (fun x : Int => [vint x]) p] [] (fun r S' => ∃ s : Sv, r = vlit (vsv s) ∧ S' = [hsl tInt (vsv s) p]) := by
  refine Spec.of_run2 (n := 6) Try.func53 rfl Try.results53 Try.ntmps53 rfl ?_
  repeat' (first | (with_reducible refine RL.done ?_) | (with_reducible refine RL.wanted ?_ ?_; exact rfl) | ((with_reducible show RH _ _ _ ⟨some 3, .buildSlice _ _ _, _, _, _, _⟩ _ _ _ _); refine RH.eff rfl rfl (EOpS.e (EOpS.slit (fun x : Int => [vint x]) _ (fun _ _ => rfl) (by repeat (first | exact Elts.nil | (apply Elts.cons; exact rfl; exact CellsOf.one))) rfl rfl)) ?_; rintro _ _ ⟨b3, rfl, rfl⟩) | ((with_reducible show RH _ _ _ ⟨_, .call ⟨.builtin .append, _, _⟩, _, _, _, _⟩ _ _ _ _); refine RH.appV rfl rfl rfl (by with_reducible repeat (first | exact Plc.head | apply Plc.tail)) rfl (by decide) (by first | omega | (simp; omega)) (by first | omega | (simp; omega)) ?_; rintro _ _ ⟨b9, c9, rfl, rfl⟩) | ((with_reducible show RH _ _ _ _ _ _ _ _); refine RH.val (hK := ?_)) | (with_reducible first | refine Run.seq ?_ | refine Run.region ?_ | refine Run.ret ?_) | (with_reducible refine seqN (K := Run _ _ _ _) ?_))
  refine ⟨eA, _, [hsl tInt (vsv (some ⟨b9, 0, none⟩, 0 + p.length, c9)) p], resA, ?_, ?_⟩
  · exact SEnt.pack (rv := fun x : Int => .int .i64 x) (fun _ => rfl) (Nat.zero_add _)
  · exact ⟨(some ⟨b9, 0, none⟩, 0 + p.length, c9), rfl, rfl⟩
end Go.Proofs.Ytemfpennomelaaa
/- Relations made of rows: impl.different, sortedTuples, makeRelation, spec.l8Put: the same set. Proved for this program; conditions: rows of one length, at most a thousand. -/
namespace Go.Proofs.Ytemfpennomelaaa
open Go Go.Proofs
set_option linter.unusedVariables false
theorem Spec.unrows {P : Program} {f : FuncId} {qs : List VP} {v : Value} {xs : List (List Int)} {S : List HP} {R : VP → List HP → Prop} (h : ∀ ps : PS, ps.map Prod.snd = xs → Spec P f qs (hsl tSv v (ps.map Prod.fst) :: hrows ps :: S) R) : Spec P f qs (hsl (tS tInt) v xs :: S) R :=
  ⟨fun c vs ha ⟨fs, hs⟩ => by
    obtain ⟨ps, h1, hs2⟩ := hs.unrows
    exact (h ps h1).run c vs ha hs2⟩
end Go.Proofs.Ytemfpennomelaaa
/- The meet of two relations: spec.MeetRelations, impl.MeetRelations: the same answer. Proved for this program; conditions: lengths below 2^42. -/
namespace Go.Proofs.Ytemfpennomelaaa
open Go Go.Proofs
set_option linter.unusedVariables false

end Go.Proofs.Ytemfpennomelaaa
/- Relations of rows: impl.cloneRows, sortedTuples, makeRelation; spec.RelationOf, impl.RelationOf: the same answer. Proved for this program; conditions: lengths below 2^42. -/
namespace Go.Proofs.Ytemfpennomelaaa
open Go Go.Proofs
set_option linter.unusedVariables false
end Go.Proofs.Ytemfpennomelaaa
