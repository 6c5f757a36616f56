/- The derivation of a term function: spec.l12Copy, DerivationOf, impl.DerivationOf: the same answer. Proved for this program; conditions: lengths below 2^62. -/
import Derived.Test.YtiifdhdhjioefaaTermFn
namespace Go.Proofs.Ytiifdhdhjioefaa
open Go Go.Proofs
set_option linter.unusedVariables false

abbrev Stp := Int × List Int
/-- the steps of a clone have few arguments -/
def StpOk (c : CS) : Prop := ∀ s ∈ c.2, s.2.length ≤ 3
theorem stp_succ (xs : List Stp) (j : Nat) (h : j < xs.length) : xs.take (j + 1) = xs.take j ++ [(xs[j].1, xs[j].2)] := by
  rw [List.take_add_one, List.getElem?_eq_getElem h]; rfl
set_option maxRecDepth 10000 in
set_option maxHeartbeats 1000000 in
theorem l12Copy_c (xs : List Stp) (hl : xs.length ≤ 1024) (hr : ∀ t ∈ xs, t.2.length ≤ 4398046511104) :
    Spec Try.prog 130 [vsl 2 (fun y : Int × (List Int) => [vint y.1, vsl 1 (fun x : Int => [vint x]) y.2]) xs] [] (fun r S' => ∃ s : Sv, r = vlit (vsv s) ∧ S' = [hsl (tPair tInt (tS tInt)) (vsv s) xs]) := by
  refine Spec.of_run2 (n := 28) Try.func130 rfl Try.results130 Try.ntmps130 rfl ?_
  repeat' (first | (with_reducible refine RL.done ?_) | (with_reducible refine RL.wanted ?_ ?_; exact rfl) | ((with_reducible show RH _ _ _ ⟨some 5, .buildSlice _ _ _, _, _, _, _⟩ _ _ _ _); refine RH.eff rfl rfl (EOpS.e (EOpS.slitV (by repeat (first | exact Elts.nil | apply Elts.one1 rfl | apply Elts.agg2 rfl)) (by simp) rfl rfl)) ?_; rintro _ _ ⟨b5, rfl, rfl⟩) | ((with_reducible show RH _ _ _ _ _ _ _ _); refine RH.val (hK := ?_)) | (with_reducible first | refine Run.seq ?_ | refine Run.region ?_ | refine Run.block ?_) | (with_reducible refine seqN (K := Run _ _ _ _) ?_))
  refine Run.sent (T := [hsl (tPair tInt (tS tInt)) (vsv (some ⟨b5, 0, none⟩, 0, 0)) []]) (SEnt.packNil (tPair tInt (tS tInt)) rfl) ?_
  refine Run.loop (α := Nat × Sv) (fun x => [(0, vsl 2 (fun y : Int × (List Int) => [vint y.1, vsl 1 (fun x : Int => [vint x]) y.2]) xs), (3, vlit (vsv x.2)), (4, vint (x.1 : Int))]) (fun x => [hsl (tPair tInt (tS tInt)) (vsv x.2) (xs.take x.1)]) (fun x => x.1 ≤ xs.length) (fun x => xs.length - x.1) (0, (some ⟨b5, 0, none⟩, 0, 0)) (by simp) (Ent.of slA (.cons .head rfl chA)) ?_
  rintro ⟨j, s⟩ hj
  dsimp only at hj ⊢
  have hle : (xs.take j).length ≤ 1024 := by rw [List.length_take]; omega
  rcases Nat.lt_or_eq_of_le hj with h9 | h9
  · repeat' (first | (with_reducible first | refine RL.done ?_ | refine RD.app1 ?_) | (with_reducible refine RL.wanted ?_ ?_; exact rfl) | ((with_reducible show Run _ _ (.region 5 _ true) _ _ _); refine Run.regionD (fun i => i == 14) rfl ?_; change RD _ _ _ _ _ _ 16 (dm 16 0) _ _) | ((with_reducible show RD _ _ 5 _ _ _ _ _ _ _); first | ((with_reducible show RD _ _ _ _ _ _ _ (dm 16 0) _ _); refine RD.tk 0 (dm 16 49152) (dm 16 1) (hK := ?_)) | ((with_reducible show RD _ _ _ _ _ _ _ (dm 16 1) _ _); refine RD.tk 1 (dm 16 61496) (dm 16 3) (hK := ?_)) | ((with_reducible show RD _ _ _ _ _ _ _ (dm 16 3) _ _); refine RD.tk 2 (dm 16 61496) (dm 16 7) (hK := ?_)) | ((with_reducible show RD _ _ _ _ _ _ _ (dm 16 7) _ _); refine RD.tk 3 (dm 16 61488) (dm 16 15) (hK := ?_)) | ((with_reducible show RD _ _ _ _ _ _ _ (dm 16 15) _ _); refine RD.tk 4 (dm 16 61472) (dm 16 31) (hK := ?_)) | ((with_reducible show RD _ _ _ _ _ _ _ (dm 16 31) _ _); refine RD.tk 5 (dm 16 61440) (dm 16 63) (hK := ?_)) | ((with_reducible show RD _ _ _ _ _ _ _ (dm 16 63) _ _); refine RD.tk 6 (dm 16 65280) (dm 16 127) (hK := ?_)) | ((with_reducible show RD _ _ _ _ _ _ _ (dm 16 127) _ _); refine RD.tk 7 (dm 16 65280) (dm 16 255) (hK := ?_)) | ((with_reducible show RD _ _ _ _ _ _ _ (dm 16 255) _ _); refine RD.tk 8 (dm 16 65024) (dm 16 511) (hK := ?_)) | ((with_reducible show RD _ _ _ _ _ _ _ (dm 16 511) _ _); refine RD.tk 9 (dm 16 64512) (dm 16 1023) (hK := ?_)) | ((with_reducible show RD _ _ _ _ _ _ _ (dm 16 1023) _ _); refine RD.tk 10 (dm 16 63488) (dm 16 2047) (hK := ?_)) | ((with_reducible show RD _ _ _ _ _ _ _ (dm 16 2047) _ _); refine RD.a1 11 ?_) | ((with_reducible show RD _ _ _ _ _ _ _ (dm 16 4095) _ _); refine RD.tk 12 (dm 16 57344) (dm 16 8191) (hK := ?_)) | ((with_reducible show RD _ _ _ _ _ _ _ (dm 16 8191) _ _); refine RD.a1 13 ?_) | ((with_reducible show RD _ _ _ _ _ _ _ (dm 16 16383) _ _); refine RD.a1 14 ?_) | ((with_reducible show RD _ _ _ _ _ _ _ (dm 16 32767) _ _); refine RD.tk 15 (dm 16 0) (dm 16 65535) (hK := ?_)) | ((with_reducible show RD _ _ _ _ _ _ 0 _ _ _); refine RD.done (by kernel_rfl) ?_)) | ((with_reducible show RO _ _ 5 _ _ _ _ _ _ _ _); first | ((with_reducible show RO _ _ _ _ _ _ _ (dm 16 2047) 11 _ _); (refine RO.cP (dm 16 4095) Try.call79 ?_; refine ⟨_, l1Own_c (xs[j]'(by omega)).2 (hr _ (List.getElem_mem (by omega))), ?_⟩; rintro _ _ ⟨s23, rfl, rfl⟩)) | ((with_reducible show RO _ _ _ _ _ _ _ (dm 16 8191) 13 _ _); (refine RO.eS (dm 16 16383) (hv := by show EOpS _ _ _ _ ⟨_, .buildSlice _ _ _, _, _, _, _⟩ _; exact EOpS.slitV (by repeat (first | exact Elts.nil | apply Elts.one1 rfl | apply Elts.agg2 rfl)) (by simp) rfl rfl) (h := ?_); rintro _ _ ⟨b25, rfl, rfl⟩)) | ((with_reducible show RO _ _ _ _ _ _ _ (dm 16 16383) 14 _ _); (refine RO.h (dm 16 32767) ?_; show RH _ _ _ ⟨_, _, _, _, _, _⟩ _ _ _ _))) | ((with_reducible show RH _ _ _ ⟨_, .call ⟨.builtin .append, _, _⟩, _, _, _, _⟩ _ _ _ _); (refine RH.appPI rfl rfl rfl (by repeat (first | exact Pick.nil | (apply Pick.cons; (with_reducible repeat (first | exact Rem.head | apply Rem.tail))))) (by first | omega | (simp; omega)) (by first | omega | (simp; omega)) ?_); rintro _ _ ⟨s, rfl, rfl⟩) | ((with_reducible show RH _ _ _ _ _ _ _ _); refine RH.val (hK := ?_)) | (with_reducible first | refine Run.seq ?_ | refine Run.region ?_ | refine Run.block ?_ | refine Run.skip ?_ | refine Run.exit ?_ | refine Run.ret ?_) | (with_reducible show Run _ _ (.cond _ _ _) _ _ _; refine Run.condD rfl (fun h => ?_) (fun h => ?_)) | (with_reducible first | refine seqN (K := Run _ _ _ _) ?_ | refine seqE ?_ | refine blockN ?_ | refine blockE ?_))
    all_goals first
      | (exfalso; omega)
      | (with_reducible refine seqN ?_
         exact ⟨(j + 1, _), by simp; omega, by simp; omega, Ent.of slA (by dsimp only; exact .cons .head (by rw [stp_succ _ _ h9]) chA)⟩)
  · subst h9
    repeat' (first | (with_reducible refine RL.done ?_) | (with_reducible refine RL.wanted ?_ ?_; exact rfl) | ((with_reducible show RH _ _ _ _ _ _ _ _); refine RH.val (hK := ?_)) | (with_reducible first | refine Run.seq ?_ | refine Run.region ?_ | refine Run.block ?_ | refine Run.skip ?_ | refine Run.exit ?_ | refine Run.ret ?_) | (with_reducible show Run _ _ (.cond _ _ _) _ _ _; refine Run.condD rfl (fun h => ?_) (fun h => ?_)) | (with_reducible first | refine seqN (K := Run _ _ _ _) ?_ | refine seqE ?_ | refine blockE ?_))
    all_goals first
      | (exfalso; omega)
      | (refine ⟨eA, _, [hsl (tPair tInt (tS tInt)) (vsv s) xs], resA, ?_, ?_⟩
         · exact SEnt.ch (.cons .head (by rw [List.take_length]) .nil)
         · exact ⟨s, rfl, rfl⟩)
end Go.Proofs.Ytiifdhdhjioefaa
