/- laws.FnExactSemilatticeTerms answers true. Proved for this program; no conditions. -/
import Derived.Test.YtejeeokjjbiadaaSemT
import Derived.Test.YtejeeokjjbiadaaLawX
namespace Go.Proofs.Ytejeeokjjbiadaa
open Go Go.Proofs
set_option linter.unusedVariables false

theorem opsLen_of {os : List (Int × List Int)} (h : os.length + sm (List.map (fun y : Int × List Int => y.2.length) os) ≤ 1048576) : OpsLen os := fun f hf => by
  have h1 := sm_mem (fun y : Int × List Int => y.2.length) os f hf
  (try dsimp only at h1); omega
theorem sem_small {n : Int} {os : List (Int × List Int)} : (opsL 2 ((semV n os).getD [])).length + sm ((opsL 2 ((semV n os).getD [])).map fun y : Int × List Int => y.2.length) ≤ 8388608 := by
  cases h : semV n os with
  | none => simp [opsL, sm]
  | some us =>
    rw [semV] at h
    split at h
    · cases hc : cloneV n os 2 with
      | none => rw [hc] at h; cases h
      | some c =>
        rw [hc] at h
        have h : c.1.filter (semB n.toNat) = us := by injection h
        subst h
        obtain ⟨_, h1, h2⟩ := clone_ops hc
        have h3 := opsL_length 2 (c.1.filter (semB n.toNat))
        have h4 := List.length_filter_le (semB n.toNat) c.1
        have h5 : ∀ y ∈ opsL 2 (c.1.filter (semB n.toNat)), y.2.length ≤ 27 := fun y hy => by
          obtain ⟨t, ht, rfl⟩ := List.mem_map.1 hy
          exact (h2 t (List.mem_filter.1 ht).1).2
        have h6 := sm_le_mul (fun y : Int × List Int => y.2.length) (opsL 2 (c.1.filter (semB n.toNat))) 27 h5
        simp only [Option.getD_some]
        omega
    · cases h
set_option maxRecDepth 10000 in
set_option maxHeartbeats 8000000 in
theorem law_g (a : Int × (List (Int × (List Int)))) (r0 : List (Int × (List Int))) (r1 : Bool) (g0 : (InR a.1) ∧ (a.2.length ≤ 9223372036854775807 ∧ ∀ y0 ∈ a.2, (InR y0.1) ∧ (y0.2.length ≤ 9223372036854775807 ∧ ∀ y1 ∈ y0.2, InR y1)))
    (hall : a.2.length + sm (List.map (fun y : Int × (List Int) => y.2.length) a.2) ≤ 1048576 → Spec Try.prog 46 [vagg [vint a.1, vsl 2 (fun y : Int × (List Int) => [vint y.1, vsl 1 (fun x : Int => [vint x]) y.2]) a.2]] [] (fun r S' => ∃ w0 : Sv, r = vtup [vlit (vsv w0), vbool (r1)] ∧ S' = [hsl (tPair tInt (tS tInt)) (vsv w0) r0]) ∧ Spec Try.prog 47 [vagg [vint a.1, vsl 2 (fun y : Int × (List Int) => [vint y.1, vsl 1 (fun x : Int => [vint x]) y.2]) a.2]] [] (fun r S' => ∃ w0 : Sv, r = vtup [vlit (vsv w0), vbool (r1)] ∧ S' = [hsl (tPair tInt (tS tInt)) (vsv w0) r0]) ∧ r0.length + sm (List.map (fun y : Int × (List Int) => y.2.length) r0) ≤ 1073741824) :
    Spec Try.prog 11 [vagg [vint a.1, vsl 2 (fun y : Int × (List Int) => [vint y.1, vsl 1 (fun x : Int => [vint x]) y.2]) a.2]] [] (fun r S' => r = vbool true ∧ S' = []) := by
  refine Spec.of_run2 (n := 96) Try.func11 rfl Try.results11 Try.ntmps11 rfl ?_
  repeat' (first | (with_reducible first | refine RL.done ?_ | refine RL.app0 ?_) | (with_reducible refine RL.wanted ?_ ?_; exact rfl) | ((with_reducible show RH _ _ _ ⟨some 1, .box _ _, _, _, _, _⟩ _ _ _ _); (refine RH.boxAgg rfl rfl ?_; rintro _ _ ⟨b1, rfl, rfl⟩)) | ((with_reducible show RH _ _ _ ⟨_, .call ⟨.value (.func 15), _, _⟩, _, _, _, _⟩ _ _ _ _); refine RH.cP Try.call15 ?_; refine ⟨_, szAlgebra_c (a) _ (by omega) (by omega) g0, ?_⟩; rintro _ _ ⟨q0, rfl, rfl, hq0, hp0⟩) | ((with_reducible show RH _ _ _ _ _ _ _ _); refine RH.val (hK := ?_)) | (with_reducible first | refine Run.seq ?_ | refine Run.region ?_ | refine Run.skip ?_ | refine Run.ret ?_) | (with_reducible show Run _ _ (.cond _ _ _) _ _ _; refine Run.condD rfl (fun h => ?_) (fun h => ?_)) | (with_reducible first | refine seqN (K := Run _ _ _ _) ?_ | refine seqR ?_))
  · refine ⟨eA, _, [], resA, .ch .nil, ?_⟩; exact ⟨rfl, rfl⟩
  · have hz0 := hp0 (by omega)
    have hS_a : a.2.length + sm (List.map (fun y : Int × (List Int) => y.2.length) a.2) ≤ 1048576 := by omega
    obtain ⟨hspec, himpl, hsm0⟩ := hall hS_a
    have hC0 := OpS_cxle r0
    (try dsimp only at *)
    repeat' (first | (with_reducible first | refine RL.done ?_ | refine RL.app1 ?_ | refine RD.app1 ?_) | (with_reducible refine RL.wanted ?_ ?_; exact rfl) | ((with_reducible show Run _ _ (.region 10 _ true) _ _ _); refine Run.regionD (fun i => false) rfl ?_; change RD _ _ _ _ _ _ 5 (dm 5 0) _ _) | ((with_reducible show RD _ _ 10 _ _ _ _ _ _ _); first | ((with_reducible show RD _ _ _ _ _ _ _ (dm 5 0) _ _); refine RD.tk 0 (dm 5 24) (dm 5 1) (hK := ?_)) | ((with_reducible show RD _ _ _ _ _ _ _ (dm 5 1) _ _); refine RD.tk 1 (dm 5 28) (dm 5 3) (hK := ?_)) | ((with_reducible show RD _ _ _ _ _ _ _ (dm 5 3) _ _); refine RD.a1 2 ?_) | ((with_reducible show RD _ _ _ _ _ _ _ (dm 5 7) _ _); refine RD.a1 3 ?_) | ((with_reducible show RD _ _ _ _ _ _ _ (dm 5 15) _ _); refine RD.tk 4 (dm 5 0) (dm 5 31) (hK := ?_)) | ((with_reducible show RD _ _ _ _ _ _ 0 _ _ _); refine RD.done (by kernel_rfl) ?_)) | ((with_reducible show RO _ _ 10 _ _ _ _ _ _ _ _); first | ((with_reducible show RO _ _ _ _ _ _ _ (dm 5 3) 2 _ _); (refine RO.cP (dm 5 7) Try.call17 ?_; refine ⟨_, toAlgebra_c (a) (by omega), ?_⟩; rintro _ _ ⟨s00, rfl, rfl⟩)) | ((with_reducible show RO _ _ _ _ _ _ _ (dm 5 7) 3 _ _); (refine RO.cL (dm 5 15) Try.call19 ?_; apply Exists.intro; apply And.intro; (focus ((repeat (first | exact LVs.nil | (apply LVs.sl; (with_reducible repeat (first | exact Has.head | apply Has.tail)); exact inferInstance; exact rfl) | apply LVs.agg | apply LVs.refl)); done)); refine ⟨_, eqAlgebra_g a a (by omega), (by intro r H h; first | (obtain ⟨rfl, rfl⟩ := h; exact ⟨inferInstance, inferInstance⟩) | (obtain ⟨_, rfl, rfl⟩ := h; exact ⟨inferInstance, inferInstance⟩) | (obtain ⟨_, _, rfl, rfl⟩ := h; exact ⟨inferInstance, inferInstance⟩) | (obtain ⟨_, _, rfl, rfl, _⟩ := h; exact ⟨inferInstance, inferInstance⟩)), ?_⟩; rintro _ _ ⟨rfl, rfl⟩; refine RD.nm ?_))) | ((with_reducible show RH _ _ _ ⟨some 6, .alloc _, _, _, _, _⟩ _ _ _ _); refine RH.alloc rfl ?_; rintro _ _ ⟨b6, rfl, rfl⟩) | ((with_reducible show RH _ _ _ ⟨_, .call ⟨.value (.func 17), _, _⟩, _, _, _, _⟩ _ _ _ _); refine RH.cP Try.call17 ?_; refine ⟨_, toAlgebra_c (a) (by omega), ?_⟩; rintro _ _ ⟨s00, rfl, rfl⟩) | ((with_reducible show RH _ _ _ ⟨_, .call ⟨.value (.func 46), _, _⟩, _, _, _, _⟩ _ _ _ _); refine RH.cL Try.call46 ?_; apply Exists.intro; apply And.intro; (focus ((repeat (first | exact LVs.nil | (apply LVs.sl; (with_reducible repeat (first | exact Has.head | apply Has.tail)); exact inferInstance; exact rfl) | apply LVs.agg | apply LVs.refl)); done)); refine ⟨_, hspec, (by intro r H h; first | (obtain ⟨rfl, rfl⟩ := h; exact ⟨inferInstance, inferInstance⟩) | (obtain ⟨_, rfl, rfl⟩ := h; exact ⟨inferInstance, inferInstance⟩) | (obtain ⟨_, _, rfl, rfl⟩ := h; exact ⟨inferInstance, inferInstance⟩) | (obtain ⟨_, _, rfl, rfl, _⟩ := h; exact ⟨inferInstance, inferInstance⟩)), ?_⟩; rintro _ _ ⟨w0, rfl, rfl⟩; refine RL.nm ?_) | ((with_reducible show RH _ _ _ ⟨_, .call ⟨.value (.func 47), _, _⟩, _, _, _, _⟩ _ _ _ _); refine RH.cL Try.call47 ?_; apply Exists.intro; apply And.intro; (focus ((repeat (first | exact LVs.nil | (apply LVs.sl; (with_reducible repeat (first | exact Has.head | apply Has.tail)); exact inferInstance; exact rfl) | apply LVs.agg | apply LVs.refl)); done)); refine ⟨_, himpl, (by intro r H h; first | (obtain ⟨rfl, rfl⟩ := h; exact ⟨inferInstance, inferInstance⟩) | (obtain ⟨_, rfl, rfl⟩ := h; exact ⟨inferInstance, inferInstance⟩) | (obtain ⟨_, _, rfl, rfl⟩ := h; exact ⟨inferInstance, inferInstance⟩) | (obtain ⟨_, _, rfl, rfl, _⟩ := h; exact ⟨inferInstance, inferInstance⟩)), ?_⟩; rintro _ _ ⟨g0, rfl, rfl⟩; refine RL.nm ?_) | ((with_reducible show RH _ _ _ ⟨_, .call ⟨.value (.func 48), _, _⟩, _, _, _, _⟩ _ _ _ _); refine RH.cL Try.call48 ?_; apply Exists.intro; apply And.intro; (focus ((repeat (first | exact LVs.nil | (apply LVs.sl; (with_reducible repeat (first | exact Has.head | apply Has.tail)); exact inferInstance; exact rfl))); done)); refine ⟨_, eqOpS_g r0 r0 (by (try dsimp only); first | omega | assumption), (by intro r H h; first | (obtain ⟨rfl, rfl⟩ := h; exact ⟨inferInstance, inferInstance⟩) | (obtain ⟨_, rfl, rfl⟩ := h; exact ⟨inferInstance, inferInstance⟩) | (obtain ⟨_, _, rfl, rfl⟩ := h; exact ⟨inferInstance, inferInstance⟩) | (obtain ⟨_, _, rfl, rfl, _⟩ := h; exact ⟨inferInstance, inferInstance⟩)), ?_⟩; rintro _ _ ⟨rfl, rfl⟩; refine RL.nm ?_) | ((with_reducible show RH _ _ _ ⟨_, .call ⟨.value (.func 49), _, _⟩, _, _, _, _⟩ _ _ _ _); refine RH.cW Try.call49 ?_; refine ⟨_, _, _, (by repeat (first | exact Pick.nil | (apply Pick.cons; (with_reducible repeat (first | exact Rem.head | apply Rem.tail))))), markOpS_x _ r0 _ (by omega) (by omega), ?_⟩; rintro _ _ ⟨rfl, rfl⟩; refine RL.nm ?_) | ((with_reducible show RH _ _ _ ⟨_, .call ⟨.value (.func 50), _, _⟩, _, _, _, _⟩ _ _ _ _); refine RH.cL Try.call50 ?_; apply Exists.intro; apply And.intro; (focus ((repeat (first | exact LVs.nil | (apply LVs.sl; (with_reducible repeat (first | exact Has.head | apply Has.tail)); exact inferInstance; exact rfl) | apply LVs.refl)); done)); refine ⟨_, heldOpS_x r0 _ (by omega) (by omega), (by intro r H h; first | (obtain ⟨rfl, rfl⟩ := h; exact ⟨inferInstance, inferInstance⟩) | (obtain ⟨_, rfl, rfl⟩ := h; exact ⟨inferInstance, inferInstance⟩) | (obtain ⟨_, _, rfl, rfl⟩ := h; exact ⟨inferInstance, inferInstance⟩) | (obtain ⟨_, _, rfl, rfl, _⟩ := h; exact ⟨inferInstance, inferInstance⟩)), ?_⟩; rintro _ _ ⟨rfl, rfl⟩; refine RL.nm ?_) | ((with_reducible show RH _ _ _ ⟨_, .call ⟨.value (.func 20), _, _⟩, _, _, _, _⟩ _ _ _ _); refine RH.cW Try.call20 ?_; refine ⟨_, _, _, (by repeat (first | exact Pick.nil | (apply Pick.cons; (with_reducible repeat (first | exact Rem.head | apply Rem.tail))))), markAlgebra_s _ a _ (by omega) (by omega), ?_⟩; rintro _ _ ⟨y0, k0, rfl, rfl, hmA0, hmB0⟩; refine RL.nm ?_) | ((with_reducible show RH _ _ _ _ _ _ _ _); first | refine RH.val (hK := ?_) | refine RH.upd (hK := ?_)) | (with_reducible show RL _ _ _ (_ :: _) _ _ _; first | refine RL.guardYes rfl rfl rfl rfl ?_ | refine RL.guardNoS rfl rfl rfl rfl rfl rfl ?_ | refine RL.splitD rfl rfl rfl (fun h => ?_) (fun h => ?_) | refine RL.splitND rfl rfl rfl (fun h => ?_) (fun h => ?_)) | (with_reducible first | refine Run.seq ?_ | refine Run.region ?_ | refine Run.skip ?_ | refine Run.ret ?_) | (with_reducible show Run _ _ (.cond _ _ _) _ _ _; first | refine Run.condT rfl ?_ | refine Run.condF rfl ?_ | refine Run.condD rfl (fun h => ?_) (fun h => ?_) | refine Run.condND rfl (fun h => ?_) (fun h => ?_)) | (with_reducible first | refine seqN (K := Run _ _ _ _) ?_ | refine seqR ?_))
    all_goals first
      | (refine ⟨eA, _, [], resA, .ch .nil, ?_⟩; exact ⟨rfl, rfl⟩)
      | (exfalso; omega)
      | (exfalso; simp_all; done)
      | skip
theorem law_c (a : Int × (List (Int × (List Int)))) (g0 : (InR a.1) ∧ (a.2.length ≤ 9223372036854775807 ∧ ∀ y0 ∈ a.2, (InR y0.1) ∧ (y0.2.length ≤ 9223372036854775807 ∧ ∀ y1 ∈ y0.2, InR y1))) :
    Spec Try.prog 11 [vagg [vint a.1, vsl 2 (fun y : Int × (List Int) => [vint y.1, vsl 1 (fun x : Int => [vint x]) y.2]) a.2]] [] (fun r S' => r = vbool true ∧ S' = []) := by
  refine law_g a (opsL 2 ((semV a.1 a.2).getD [])) ((semV a.1 a.2).isSome) g0 ?_
  intro hS_a
  exact ⟨specSem_c a.1 a.2 (by omega) (opsLen_of hS_a), implSem_c a.1 a.2 (by omega) (opsLen_of hS_a), Nat.le_trans sem_small (by decide)⟩
end Go.Proofs.Ytejeeokjjbiadaa
