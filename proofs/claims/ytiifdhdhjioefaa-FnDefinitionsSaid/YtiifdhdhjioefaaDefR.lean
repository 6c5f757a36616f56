/- Relations that are defined by atoms: spec.DefinedRelation and impl.DefinedRelation: the same answer. Proved for this program; conditions: lengths below 2^42. -/
import Derived.Test.YtiifdhdhjioefaaDefF
namespace Go.Proofs.Ytiifdhdhjioefaa
open Go Go.Proofs
set_option linter.unusedVariables false
abbrev DefRes (n : Int) (rs : List (Int × List (List Int))) (v : Int) (ats : List (Int × List Int)) (fr : List Int) : VP → List HP → Prop :=
  RelRes (defB n rs v ats fr) (fr.length : Int) (putF (defL n v.toNat rs ats fr (pw n v.toNat).toNat))
theorem l2Args_v (i n v : Int) (h0 : 0 ≤ i) (hi : i ≤ 1152921504606846976) (hn : 1 ≤ n) (hv : 0 ≤ v) (hk : v ≤ 1048576) :
    Spec Try.prog 100 [vint n, vint v, vint i] [] (fun r S' => ∃ s : Sv, r = vlit (vsv s) ∧ S' = [hsl tInt (vsv s) (lowd i n v.toNat)]) := by
  obtain ⟨k, rfl⟩ : ∃ k : Nat, v = k := ⟨v.toNat, by omega⟩
  exact l2Args_c i n k h0 hi hn (by omega)
theorem argsAt_v (i n v : Int) (h0 : 0 ≤ i) (hi : i ≤ 1152921504606846976) (hn : 1 ≤ n) (hv : 0 ≤ v) (hk : v ≤ 1048576) :
    Spec Try.prog 92 [vint i, vint v, vint n] [] (fun r S' => ∃ s : Sv, r = vlit (vsv s) ∧ S' = [hsl tInt (vsv s) (lowd i n v.toNat)]) := by
  obtain ⟨k, rfl⟩ : ∃ k : Nat, v = k := ⟨v.toNat, by omega⟩
  exact argsAt_c i n k h0 hi hn (by omega)
theorem putF_yes {n : Int} {k : Nat} {rs : List (Int × List (List Int))} {ats : List (Int × List Int)} {fr : List Int} {i : Nat} (h : fitsB rs ats (lowd (i : Int) n k) = true) : putF (defL n k rs ats fr (i + 1)) = putL (putF (defL n k rs ats fr i)) (comp fr (lowd (i : Int) n k)) := by rw [defL_yes h, putF_app]
set_option maxRecDepth 10000 in
set_option maxHeartbeats 2000000 in
theorem specDef_c (n v : Int) (rs : List (Int × List (List Int))) (ats : List (Int × List Int)) (fr : List Int) (hv : InR v) (hs : DefSz n rs ats fr) :
    Spec Try.prog 32 [vint n, vsl 2 (fun y : Int × (List (List Int)) => [vint y.1, vsl 1 (fun t : List Int => [vsl 1 (fun x : Int => [vint x]) t]) y.2]) rs, vint v, vsl 2 (fun y : Int × (List Int) => [vint y.1, vsl 1 (fun x : Int => [vint x]) y.2]) ats, vsl 1 (fun x : Int => [vint x]) fr] [] (DefRes n rs v ats fr) := by
  refine Spec.of_run2 (n := 50) Try.func32 rfl Try.results32 Try.ntmps32 rfl ?_
  by_cases hg : defB n rs v ats fr = true
  · have hd := defOk hg
    have hn1 := hd.n1
    have hv1 := hd.v1
    have hp5 := hd.pw5
    have hfr := hd.fr3
    have hpn := pw_nonneg n (by omega) v.toNat
    repeat' (first | (with_reducible first | refine RL.done ?_ | refine RL.app0 ?_) | (with_reducible refine RL.wanted ?_ ?_; exact rfl) | ((with_reducible show RH _ _ _ ⟨some 10, .alloc _, _, _, _, _⟩ _ _ _ _); refine RH.alloc rfl ?_; rintro _ _ ⟨b10, rfl, rfl⟩) | ((with_reducible show RH _ _ _ ⟨some 25, .buildSlice _ _ _, _, _, _, _⟩ _ _ _ _); (refine RH.eff rfl rfl (EOpS.e (EOpS.slitV (by ((repeat (first | exact Elts.nil | apply Elts.one1 rfl | apply Elts.agg2 rfl)); done)) (by simp) rfl rfl)) ?_; rintro _ _ ⟨b25, rfl, rfl⟩)) | ((with_reducible show RH _ _ _ ⟨some 12, .alloc _, _, _, _, _⟩ _ _ _ _); refine RH.alloc rfl ?_; rintro _ _ ⟨b12, rfl, rfl⟩) | ((with_reducible show RH _ _ _ ⟨_, .call ⟨.value (.func 98), _, _⟩, _, _, _, _⟩ _ _ _ _); refine RH.cP Try.call98 ?_; refine ⟨_, l13Definition_c n v rs ats fr hv hs, ?_⟩; rintro _ _ ⟨rfl, rfl⟩) | ((with_reducible show RH _ _ _ _ _ _ _ _); first | refine RH.val (hK := ?_) | refine RH.upd (hK := ?_)) | (with_reducible first | refine Run.seq ?_ | refine Run.region ?_ | refine Run.block ?_ | refine Run.skip ?_ | refine Run.ret ?_) | (with_reducible show Run _ _ (.cond _ _ _) _ _ _; refine Run.condNB rfl (fun h => ?_) (fun h => ?_)) | (with_reducible first | refine seqN (K := Run _ _ _ _) ?_ | refine seqR ?_))
    all_goals first
      | (exfalso; simp_all; done)
      | skip
    refine Run.sent (T := [hsl (tS tInt) (vsv (some ⟨b25, 0, none⟩, 0, 0)) [], hcells b12 [vint (fr.length : Int), vsb b25 0 0], hcells b10 [vint 0, vlit (.slice none 0 0)]])
      ((SEnt.pick (.cons (.tail .head) .nil)).trans (SEnt.packNil (tS tInt) rfl)) ?_
    refine Run.loop (α := Nat × Sv) (fun z => [(0, vint n), (1, vsl 2 (fun y : Int × (List (List Int)) => [vint y.1, vsl 1 (fun t : List Int => [vsl 1 (fun x : Int => [vint x]) t]) y.2]) rs), (2, vint v), (3, vsl 2 (fun y : Int × (List Int) => [vint y.1, vsl 1 (fun x : Int => [vint x]) y.2]) ats), (4, vsl 1 (fun x : Int => [vint x]) fr), (10, vptr b10 0), (12, vptr b12 0), (13, vint (z.1 : Int))])
      (fun z => [hsl (tS tInt) (vsv z.2) (putF (defL n v.toNat rs ats fr z.1)), hcells b12 [vint (fr.length : Int), vlit (vsv z.2)], hcells b10 [vint 0, vlit (.slice none 0 0)]])
      (fun z => z.1 ≤ (pw n v.toNat).toNat) (fun z => (pw n v.toNat).toNat - z.1) (0, (some ⟨b25, 0, none⟩, 0, 0)) (Nat.zero_le _) (Ent.of slA .refl) ?_
    rintro ⟨i, s⟩ hi
    dsimp only at hi ⊢
    have hln := defL_len n v.toNat rs ats fr i
    have hstr := (putF_str hln).1
    have hlen := putF_len hln
    have hple := putF_le (defL n v.toNat rs ats fr i)
    have hdle := defL_le n v.toNat rs ats fr i
    have hvn : (lowd (i : Int) n v.toNat).length = v.toNat := lowd_length _ _ _
    have hvl : ((lowd (i : Int) n v.toNat).length : Int) = v := by omega
    have hfv : ∀ x ∈ fr, 0 ≤ x ∧ x < ((lowd (i : Int) n v.toNat).length : Int) := fun x hx => by have := elB_mem hd.frv x hx; omega
    rcases Nat.lt_or_eq_of_le hi with h9 | h9
    · repeat' (first | (with_reducible first | refine RL.done ?_ | refine RL.app0 ?_ | refine RL.app1 ?_) | (with_reducible refine RL.wanted ?_ ?_; exact rfl) | ((with_reducible show Run _ _ (.region 9 _ true) _ _ _); refine Run.regionD (fun i => i == 5 || i == 7) rfl ?_; change RD _ _ _ _ _ _ 8 (dm 8 0) _ _) | ((with_reducible show RD _ _ 9 _ _ _ _ _ _ _); first | ((with_reducible show RD _ _ _ _ _ _ _ (dm 8 0) _ _); refine RD.tk 0 (dm 8 226) (dm 8 1) (hK := ?_)) | ((with_reducible show RD _ _ _ _ _ _ _ (dm 8 1) _ _); refine RD.tk 1 (dm 8 224) (dm 8 3) (hK := ?_)) | ((with_reducible show RD _ _ _ _ _ _ _ (dm 8 3) _ _); refine RD.tk 2 (dm 8 240) (dm 8 7) (hK := ?_)) | ((with_reducible show RD _ _ _ _ _ _ _ (dm 8 7) _ _); refine RD.tk 3 (dm 8 240) (dm 8 15) (hK := ?_)) | ((with_reducible show RD _ _ _ _ _ _ _ (dm 8 15) _ _); refine RD.a1 4 ?_) | ((with_reducible show RD _ _ _ _ _ _ _ (dm 8 31) _ _); refine RD.a1 5 ?_) | ((with_reducible show RD _ _ _ _ _ _ _ (dm 8 63) _ _); refine RD.tk 6 (dm 8 128) (dm 8 127) (hK := ?_)) | ((with_reducible show RD _ _ _ _ _ _ _ (dm 8 127) _ _); refine RD.a1 7 ?_) | ((with_reducible show RD _ _ _ _ _ _ 0 _ _ _); refine RD.done (by kernel_rfl) ?_)) | ((with_reducible show RO _ _ 9 _ _ _ _ _ _ _ _); first | ((with_reducible show RO _ _ _ _ _ _ _ (dm 8 15) 4 _ _); (refine RO.cL (dm 8 31) Try.call102 ?_; apply Exists.intro; apply And.intro; (focus ((repeat (first | exact LVs.nil | (apply LVs.sl; (with_reducible repeat (exact Has.head)); exact inferInstance; exact rfl) | apply LVs.refl)); done)); refine ⟨_, l8At_c (lowd (i : Int) n v.toNat) fr (by omega) hfv, (by intro r H h; first | (obtain ⟨rfl, rfl⟩ := h; exact ⟨inferInstance, inferInstance⟩) | (obtain ⟨_, rfl, rfl⟩ := h; exact ⟨inferInstance, inferInstance⟩) | (obtain ⟨_, _, rfl, rfl⟩ := h; exact ⟨inferInstance, inferInstance⟩) | (obtain ⟨_, _, rfl, rfl, _⟩ := h; exact ⟨inferInstance, inferInstance⟩)), ?_⟩; rintro _ _ ⟨s2, rfl, rfl⟩; refine RD.nm ?_)) | ((with_reducible show RO _ _ _ _ _ _ _ (dm 8 31) 5 _ _); (refine RO.h (dm 8 63) ?_; show RH _ _ _ ⟨_, _, _, _, _, _⟩ _ _ _ _)) | ((with_reducible show RO _ _ _ _ _ _ _ (dm 8 127) 7 _ _); (refine RO.h (dm 8 255) ?_; show RH _ _ _ ⟨_, _, _, _, _, _⟩ _ _ _ _))) | ((with_reducible show RH _ _ _ ⟨_, .call ⟨.value (.func 99), _, _⟩, _, _, _, _⟩ _ _ _ _); refine RH.cP Try.call99 ?_; refine ⟨_, l2Pow5_c _ _ (by omega) (by omega) (by omega) (by omega), ?_⟩; rintro _ _ ⟨rfl, rfl⟩) | ((with_reducible show RH _ _ _ ⟨_, .call ⟨.value (.func 100), _, _⟩, _, _, _, _⟩ _ _ _ _); refine RH.cP Try.call100 ?_; refine ⟨_, l2Args_v _ _ _ (by omega) (by omega) (by omega) (by omega) (by omega), ?_⟩; rintro _ _ ⟨s1, rfl, rfl⟩) | ((with_reducible show RH _ _ _ ⟨_, .call ⟨.value (.func 101), _, _⟩, _, _, _, _⟩ _ _ _ _); refine RH.cL Try.call101 ?_; apply Exists.intro; apply And.intro; (focus ((repeat (first | exact LVs.nil | (apply LVs.sl; (with_reducible repeat (exact Has.head)); exact inferInstance; exact rfl) | apply LVs.refl)); done)); refine ⟨_, l13Fits_c n v rs ats fr (lowd (i : Int) n v.toNat) hd hvl, (by intro r H h; first | (obtain ⟨rfl, rfl⟩ := h; exact ⟨inferInstance, inferInstance⟩) | (obtain ⟨_, rfl, rfl⟩ := h; exact ⟨inferInstance, inferInstance⟩) | (obtain ⟨_, _, rfl, rfl⟩ := h; exact ⟨inferInstance, inferInstance⟩) | (obtain ⟨_, _, rfl, rfl, _⟩ := h; exact ⟨inferInstance, inferInstance⟩)), ?_⟩; rintro _ _ ⟨rfl, rfl⟩; refine RL.nm ?_) | ((with_reducible show RH _ _ _ ⟨_, .call ⟨.value (.func 90), _, _⟩, _, _, _, _⟩ _ _ _ _); refine RH.cW Try.call90 ?_; refine ⟨_, _, _, (by repeat (first | exact Pick.nil | (apply Pick.cons; (with_reducible repeat (first | exact Rem.head | apply Rem.tail))))), l8Put_c (putF (defL n v.toNat rs ats fr i)) (comp fr (lowd (i : Int) n v.toNat)) s s2 fr.length hstr hlen (comp_len fr _) (by omega) (by omega), ?_⟩; rintro _ _ ⟨s3, rfl, rfl⟩; refine RL.nm ?_) | ((with_reducible show RH _ _ _ _ _ _ _ _); first | refine RH.val (hK := ?_) | refine RH.upd (hK := ?_)) | (with_reducible first | refine Run.seq ?_ | refine Run.region ?_ | refine Run.block ?_ | refine Run.skip ?_ | refine Run.exit ?_ | refine Run.ret ?_) | (with_reducible show Run _ _ (.cond _ _ _) _ _ _; first | refine Run.condD rfl (fun h => ?_) (fun h => ?_) | refine Run.cond rfl (fun h => ?_) (fun h => ?_)) | (with_reducible first | refine seqN (K := Run _ _ _ _) ?_ | refine seqE ?_ | refine blockN ?_ | refine blockE ?_))
      all_goals first
        | (exfalso; omega)
        | (with_reducible refine seqN ?_
           exact ⟨(i + 1, _), by dsimp only; omega, by dsimp only; omega, Ent.of (by dsimp only; exact slA) (by dsimp only; rw [putF_yes (by assumption)]; exact chA)⟩)
        | (with_reducible refine seqN ?_
           exact ⟨(i + 1, s), by dsimp only; omega, by dsimp only; omega, Ent.of (by dsimp only; exact slA) (by dsimp only; rw [defL_no (by assumption)]; exact chA)⟩)
    · subst h9
      repeat' (first | (with_reducible first | refine RL.done ?_ | refine RL.app0 ?_) | (with_reducible refine RL.wanted ?_ ?_; exact rfl) | ((with_reducible show RH _ _ _ ⟨_, .call ⟨.value (.func 99), _, _⟩, _, _, _, _⟩ _ _ _ _); refine RH.cP Try.call99 ?_; refine ⟨_, l2Pow5_c _ _ (by omega) (by omega) (by omega) (by omega), ?_⟩; rintro _ _ ⟨rfl, rfl⟩) | ((with_reducible show RH _ _ _ _ _ _ _ _); first | refine RH.val (hK := ?_) | refine RH.upd (hK := ?_)) | (with_reducible first | refine Run.seq ?_ | refine Run.region ?_ | refine Run.block ?_ | refine Run.skip ?_ | refine Run.exit ?_ | refine Run.ret ?_) | (with_reducible show Run _ _ (.cond _ _ _) _ _ _; refine Run.condD rfl (fun h => ?_) (fun h => ?_)) | (with_reducible first | refine seqN (K := Run _ _ _ _) ?_ | refine seqE ?_ | refine blockE ?_))
      all_goals first
        | (exfalso; omega)
        | (refine ⟨eA, _, [hsl (tS tInt) (vsv s) (putF (defL n v.toNat rs ats fr (pw n v.toNat).toNat))], resA, ?_, ?_⟩
           · exact SEnt.ch chA
           · exact relRes_yes hg s)
  · repeat' (first | (with_reducible first | refine RL.done ?_ | refine RL.app0 ?_) | (with_reducible refine RL.wanted ?_ ?_; exact rfl) | ((with_reducible show RH _ _ _ ⟨some 10, .alloc _, _, _, _, _⟩ _ _ _ _); refine RH.alloc rfl ?_; rintro _ _ ⟨b10, rfl, rfl⟩) | ((with_reducible show RH _ _ _ ⟨some 25, .buildSlice _ _ _, _, _, _, _⟩ _ _ _ _); (refine RH.eff rfl rfl (EOpS.e (EOpS.slitV (by ((repeat (first | exact Elts.nil | apply Elts.one1 rfl | apply Elts.agg2 rfl)); done)) (by simp) rfl rfl)) ?_; rintro _ _ ⟨b25, rfl, rfl⟩)) | ((with_reducible show RH _ _ _ ⟨some 12, .alloc _, _, _, _, _⟩ _ _ _ _); refine RH.alloc rfl ?_; rintro _ _ ⟨b12, rfl, rfl⟩) | ((with_reducible show RH _ _ _ ⟨_, .call ⟨.value (.func 98), _, _⟩, _, _, _, _⟩ _ _ _ _); refine RH.cP Try.call98 ?_; refine ⟨_, l13Definition_c n v rs ats fr hv hs, ?_⟩; rintro _ _ ⟨rfl, rfl⟩) | ((with_reducible show RH _ _ _ _ _ _ _ _); first | refine RH.val (hK := ?_) | refine RH.upd (hK := ?_)) | (with_reducible first | refine Run.seq ?_ | refine Run.region ?_ | refine Run.block ?_ | refine Run.skip ?_ | refine Run.ret ?_) | (with_reducible show Run _ _ (.cond _ _ _) _ _ _; refine Run.condNB rfl (fun h => ?_) (fun h => ?_)) | (with_reducible first | refine seqN (K := Run _ _ _ _) ?_ | refine seqR ?_))
    all_goals first
      | (refine ⟨eA, _, [hsl (tS tInt) (vsv (none, 0, 0)) []], resA, ?_, ?_⟩
         · exact (SEnt.ch .nil).trans (SEnt.nil _ _)
         · exact relRes_no (by simpa using hg))
      | (exfalso; apply hg; simp_all; done)
end Go.Proofs.Ytiifdhdhjioefaa
