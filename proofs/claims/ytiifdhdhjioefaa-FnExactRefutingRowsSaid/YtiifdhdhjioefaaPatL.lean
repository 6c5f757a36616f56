/- The patterns of a condition: spec.l15Patterns, PatternsOf, impl.patternsOf, PatternsOf: the same answer. Proved for this program; conditions: a valid condition for l15Patterns and patternsOf; lengths below 2^42. -/
import Derived.Test.YtiifdhdhjioefaaPat
namespace Go.Proofs.Ytiifdhdhjioefaa
open Go Go.Proofs
set_option linter.unusedVariables false

theorem addP_yes {l : List (List Int)} {p : List Int} (h : placeAt l p < 0) : addP l p = l ++ [p] := if_pos h
theorem addP_no {l : List (List Int)} {p : List Int} (h : ¬ placeAt l p < 0) : addP l p = l := if_neg h
theorem patStep_yes {l : List (List Int)} {y : List Int × List Int} (h : 1 < (y.2.length : Int)) : patStep l y = addP (addP l y.1) y.2 := if_pos h
theorem patStep_no {l : List (List Int)} {y : List Int × List Int} (h : ¬ 1 < (y.2.length : Int)) : patStep l y = addP l y.1 := if_neg h

set_option maxRecDepth 10000 in
set_option maxHeartbeats 1000000 in
theorem l15Patterns_c (a : Int) (rs : List (List Int × List Int)) (hc : condB a rs = true) :
    Spec Try.prog 164 [vagg [vint a, vsl 2 (fun y : (List Int) × (List Int) => [vsl 1 (fun x : Int => [vint x]) y.1, vsl 1 (fun x : Int => [vint x]) y.2]) rs]] [] (fun r S' => ∃ s : Sv, r = vlit (vsv s) ∧ S' = [hsl (tS tInt) (vsv s) (pats rs)]) := by
  obtain ⟨ha, h6, hr⟩ := condB_rules hc
  have hr3 : ∀ y ∈ rs, y.1.length ≤ 3 ∧ y.2.length ≤ 3 := fun y hy => by have := hr y hy; omega
  refine Spec.of_run2 (n := 62) Try.func164 rfl Try.results164 Try.ntmps164 rfl ?_
  repeat' (first | (with_reducible refine RL.done ?_) | (with_reducible refine RL.wanted ?_ ?_; exact rfl) | ((with_reducible show RH _ _ _ ⟨some 1, .box _ _, _, _, _, _⟩ _ _ _ _); (refine RH.boxAgg rfl rfl ?_; rintro _ _ ⟨b1, rfl, rfl⟩)) | ((with_reducible show RH _ _ _ ⟨some 5, .buildSlice _ _ _, _, _, _, _⟩ _ _ _ _); (refine RH.eff rfl rfl (EOpS.e (EOpS.slitV (by ((repeat (first | exact Elts.nil | apply Elts.one1 rfl | apply Elts.agg2 rfl)); done)) (by simp) rfl rfl)) ?_; rintro _ _ ⟨b5, rfl, rfl⟩)) | ((with_reducible show RH _ _ _ _ _ _ _ _); refine RH.val (hK := ?_)) | (with_reducible first | refine Run.seq ?_ | refine Run.region ?_ | refine Run.block ?_) | (with_reducible refine seqN (K := Run _ _ _ _) ?_))
  refine Run.sent (SEnt.packNil (tS tInt) rfl) ?_
  refine Run.loop (α := Nat × Sv) (fun z => [(1, vptr b1 0), (3, vlit (vsv z.2)), (4, vint (z.1 : Int))]) (fun z => [hsl (tS tInt) (vsv z.2) (pats (rs.take z.1)), hcells b1 [vint a, vsl 2 (fun y : (List Int) × (List Int) => [vsl 1 (fun x : Int => [vint x]) y.1, vsl 1 (fun x : Int => [vint x]) y.2]) rs]]) (fun z => z.1 ≤ rs.length) (fun z => rs.length - z.1) (0, (some ⟨b5, 0, none⟩, 0, 0)) (by simp) (Ent.of slA (.cons .head (by simp [pats]) chA)) ?_
  rintro ⟨j, s⟩ hj
  dsimp only at hj ⊢
  rcases Nat.lt_or_eq_of_le hj with h9 | rfl
  · obtain ⟨l, hl⟩ : ∃ l, l = pats (rs.take j) := ⟨_, rfl⟩
    have hpl : PatLen l := by rw [hl]; exact pats_len hr3 j
    have hll : l.length ≤ 12 := by rw [hl]; have := pats_le rs j; omega
    have hy3 := hr3 _ (List.getElem_mem h9)
    have hpl1 : PatLen (l ++ [rs[j].1]) := fun t ht => by
      rcases List.mem_append.1 ht with h | h
      · exact hpl t h
      · simp at h; subst h; exact hy3.1
    have hll1 : (l ++ [rs[j].1]).length ≤ 13 := by simp; omega
    have hsucc := pats_succ rs j h9
    rw [← hl] at hsucc ⊢
    repeat' (first | (with_reducible first | refine RL.done ?_ | refine RL.app1 ?_) | (with_reducible refine RL.wanted ?_ ?_; exact rfl) | ((with_reducible show RH _ _ _ ⟨some 30, .buildSlice _ _ _, _, _, _, _⟩ _ _ _ _); (refine RH.eff rfl rfl (EOpS.e (EOpS.slitV (by ((repeat (first | exact Elts.nil | apply Elts.one1 rfl | apply Elts.agg2 rfl)); done)) (by simp) rfl rfl)) ?_; rintro _ _ ⟨b30, rfl, rfl⟩)) | ((with_reducible show RH _ _ _ ⟨some 59, .buildSlice _ _ _, _, _, _, _⟩ _ _ _ _); (refine RH.eff rfl rfl (EOpS.e (EOpS.slitV (by ((repeat (first | exact Elts.nil | apply Elts.one1 rfl | apply Elts.agg2 rfl)); done)) (by simp) rfl rfl)) ?_; rintro _ _ ⟨b59, rfl, rfl⟩)) | ((with_reducible show RH _ _ _ ⟨_, .call ⟨.value (.func 184), _, _⟩, _, _, _, _⟩ _ _ _ _); refine RH.cL Try.call184 ?_; apply Exists.intro; apply And.intro; (focus ((repeat (first | exact LVs.nil | (apply LVs.sl; (with_reducible repeat (exact Has.head)); exact inferInstance; exact rfl) | apply LVs.refl)); done)); refine ⟨_, l12Place_c _ _ (by omega) (by first | exact fun t ht => Nat.le_trans (hpl t ht) (by decide) | exact fun t ht => Nat.le_trans (hpl1 t ht) (by decide)), (by intro r H h; first | (obtain ⟨rfl, rfl⟩ := h; exact ⟨inferInstance, inferInstance⟩) | (obtain ⟨_, rfl, rfl⟩ := h; exact ⟨inferInstance, inferInstance⟩) | (obtain ⟨_, _, rfl, rfl⟩ := h; exact ⟨inferInstance, inferInstance⟩) | (obtain ⟨_, _, rfl, rfl, _⟩ := h; exact ⟨inferInstance, inferInstance⟩)), ?_⟩; rintro _ _ ⟨rfl, rfl⟩; refine RL.nm ?_) | ((with_reducible show RH _ _ _ ⟨_, .call ⟨.value (.func 79), _, _⟩, _, _, _, _⟩ _ _ _ _); refine RH.cP Try.call79 ?_; refine ⟨_, l1Own_c _ (by omega), ?_⟩; rintro _ _ ⟨s1, rfl, rfl⟩) | ((with_reducible show RH _ _ _ ⟨_, .call ⟨.builtin .append, _, _⟩, _, _, _, _⟩ _ _ _ _); (refine RH.appR rfl rfl rfl (by repeat (first | exact Pick.nil | (apply Pick.cons; (with_reducible repeat (first | exact Rem.head | apply Rem.tail))))) (by first | omega | (simp; omega)) (by first | omega | (simp; omega)) ?_); rintro _ _ ⟨s, rfl, rfl⟩) | ((with_reducible show RH _ _ _ _ _ _ _ _); refine RH.val (hK := ?_)) | (with_reducible show RL _ _ _ (_ :: _) _ _ _; first | refine RL.guardYes rfl rfl rfl rfl ?_ | refine RL.guardNoS rfl rfl rfl rfl rfl rfl ?_ | refine RL.splitD rfl rfl rfl (fun h => ?_) (fun h => ?_)) | (with_reducible first | refine Run.seq ?_ | refine Run.region ?_ | refine Run.block ?_ | refine Run.skip ?_ | refine Run.exit ?_ | refine Run.ret ?_) | (with_reducible show Run _ _ (.cond _ _ _) _ _ _; first | refine Run.condF rfl ?_ | refine Run.condD rfl (fun h => ?_) (fun h => ?_)) | (with_reducible first | refine seqN (K := Run _ _ _ _) ?_ | refine seqE ?_ | refine blockN ?_ | refine blockE ?_))
    all_goals first
      | (with_reducible refine seqN ?_
         have e : _ = pats (rs.take (j + 1)) := (hsucc.trans (by first
           | rw [patStep_yes (by assumption), addP_yes (show placeAt l rs[j].1 < 0 by assumption), addP_yes (show placeAt (l ++ [rs[j].1]) rs[j].2 < 0 by assumption)]
           | rw [patStep_yes (by assumption), addP_yes (show placeAt l rs[j].1 < 0 by assumption), addP_no (show ¬ placeAt (l ++ [rs[j].1]) rs[j].2 < 0 by assumption)]
           | rw [patStep_no (by assumption), addP_yes (show placeAt l rs[j].1 < 0 by assumption)]
           | rw [patStep_yes (by assumption), addP_no (show ¬ placeAt l rs[j].1 < 0 by assumption), addP_yes (show placeAt l rs[j].2 < 0 by assumption)]
           | rw [patStep_yes (by assumption), addP_no (show ¬ placeAt l rs[j].1 < 0 by assumption), addP_no (show ¬ placeAt l rs[j].2 < 0 by assumption)]
           | rw [patStep_no (by assumption), addP_no (show ¬ placeAt l rs[j].1 < 0 by assumption)])).symm
         exact ⟨(j + 1, _), by (try dsimp only); omega, by (try dsimp only); omega, Ent.of (by (try dsimp only); exact slA) (by dsimp only; exact .cons .head (by rw [e]) chA)⟩)
      | (exfalso; omega)
  · repeat' (first | (with_reducible refine RL.done ?_) | (with_reducible refine RL.wanted ?_ ?_; exact rfl) | ((with_reducible show RH _ _ _ _ _ _ _ _); refine RH.val (hK := ?_)) | (with_reducible first | refine Run.seq ?_ | refine Run.region ?_ | refine Run.block ?_ | refine Run.skip ?_ | refine Run.exit ?_ | refine Run.ret ?_) | (with_reducible show Run _ _ (.cond _ _ _) _ _ _; refine Run.condD rfl (fun h => ?_) (fun h => ?_)) | (with_reducible first | refine seqN (K := Run _ _ _ _) ?_ | refine seqE ?_ | refine blockE ?_))
    · omega
    · refine ⟨eA, _, [hsl (tS tInt) (vsv s) (pats rs)], resA, ?_, ?_⟩
      · exact SEnt.ch (.cons .head (by simp) .nil)
      · exact ⟨s, rfl, rfl⟩

def addI (a : Int) (l : List (List Int)) (p : List Int) : List (List Int) := if (p.length : Int) = a ∧ placeAt l p < 0 then l ++ [p] else l
theorem addI_yes {a : Int} {l : List (List Int)} {p : List Int} (h : (p.length : Int) = a) : addI a l p = addP l p := by
  unfold addI addP; by_cases h2 : placeAt l p < 0
  · rw [if_pos ⟨h, h2⟩, if_pos h2]
  · rw [if_neg (fun h => h2 h.2), if_neg h2]
theorem addI_no {a : Int} {l : List (List Int)} {p : List Int} (h : ¬ (p.length : Int) = a) : addI a l p = l := if_neg (fun h2 => h h2.1)
theorem addI_step {a : Int} (ha : 2 ≤ a) (l : List (List Int)) (y : List Int × List Int) (h1 : (y.1.length : Int) = a) (h2 : (y.2.length : Int) = a ∨ y.2.length = 1) : addI a (addI a l y.1) y.2 = patStep l y := by
  rw [addI_yes h1]
  rcases h2 with h2 | h2
  · rw [addI_yes h2, patStep_yes (by omega)]
  · rw [addI_no (by omega), patStep_no (by omega)]
theorem addI_len {a : Int} {l : List (List Int)} {p : List Int} (h : PatLen l) (hp : p.length ≤ 3) : PatLen (addI a l p) ∧ (addI a l p).length ≤ l.length + 1 := by
  by_cases h1 : (p.length : Int) = a
  · rw [addI_yes h1]; exact ⟨addP_len h hp, addP_le _ _⟩
  · rw [addI_no h1]; exact ⟨h, by omega⟩

set_option maxRecDepth 10000 in
set_option maxHeartbeats 1000000 in
theorem patternsOf1_c (b1 b3 : Nat) (a : Int) (rs : List (List Int × List Int)) (s : Sv) (l : List (List Int)) (p : List Int) (hll : l.length ≤ 100) (hp : p.length ≤ 3) :
    Spec Try.prog 189 [vsl 1 (fun x : Int => [vint x]) p, vptr b1 0, vptr b3 0] [hcells b1 [vint a, vsl 2 (fun y : (List Int) × (List Int) => [vsl 1 (fun x : Int => [vint x]) y.1, vsl 1 (fun x : Int => [vint x]) y.2]) rs], hcells b3 [vlit (vsv s)], hsl (tS tInt) (vsv s) l]
      (fun r S' => ∃ s' : Sv, r = vtup [] ∧ S' = [hcells b1 [vint a, vsl 2 (fun y : (List Int) × (List Int) => [vsl 1 (fun x : Int => [vint x]) y.1, vsl 1 (fun x : Int => [vint x]) y.2]) rs], hcells b3 [vlit (vsv s')], hsl (tS tInt) (vsv s') (addI a l p)]) := by
  refine Spec.of_run2 (n := 20) Try.func189 rfl Try.results189 Try.ntmps189 rfl ?_
  repeat' (first | (with_reducible first | refine RL.done ?_ | refine RD.app1 ?_) | (with_reducible refine RL.wanted ?_ ?_; exact rfl) | ((with_reducible show Run _ _ (.region 1 _ true) _ _ _); refine Run.regionD (fun i => i == 4 || i == 5) rfl ?_; change RD _ _ _ _ _ _ 6 (dm 6 0) _ _) | ((with_reducible show RD _ _ 1 _ _ _ _ _ _ _); first | ((with_reducible show RD _ _ _ _ _ _ _ (dm 6 0) _ _); refine RD.tk 0 (dm 6 48) (dm 6 1) (hK := ?_)) | ((with_reducible show RD _ _ _ _ _ _ _ (dm 6 1) _ _); refine RD.tk 1 (dm 6 60) (dm 6 3) (hK := ?_)) | ((with_reducible show RD _ _ _ _ _ _ _ (dm 6 3) _ _); refine RD.a1 2 ?_) | ((with_reducible show RD _ _ _ _ _ _ _ (dm 6 7) _ _); refine RD.a1 3 ?_) | ((with_reducible show RD _ _ _ _ _ _ _ (dm 6 15) _ _); refine RD.a1 4 ?_) | ((with_reducible show RD _ _ _ _ _ _ _ (dm 6 31) _ _); refine RD.a1 5 ?_) | ((with_reducible show RD _ _ _ _ _ _ 0 _ _ _); refine RD.done (by kernel_rfl) ?_)) | ((with_reducible show RO _ _ 1 _ _ _ _ _ _ _ _); first | ((with_reducible show RO _ _ _ _ _ _ _ (dm 6 3) 2 _ _); (refine RO.cP (dm 6 7) Try.call77 ?_; refine ⟨_, clone_c _ (by omega), ?_⟩; rintro _ _ ⟨s1, rfl, rfl⟩)) | ((with_reducible show RO _ _ _ _ _ _ _ (dm 6 7) 3 _ _); (refine RO.eS (dm 6 15) (hv := by show EOpS _ _ _ _ ⟨_, .buildSlice _ _ _, _, _, _, _⟩ _; exact EOpS.slitV (by ((repeat (first | exact Elts.nil | apply Elts.one1 rfl | apply Elts.agg2 rfl)); done)) (by simp) rfl rfl) (h := ?_); rintro _ _ ⟨b18, rfl, rfl⟩)) | ((with_reducible show RO _ _ _ _ _ _ _ (dm 6 15) 4 _ _); (refine RO.h (dm 6 31) ?_; show RH _ _ _ ⟨_, _, _, _, _, _⟩ _ _ _ _)) | ((with_reducible show RO _ _ _ _ _ _ _ (dm 6 31) 5 _ _); (refine RO.h (dm 6 63) ?_; show RH _ _ _ ⟨_, _, _, _, _, _⟩ _ _ _ _))) | ((with_reducible show RH _ _ _ ⟨_, .call ⟨.value (.func 190), _, _⟩, _, _, _, _⟩ _ _ _ _); refine RH.cL Try.call190 ?_; apply Exists.intro; apply And.intro; (focus ((repeat (first | exact LVs.nil | (apply LVs.sl; (with_reducible repeat (first | exact Has.head | apply Has.tail)); exact inferInstance; exact rfl) | apply LVs.refl)); done)); refine ⟨_, patternAt_c _ _ (by omega) (by omega), (by intro r H h; first | (obtain ⟨rfl, rfl⟩ := h; exact ⟨inferInstance, inferInstance⟩) | (obtain ⟨_, rfl, rfl⟩ := h; exact ⟨inferInstance, inferInstance⟩) | (obtain ⟨_, _, rfl, rfl⟩ := h; exact ⟨inferInstance, inferInstance⟩) | (obtain ⟨_, _, rfl, rfl, _⟩ := h; exact ⟨inferInstance, inferInstance⟩)), ?_⟩; rintro _ _ ⟨rfl, rfl⟩; refine RL.nm ?_) | ((with_reducible show RH _ _ _ ⟨_, .call ⟨.builtin .append, _, _⟩, _, _, _, _⟩ _ _ _ _); (refine RH.appR rfl rfl rfl (by repeat (first | exact Pick.nil | (apply Pick.cons; (with_reducible repeat (first | exact Rem.head | apply Rem.tail))))) (by first | omega | (simp; omega)) (by first | omega | (simp; omega)) ?_); rintro _ _ ⟨s, rfl, rfl⟩) | ((with_reducible show RH _ _ _ _ _ _ _ _); first | refine RH.val (hK := ?_) | refine RH.upd (hK := ?_)) | (with_reducible show RL _ _ _ (_ :: _) _ _ _; first | refine RL.guardYes rfl rfl rfl rfl ?_ | refine RL.guardNoS rfl rfl rfl rfl rfl rfl ?_ | refine RL.splitD rfl rfl rfl (fun h => ?_) (fun h => ?_)) | (with_reducible first | refine Run.seq ?_ | refine Run.region ?_ | refine Run.skip ?_) | (with_reducible show Run _ _ (.cond _ _ _) _ _ _; first | refine Run.condF rfl ?_ | refine Run.condD rfl (fun h => ?_) (fun h => ?_)) | (with_reducible refine seqN (K := Run _ _ _ _) ?_))
  · refine ⟨eA, _, [hcells b1 [vint a, vsl 2 (fun y : (List Int) × (List Int) => [vsl 1 (fun x : Int => [vint x]) y.1, vsl 1 (fun x : Int => [vint x]) y.2]) rs], hcells b3 [vlit (vsv s)], hsl (tS tInt) (vsv s) (l ++ [p])], resA, SEnt.ch chA, s, rfl, ?_⟩
    rw [addI, if_pos ⟨by assumption, by assumption⟩]
  · refine ⟨eA, _, [hcells b1 [vint a, vsl 2 (fun y : (List Int) × (List Int) => [vsl 1 (fun x : Int => [vint x]) y.1, vsl 1 (fun x : Int => [vint x]) y.2]) rs], hcells b3 [vlit (vsv s)], hsl (tS tInt) (vsv s) l], resA, SEnt.ch chA, s, rfl, ?_⟩
    rw [addI, if_neg (fun h => absurd h.2 (by assumption))]
  · refine ⟨eA, _, [hcells b1 [vint a, vsl 2 (fun y : (List Int) × (List Int) => [vsl 1 (fun x : Int => [vint x]) y.1, vsl 1 (fun x : Int => [vint x]) y.2]) rs], hcells b3 [vlit (vsv s)], hsl (tS tInt) (vsv s) l], resA, SEnt.ch chA, s, rfl, ?_⟩
    rw [addI, if_neg (fun h => absurd h.1 (by assumption))]

set_option maxRecDepth 10000 in
set_option maxHeartbeats 1000000 in
theorem patternsOf_c (a : Int) (rs : List (List Int × List Int)) (hc : condB a rs = true) :
    Spec Try.prog 171 [vagg [vint a, vsl 2 (fun y : (List Int) × (List Int) => [vsl 1 (fun x : Int => [vint x]) y.1, vsl 1 (fun x : Int => [vint x]) y.2]) rs]] [] (fun r S' => ∃ s : Sv, r = vlit (vsv s) ∧ S' = [hsl (tS tInt) (vsv s) (pats rs)]) := by
  obtain ⟨ha, h6, hr⟩ := condB_rules hc
  have hr3 : ∀ y ∈ rs, y.1.length ≤ 3 ∧ y.2.length ≤ 3 := fun y hy => by have := hr y hy; omega
  refine Spec.of_run2 (n := 26) Try.func171 rfl Try.results171 Try.ntmps171 rfl ?_
  repeat' (first | (with_reducible refine RL.done ?_) | (with_reducible refine RL.wanted ?_ ?_; exact rfl) | ((with_reducible show RH _ _ _ ⟨some 1, .box _ _, _, _, _, _⟩ _ _ _ _); (refine RH.boxAgg rfl rfl ?_; rintro _ _ ⟨b1, rfl, rfl⟩)) | ((with_reducible show RH _ _ _ ⟨some 7, .buildSlice _ _ _, _, _, _, _⟩ _ _ _ _); (refine RH.eff rfl rfl (EOpS.e (EOpS.slitV (by ((repeat (first | exact Elts.nil | apply Elts.one1 rfl | apply Elts.agg2 rfl)); done)) (by simp) rfl rfl)) ?_; rintro _ _ ⟨b7, rfl, rfl⟩)) | ((with_reducible show RH _ _ _ ⟨some 3, .alloc _, _, _, _, _⟩ _ _ _ _); refine RH.alloc rfl ?_; rintro _ _ ⟨b3, rfl, rfl⟩) | ((with_reducible show RH _ _ _ _ _ _ _ _); first | refine RH.val (hK := ?_) | refine RH.upd (hK := ?_)) | (with_reducible first | refine Run.seq ?_ | refine Run.region ?_ | refine Run.block ?_) | (with_reducible refine seqN (K := Run _ _ _ _) ?_))
  refine Run.sent (T := [hsl (tS tInt) (vsv (some ⟨b7, 0, none⟩, 0, 0)) [], hcells b3 [vsb b7 0 0], hcells b1 [vint a, vsl 2 (fun y : (List Int) × (List Int) => [vsl 1 (fun x : Int => [vint x]) y.1, vsl 1 (fun x : Int => [vint x]) y.2]) rs]]) ((SEnt.pick (.cons (.tail .head) .nil)).trans (SEnt.packNil (tS tInt) rfl)) ?_
  refine Run.loop (α := Nat × Sv) (fun z => [(3, vptr b3 0), (4, vlit (.func (.func 189) #[] #[.pointer (some ⟨b1, 0, none⟩), .pointer (some ⟨b3, 0, none⟩)])), (10, vsl 2 (fun y : (List Int) × (List Int) => [vsl 1 (fun x : Int => [vint x]) y.1, vsl 1 (fun x : Int => [vint x]) y.2]) rs), (11, vint (rs.length : Int)), (12, vint (z.1 : Int))]) (fun z => [hsl (tS tInt) (vsv z.2) (pats (rs.take z.1)), hcells b3 [vlit (vsv z.2)], hcells b1 [vint a, vsl 2 (fun y : (List Int) × (List Int) => [vsl 1 (fun x : Int => [vint x]) y.1, vsl 1 (fun x : Int => [vint x]) y.2]) rs]]) (fun z => z.1 ≤ rs.length) (fun z => rs.length - z.1) (0, (some ⟨b7, 0, none⟩, 0, 0)) (by simp) (Ent.of slA (.cons .head (by simp [pats]) .refl)) ?_
  rintro ⟨j, s⟩ hj
  dsimp only at hj ⊢
  rcases Nat.lt_or_eq_of_le hj with h9 | rfl
  · obtain ⟨l, hl⟩ : ∃ l, l = pats (rs.take j) := ⟨_, rfl⟩
    have hpl : PatLen l := by rw [hl]; exact pats_len hr3 j
    have hll : l.length ≤ 12 := by rw [hl]; have := pats_le rs j; omega
    have hy3 := hr3 _ (List.getElem_mem h9)
    have hry := hr _ (List.getElem_mem h9)
    have hadd : (addI a l rs[j].1).length ≤ 100 := by have := (addI_len (a := a) hpl hy3.1).2; omega
    have hsucc := pats_succ rs j h9
    rw [← hl] at hsucc ⊢
    repeat' (first | (with_reducible refine RL.done ?_) | (with_reducible refine RL.wanted ?_ ?_; exact rfl) | ((with_reducible show RH _ _ _ ⟨some 6, .alloc _, _, _, _, _⟩ _ _ _ _); refine RH.alloc rfl ?_; rintro _ _ ⟨b6, rfl, rfl⟩) | ((with_reducible show RH _ _ _ ⟨_, .call ⟨.value (.tmp _), _, _⟩, _, _, _, _⟩ _ _ _ _); refine RH.cC Try.call189 ?_; refine ⟨_, _, _, (by repeat (first | exact Pick.nil | (apply Pick.cons; (with_reducible repeat (first | exact Rem.head | apply Rem.tail))))), patternsOf1_c b1 b3 a rs _ _ _ (by first | omega | exact hadd) (by omega), ?_⟩; rintro _ _ ⟨s, rfl, rfl⟩; refine RL.nm ?_) | ((with_reducible show RH _ _ _ _ _ _ _ _); first | refine RH.val (hK := ?_) | refine RH.upd (hK := ?_)) | (with_reducible first | refine Run.seq ?_ | refine Run.region ?_ | refine Run.block ?_ | refine Run.skip ?_ | refine Run.exit ?_ | refine Run.ret ?_) | (with_reducible show Run _ _ (.cond _ _ _) _ _ _; refine Run.condD rfl (fun h => ?_) (fun h => ?_)) | (with_reducible first | refine seqN (K := Run _ _ _ _) ?_ | refine seqE ?_ | refine blockN ?_ | refine blockE ?_))
    · with_reducible refine seqN ?_
      exact ⟨(j + 1, _), by (try dsimp only); omega, by (try dsimp only); omega, Ent.of (by (try dsimp only); exact slA) (by dsimp only; exact .cons (.tail (.tail .head)) (by rw [addI_step ha.1 l rs[j] hry.1 hry.2, ← hsucc]) chA)⟩
    · exfalso; omega
  · repeat' (first | (with_reducible refine RL.done ?_) | (with_reducible refine RL.wanted ?_ ?_; exact rfl) | ((with_reducible show RH _ _ _ ⟨some 6, .alloc _, _, _, _, _⟩ _ _ _ _); refine RH.alloc rfl ?_; rintro _ _ ⟨b6, rfl, rfl⟩) | ((with_reducible show RH _ _ _ ⟨_, .call ⟨.value (.tmp _), _, _⟩, _, _, _, _⟩ _ _ _ _); refine RH.cC Try.call189 ?_; refine ⟨_, _, _, (by repeat (first | exact Pick.nil | (apply Pick.cons; (with_reducible repeat (first | exact Rem.head | apply Rem.tail))))), patternsOf1_c b1 b3 a rs _ _ _ (by first | omega | exact hadd) (by omega), ?_⟩; rintro _ _ ⟨s, rfl, rfl⟩; refine RL.nm ?_) | ((with_reducible show RH _ _ _ _ _ _ _ _); first | refine RH.val (hK := ?_) | refine RH.upd (hK := ?_)) | (with_reducible first | refine Run.seq ?_ | refine Run.region ?_ | refine Run.block ?_ | refine Run.skip ?_ | refine Run.exit ?_ | refine Run.ret ?_) | (with_reducible show Run _ _ (.cond _ _ _) _ _ _; refine Run.condD rfl (fun h => ?_) (fun h => ?_)) | (with_reducible first | refine seqN (K := Run _ _ _ _) ?_ | refine seqE ?_ | refine blockN ?_ | refine blockE ?_))
    · omega
    · refine ⟨eA, _, [hsl (tS tInt) (vsv s) (pats rs)], resA, ?_, ?_⟩
      · exact SEnt.ch (.cons .head (by simp) .nil)
      · exact ⟨s, rfl, rfl⟩
end Go.Proofs.Ytiifdhdhjioefaa
