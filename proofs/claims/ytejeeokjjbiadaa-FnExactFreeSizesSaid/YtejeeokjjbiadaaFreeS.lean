/- The sizes of the free algebras: spec.FreeSizes, impl.FreeSizes: the same answer. Proved for this program; conditions: lengths below 2^62. -/
import Derived.Test.YtejeeokjjbiadaaFree
namespace Go.Proofs.Ytejeeokjjbiadaa
open Go Go.Proofs
set_option linter.unusedVariables false
theorem szL_yes {n : Int} {os : List (Int × List Int)} {F : Int → Option (List (List Int))} {d k : Nat} {X : List (List Int)} (h : genO (rankB n os (k : Int)) (F (k : Int)) = some X) : szL n os F (d + 1) k = (X.length : Int) :: szL n os F d (k + 1) := by
  rw [szL, h]
theorem szL_no {n : Int} {os : List (Int × List Int)} {F : Int → Option (List (List Int))} {d k : Nat} (h : genO (rankB n os (k : Int)) (F (k : Int)) = none) : szL n os F d k = [] := by
  cases d with
  | zero => rfl
  | succ d => rw [szL, h]
theorem szL_len (n : Int) (os : List (Int × List Int)) (F : Int → Option (List (List Int))) : ∀ d k, (szL n os F d k).length ≤ d
  | 0, _ => Nat.le_refl _
  | d + 1, k => by
    rw [szL]
    split
    · exact Nat.zero_le _
    · have := szL_len n os F d (k + 1)
      rw [List.length_cons]; omega
def szV (n : Int) (os : List (Int × List Int)) (F : Int → Option (List (List Int))) : List Int := if algB n os then szL n os F 4 0 else []
abbrev SzRes (n : Int) (os : List (Int × List Int)) (F : Int → Option (List (List Int))) (r : VP) (S' : List HP) : Prop := ∃ s : Sv, r = vtup [vlit (vsv s), vbool (algB n os)] ∧ S' = [hsl tInt (vsv s) (szV n os F)]
set_option maxRecDepth 10000 in
set_option maxHeartbeats 2000000 in
theorem specSizes_c (n : Int) (os : List (Int × List Int)) (F : Int → Option (List (List Int))) (hF : ∀ k, FreeIs n os k (F k)) (hol : os.length ≤ 4611686018427387904) (ho : OpsLen os) :
    Spec Try.prog 31 [vagg [vint n, vsl 2 (fun y : Int × (List Int) => [vint y.1, vsl 1 (fun x : Int => [vint x]) y.2]) os]] [] (SzRes n os F) := by
  have hG := l2Good_c n os hol ho
  cases ha : algB n os with
  | false =>
    have e : szV n os F = [] := by rw [szV, ha]; rfl
    rw [ha] at hG
    refine Spec.of_run2 (n := 32) Try.func31 rfl Try.results31 Try.ntmps31 rfl ?_
    repeat' (first | (with_reducible first | refine RL.done ?_ | refine RL.app0 ?_) | (with_reducible refine RL.wanted ?_ ?_; exact rfl) | ((with_reducible show RH _ _ _ ⟨some 1, .box _ _, _, _, _, _⟩ _ _ _ _); (refine RH.boxAgg rfl rfl ?_; rintro _ _ ⟨b1, rfl, rfl⟩)) | ((with_reducible show RH _ _ _ ⟨some 8, .buildSlice _ _ _, _, _, _, _⟩ _ _ _ _); refine RH.eff rfl rfl (EOpS.e (EOpS.slit (fun x : Int => [vint x]) _ (fun _ _ => rfl) (by repeat (first | exact Elts.nil | (apply Elts.cons; exact rfl; exact CellsOf.one))) rfl rfl)) ?_; rintro _ _ ⟨b8, rfl, rfl⟩) | ((with_reducible show RH _ _ _ ⟨_, .call ⟨.value (.func 94), _, _⟩, _, _, _, _⟩ _ _ _ _); refine RH.cP Try.call94 ?_; refine ⟨_, hG, ?_⟩; rintro _ _ ⟨rfl, rfl⟩) | ((with_reducible show RH _ _ _ _ _ _ _ _); refine RH.val (hK := ?_)) | (with_reducible first | refine Run.seq ?_ | refine Run.region ?_ | refine Run.ret ?_) | (with_reducible show Run _ _ (.cond _ _ _) _ _ _; refine Run.condT rfl ?_) | (with_reducible first | refine seqN (K := Run _ _ _ _) ?_ | refine seqR ?_))
    all_goals first
      | (exfalso; simp_all; done)
      | (refine ⟨eA, _, [hsl tInt (vsv (some ⟨b8, 0, none⟩, 0, 0)) []], resA, ?_, ?_⟩
         · exact (SEnt.packNil tInt rfl).trans (SEnt.ch (.cons .head rfl .nil))
         · exact ⟨(some ⟨b8, 0, none⟩, 0, 0), by rw [ha]; rfl, by rw [e]⟩)
  | true =>
    have e : szV n os F = szL n os F 4 0 := by rw [szV, ha]; rfl
    rw [ha] at hG
    refine Spec.of_run2 (n := 32) Try.func31 rfl Try.results31 Try.ntmps31 rfl ?_
    repeat' (first | (with_reducible first | refine RL.done ?_ | refine RL.app0 ?_) | (with_reducible refine RL.wanted ?_ ?_; exact rfl) | ((with_reducible show RH _ _ _ ⟨some 1, .box _ _, _, _, _, _⟩ _ _ _ _); (refine RH.boxAgg rfl rfl ?_; rintro _ _ ⟨b1, rfl, rfl⟩)) | ((with_reducible show RH _ _ _ ⟨some 8, .buildSlice _ _ _, _, _, _, _⟩ _ _ _ _); refine RH.eff rfl rfl (EOpS.e (EOpS.slit (fun x : Int => [vint x]) _ (fun _ _ => rfl) (by repeat (first | exact Elts.nil | (apply Elts.cons; exact rfl; exact CellsOf.one))) rfl rfl)) ?_; rintro _ _ ⟨b8, rfl, rfl⟩) | ((with_reducible show RH _ _ _ ⟨_, .call ⟨.value (.func 94), _, _⟩, _, _, _, _⟩ _ _ _ _); refine RH.cP Try.call94 ?_; refine ⟨_, hG, ?_⟩; rintro _ _ ⟨rfl, rfl⟩) | ((with_reducible show RH _ _ _ _ _ _ _ _); refine RH.val (hK := ?_)) | (with_reducible first | refine Run.seq ?_ | refine Run.region ?_ | refine Run.block ?_ | refine Run.skip ?_) | (with_reducible show Run _ _ (.cond _ _ _) _ _ _; refine Run.condF rfl ?_) | (with_reducible refine seqN (K := Run _ _ _ _) ?_))
    all_goals first
      | (exfalso; simp_all; done)
      | skip
    refine Run.sent (T := [hsl tInt (vsv (some ⟨b8, 0, none⟩, 0, 0)) [], hcells b1 [vint n, vsl 2 (fun y : Int × (List Int) => [vint y.1, vsl 1 (fun x : Int => [vint x]) y.2]) os]]) (SEnt.packNil tInt rfl) ?_
    refine Run.loop (α := Nat × Sv × List Int) (fun z => [(1, vptr b1 0), (4, vlit (vsv z.2.1)), (5, vint (z.1 : Int))])
      (fun z => [hsl tInt (vsv z.2.1) z.2.2, hcells b1 [vint n, vsl 2 (fun y : Int × (List Int) => [vint y.1, vsl 1 (fun x : Int => [vint x]) y.2]) os]]) (fun z => z.1 ≤ 4 ∧ z.2.2.length = z.1 ∧ z.2.2 ++ szL n os F (4 - z.1) z.1 = szL n os F 4 0) (fun z => 4 - z.1) (0, (some ⟨b8, 0, none⟩, 0, 0), []) ⟨Nat.zero_le _, rfl, rfl⟩ (Ent.of slA .refl) ?_
    rintro ⟨k, s, xs⟩ ⟨hk, hxl, hxs⟩
    dsimp only at hk hxl hxs ⊢
    cases hO : genO (rankB n os (k : Int)) (F (k : Int)) with
    | none =>
      have hxe : xs = szL n os F 4 0 := by rw [← hxs, szL_no hO, List.append_nil]
      subst hxe
      repeat' (first | (with_reducible first | refine RL.done ?_ | refine RL.app0 ?_ | refine RL.app1 ?_) | (with_reducible refine RL.wanted ?_ ?_; exact rfl) | ((with_reducible show RH _ _ _ ⟨_, .call ⟨.value (.func 95), _, _⟩, _, _, _, _⟩ _ _ _ _); refine RH.cP Try.call95 ?_; refine ⟨_, l11Rank_c n os _ hol ho, ?_⟩; rintro _ _ ⟨rfl, rfl⟩) | ((with_reducible show RH _ _ _ ⟨_, .call ⟨.value (.func 77), _, _⟩, _, _, _, _⟩ _ _ _ _); refine RH.cP Try.call77 ?_; refine ⟨_, freeS_no (hF _) hol ho hO, ?_⟩; rintro _ _ ⟨s21, rfl, rfl⟩) | ((with_reducible show Post.block 1 _ (.exit 0) _ _); refine blockX rfl ?_) | ((with_reducible show RH _ _ _ _ _ _ _ _); refine RH.val (hK := ?_)) | (with_reducible first | refine Run.seq ?_ | refine Run.region ?_ | refine Run.block ?_ | refine Run.skip ?_ | refine Run.exit ?_ | refine Run.ret ?_) | (with_reducible show Run _ _ (.cond _ _ _) _ _ _; first | refine Run.condT rfl ?_ | refine Run.cond rfl (fun h => ?_) (fun h => ?_)) | (with_reducible first | refine seqN (K := Run _ _ _ _) ?_ | refine seqE ?_ | refine blockE ?_))
      all_goals first
        | (refine ⟨eA, _, [hsl tInt (vsv s) (szL n os F 4 0)], resA, ?_, ?_⟩
           · exact SEnt.ch chA
           · exact ⟨s, by rw [ha]; rfl, by rw [e]⟩)
    | some X =>
      obtain ⟨hg, _⟩ := genO_some hO
      obtain ⟨_, hk3, _⟩ := rankB_at hg
      obtain ⟨d, hd⟩ : ∃ d, 4 - k = d + 1 := ⟨4 - k - 1, by omega⟩
      rw [hd, szL_yes hO] at hxs
      have hd2 : 4 - (k + 1) = d := by omega
      repeat' (first | (with_reducible first | refine RL.done ?_ | refine RL.app0 ?_ | refine RL.app1 ?_) | (with_reducible refine RL.wanted ?_ ?_; exact rfl) | ((with_reducible show RH _ _ _ ⟨some 29, .buildSlice _ _ _, _, _, _, _⟩ _ _ _ _); refine RH.eff rfl rfl (EOpS.e (EOpS.slit (fun x : Int => [vint x]) _ (fun _ _ => rfl) (by repeat (first | exact Elts.nil | (apply Elts.cons; exact rfl; exact CellsOf.one))) rfl rfl)) ?_; rintro _ _ ⟨b29, rfl, rfl⟩) | ((with_reducible show RH _ _ _ ⟨_, .call ⟨.value (.func 95), _, _⟩, _, _, _, _⟩ _ _ _ _); refine RH.cP Try.call95 ?_; refine ⟨_, l11Rank_c n os _ hol ho, ?_⟩; rintro _ _ ⟨rfl, rfl⟩) | ((with_reducible show RH _ _ _ ⟨_, .call ⟨.value (.func 77), _, _⟩, _, _, _, _⟩ _ _ _ _); refine RH.cP Try.call77 ?_; refine ⟨_, freeS_yes (hF _) hol ho hO, ?_⟩; rintro _ _ ⟨s21, rfl, rfl⟩) | ((with_reducible show RH _ _ _ ⟨_, .call ⟨.builtin .append, _, _⟩, _, _, _, _⟩ _ _ _ _); (refine RH.appI rfl rfl rfl (by repeat (first | exact Pick.nil | (apply Pick.cons; (with_reducible repeat (first | exact Rem.head | apply Rem.tail))))) (by first | omega | (simp; omega)) (by first | omega | (simp; omega)) ?_); rintro _ _ ⟨s, rfl, rfl⟩) | ((with_reducible show RH _ _ _ _ _ _ _ _); refine RH.val (hK := ?_)) | (with_reducible first | refine Run.seq ?_ | refine Run.region ?_ | refine Run.block ?_ | refine Run.skip ?_ | refine Run.exit ?_ | refine Run.ret ?_) | (with_reducible show Run _ _ (.cond _ _ _) _ _ _; first | refine Run.condF rfl ?_ | refine Run.cond rfl (fun h => ?_) (fun h => ?_)) | (with_reducible first | refine seqN (K := Run _ _ _ _) ?_ | refine seqE ?_ | refine blockN ?_ | refine blockE ?_))
      all_goals first
        | (exfalso; simp_all; done)
        | (with_reducible refine seqN ?_
           exact ⟨(k + 1, _, xs ++ [(X.length : Int)]), ⟨by dsimp only; omega, by simp [hxl], by dsimp only; rw [hd2, ← hxs]; simp⟩, by dsimp only; omega, Ent.of (by dsimp only; exact slA) (by dsimp only; exact chA)⟩)
set_option maxRecDepth 10000 in
set_option maxHeartbeats 2000000 in
theorem implSizes_c (n : Int) (os : List (Int × List Int)) (F : Int → Option (List (List Int))) (hF : ∀ k, FreeIs n os k (F k)) (hol : os.length ≤ 4611686018427387904) (ho : OpsLen os) :
    Spec Try.prog 32 [vagg [vint n, vsl 2 (fun y : Int × (List Int) => [vint y.1, vsl 1 (fun x : Int => [vint x]) y.2]) os]] [] (SzRes n os F) := by
  have hG := isAlgebra_c n os hol ho
  cases ha : algB n os with
  | false =>
    have e : szV n os F = [] := by rw [szV, ha]; rfl
    rw [ha] at hG
    refine Spec.of_run2 (n := 37) Try.func32 rfl Try.results32 Try.ntmps32 rfl ?_
    repeat' (first | (with_reducible first | refine RL.done ?_ | refine RL.app0 ?_) | (with_reducible refine RL.wanted ?_ ?_; exact rfl) | ((with_reducible show RH _ _ _ ⟨some 1, .box _ _, _, _, _, _⟩ _ _ _ _); (refine RH.boxAgg rfl rfl ?_; rintro _ _ ⟨b1, rfl, rfl⟩)) | ((with_reducible show RH _ _ _ ⟨some 11, .buildSlice _ _ _, _, _, _, _⟩ _ _ _ _); refine RH.eff rfl rfl (EOpS.e (EOpS.slit (fun x : Int => [vint x]) _ (fun _ _ => rfl) (by repeat (first | exact Elts.nil | (apply Elts.cons; exact rfl; exact CellsOf.one))) rfl rfl)) ?_; rintro _ _ ⟨b11, rfl, rfl⟩) | ((with_reducible show RH _ _ _ ⟨_, .call ⟨.value (.func 96), _, _⟩, _, _, _, _⟩ _ _ _ _); refine RH.cP Try.call96 ?_; refine ⟨_, hG, ?_⟩; rintro _ _ ⟨rfl, rfl⟩) | ((with_reducible show RH _ _ _ _ _ _ _ _); refine RH.val (hK := ?_)) | (with_reducible first | refine Run.seq ?_ | refine Run.region ?_ | refine Run.ret ?_) | (with_reducible show Run _ _ (.cond _ _ _) _ _ _; refine Run.condT rfl ?_) | (with_reducible first | refine seqN (K := Run _ _ _ _) ?_ | refine seqR ?_))
    all_goals first
      | (exfalso; simp_all; done)
      | (refine ⟨eA, _, [hsl tInt (vsv (some ⟨b11, 0, none⟩, 0, 0)) []], resA, ?_, ?_⟩
         · exact (SEnt.packNil tInt rfl).trans (SEnt.ch (.cons .head rfl .nil))
         · exact ⟨(some ⟨b11, 0, none⟩, 0, 0), by rw [ha]; rfl, by rw [e]⟩)
  | true =>
    have e : szV n os F = szL n os F 4 0 := by rw [szV, ha]; rfl
    rw [ha] at hG
    refine Spec.of_run2 (n := 37) Try.func32 rfl Try.results32 Try.ntmps32 rfl ?_
    repeat' (first | (with_reducible first | refine RL.done ?_ | refine RL.app0 ?_) | (with_reducible refine RL.wanted ?_ ?_; exact rfl) | ((with_reducible show RH _ _ _ ⟨some 1, .box _ _, _, _, _, _⟩ _ _ _ _); (refine RH.boxAgg rfl rfl ?_; rintro _ _ ⟨b1, rfl, rfl⟩)) | ((with_reducible show RH _ _ _ ⟨some 12, .buildSlice _ _ _, _, _, _, _⟩ _ _ _ _); refine RH.eff rfl rfl (EOpS.e (EOpS.slit (fun x : Int => [vint x]) _ (fun _ _ => rfl) (by repeat (first | exact Elts.nil | (apply Elts.cons; exact rfl; exact CellsOf.one))) rfl rfl)) ?_; rintro _ _ ⟨b12, rfl, rfl⟩) | ((with_reducible show RH _ _ _ ⟨_, .call ⟨.value (.func 96), _, _⟩, _, _, _, _⟩ _ _ _ _); refine RH.cP Try.call96 ?_; refine ⟨_, hG, ?_⟩; rintro _ _ ⟨rfl, rfl⟩) | ((with_reducible show RH _ _ _ _ _ _ _ _); refine RH.val (hK := ?_)) | (with_reducible first | refine Run.seq ?_ | refine Run.region ?_ | refine Run.block ?_ | refine Run.skip ?_) | (with_reducible show Run _ _ (.cond _ _ _) _ _ _; refine Run.condF rfl ?_) | (with_reducible refine seqN (K := Run _ _ _ _) ?_))
    all_goals first
      | (exfalso; simp_all; done)
      | skip
    refine Run.sent (T := [hsl tInt (vsv (some ⟨b12, 0, none⟩, 0, 0)) [], hcells b1 [vint n, vsl 2 (fun y : Int × (List Int) => [vint y.1, vsl 1 (fun x : Int => [vint x]) y.2]) os]]) (SEnt.packNil tInt rfl) ?_
    refine Run.loop (α := Nat × Sv × List Int) (fun z => [(1, vptr b1 0), (4, vlit (vsv z.2.1)), (5, vint (z.1 : Int))])
      (fun z => [hsl tInt (vsv z.2.1) z.2.2, hcells b1 [vint n, vsl 2 (fun y : Int × (List Int) => [vint y.1, vsl 1 (fun x : Int => [vint x]) y.2]) os]]) (fun z => z.1 ≤ 4 ∧ z.2.2.length = z.1 ∧ z.2.2 ++ szL n os F (4 - z.1) z.1 = szL n os F 4 0) (fun z => 4 - z.1) (0, (some ⟨b12, 0, none⟩, 0, 0), []) ⟨Nat.zero_le _, rfl, rfl⟩ (Ent.of slA .refl) ?_
    rintro ⟨k, s, xs⟩ ⟨hk, hxl, hxs⟩
    dsimp only at hk hxl hxs ⊢
    cases hO : genO (rankB n os (k : Int)) (F (k : Int)) with
    | none =>
      have hxe : xs = szL n os F 4 0 := by rw [← hxs, szL_no hO, List.append_nil]
      subst hxe
      repeat' (first | (with_reducible first | refine RL.done ?_ | refine RL.app0 ?_) | (with_reducible refine RL.wanted ?_ ?_; exact rfl) | ((with_reducible show RH _ _ _ ⟨_, .call ⟨.value (.func 82), _, _⟩, _, _, _, _⟩ _ _ _ _); refine RH.cP Try.call82 ?_; refine ⟨_, freeI_no (hF _) hol ho hO, ?_⟩; rintro _ _ ⟨rfl, rfl⟩) | ((with_reducible show Post.block 1 _ (.exit 0) _ _); refine blockX rfl ?_) | ((with_reducible show RH _ _ _ _ _ _ _ _); refine RH.val (hK := ?_)) | (with_reducible first | refine Run.seq ?_ | refine Run.region ?_ | refine Run.block ?_ | refine Run.skip ?_ | refine Run.exit ?_ | refine Run.ret ?_) | (with_reducible show Run _ _ (.cond _ _ _) _ _ _; first | refine Run.condT rfl ?_ | refine Run.condD rfl (fun h => ?_) (fun h => ?_)) | (with_reducible first | refine seqN (K := Run _ _ _ _) ?_ | refine seqE ?_ | refine blockE ?_))
      all_goals first
        | (refine ⟨eA, _, [hsl tInt (vsv s) (szL n os F 4 0)], resA, ?_, ?_⟩
           · exact SEnt.ch chA
           · exact ⟨s, by rw [ha]; rfl, by rw [e]⟩)
    | some X =>
      obtain ⟨hg, _⟩ := genO_some hO
      obtain ⟨_, hk3, _⟩ := rankB_at hg
      obtain ⟨d, hd⟩ : ∃ d, 4 - k = d + 1 := ⟨4 - k - 1, by omega⟩
      rw [hd, szL_yes hO] at hxs
      have hd2 : 4 - (k + 1) = d := by omega
      repeat' (first | (with_reducible first | refine RL.done ?_ | refine RL.app4 ?_) | (with_reducible refine RL.wanted ?_ ?_; exact rfl) | ((with_reducible show RH _ _ _ ⟨some 34, .buildSlice _ _ _, _, _, _, _⟩ _ _ _ _); refine RH.eff rfl rfl (EOpS.e (EOpS.slit (fun x : Int => [vint x]) _ (fun _ _ => rfl) (by repeat (first | exact Elts.nil | (apply Elts.cons; exact rfl; exact CellsOf.one))) rfl rfl)) ?_; rintro _ _ ⟨b34, rfl, rfl⟩) | ((with_reducible show RH _ _ _ ⟨_, .call ⟨.value (.func 82), _, _⟩, _, _, _, _⟩ _ _ _ _); refine RH.cP Try.call82 ?_; refine ⟨_, freeI_yes (hF _) hol ho hO, ?_⟩; rintro _ _ ⟨b, bs, bm, s2, kv, rfl, rfl, hkv⟩) | ((with_reducible show RH _ _ _ ⟨_, .call ⟨.builtin .append, _, _⟩, _, _, _, _⟩ _ _ _ _); (refine RH.appI rfl rfl rfl (by repeat (first | exact Pick.nil | (apply Pick.cons; (with_reducible repeat (first | exact Rem.head | apply Rem.tail))))) (by first | omega | (simp; omega)) (by first | omega | (simp; omega)) ?_); rintro _ _ ⟨s, rfl, rfl⟩) | ((with_reducible show RH _ _ _ _ _ _ _ _); refine RH.val (hK := ?_)) | (with_reducible first | refine Run.seq ?_ | refine Run.region ?_ | refine Run.block ?_ | refine Run.skip ?_ | refine Run.exit ?_ | refine Run.ret ?_) | (with_reducible show Run _ _ (.cond _ _ _) _ _ _; first | refine Run.condF rfl ?_ | refine Run.condD rfl (fun h => ?_) (fun h => ?_)) | (with_reducible first | refine seqN (K := Run _ _ _ _) ?_ | refine seqE ?_ | refine blockN ?_ | refine blockE ?_))
      all_goals first
        | (exfalso; omega)
        | (with_reducible refine seqN ?_
           exact ⟨(k + 1, _, xs ++ [(X.length : Int)]), ⟨by dsimp only; omega, by simp [hxl], by dsimp only; rw [hd2, ← hxs]; simp⟩, by dsimp only; omega, Ent.of (by dsimp only; exact slA) (by dsimp only; exact chA)⟩)
end Go.Proofs.Ytejeeokjjbiadaa
