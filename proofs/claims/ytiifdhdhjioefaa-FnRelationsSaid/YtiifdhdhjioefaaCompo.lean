/- The composition of two relations: spec.l13Compose, ComposeRelations, impl.composeRelations, ComposeRelations: the same answer. Proved for this program; conditions: lengths below 2^42. -/
import Derived.Test.YtiifdhdhjioefaaCompP
import Derived.Test.YtiifdhdhjioefaaProj
namespace Go.Proofs.Ytiifdhdhjioefaa
open Go Go.Proofs
set_option linter.unusedVariables false
set_option maxRecDepth 10000 in
set_option maxHeartbeats 2000000 in
theorem l13Compose_c (N : Nat) (a b : Int) (xs ys : List (List Int)) (hN : N ≤ 8) (hx : xs.length ≤ 512) (hy : ys.length ≤ 512) (hl1 : ∀ u ∈ xs, (u.length : Int) = a) (hs1 : Sorted xs) (hl2 : ∀ u ∈ ys, (u.length : Int) = b) (hs2 : Sorted ys) :
    Spec Try.prog 71 [vint (N : Int), vagg [vint a, vsl 1 (fun t : List Int => [vsl 1 (fun x : Int => [vint x]) t]) xs], vagg [vint b, vsl 1 (fun t : List Int => [vsl 1 (fun x : Int => [vint x]) t]) ys]] [] (fun r S' => ∃ s : Sv, r = vagg [vint 2, vlit (vsv s)] ∧ S' = [hsl (tS tInt) (vsv s) (cmpL N xs ys N)]) := by
  refine Spec.of_run2 (n := 55) Try.func71 rfl Try.results71 Try.ntmps71 rfl ?_
  repeat' (first | (with_reducible refine RL.done ?_) | (with_reducible refine RL.wanted ?_ ?_; exact rfl) | ((with_reducible show RH _ _ _ ⟨some 4, .box _ _, _, _, _, _⟩ _ _ _ _); (refine RH.boxAgg rfl rfl ?_; rintro _ _ ⟨b4, rfl, rfl⟩)) | ((with_reducible show RH _ _ _ ⟨some 5, .box _ _, _, _, _, _⟩ _ _ _ _); (refine RH.boxAgg rfl rfl ?_; rintro _ _ ⟨b5, rfl, rfl⟩)) | ((with_reducible show RH _ _ _ ⟨some 6, .alloc _, _, _, _, _⟩ _ _ _ _); refine RH.alloc rfl ?_; rintro _ _ ⟨b6, rfl, rfl⟩) | ((with_reducible show RH _ _ _ ⟨some 12, .buildSlice _ _ _, _, _, _, _⟩ _ _ _ _); (refine RH.eff rfl rfl (EOpS.e (EOpS.slitV (by ((repeat (first | exact Elts.nil | apply Elts.one1 rfl | apply Elts.agg2 rfl)); done)) (by simp) rfl rfl)) ?_; rintro _ _ ⟨b12, rfl, rfl⟩)) | ((with_reducible show RH _ _ _ ⟨some 7, .alloc _, _, _, _, _⟩ _ _ _ _); refine RH.alloc rfl ?_; rintro _ _ ⟨b7, rfl, rfl⟩) | ((with_reducible show RH _ _ _ _ _ _ _ _); first | refine RH.val (hK := ?_) | refine RH.upd (hK := ?_)) | (with_reducible first | refine Run.seq ?_ | refine Run.region ?_ | refine Run.block ?_) | (with_reducible refine seqN (K := Run _ _ _ _) ?_))
  refine Run.sent (T := [hsl (tS tInt) (vsv (some ⟨b12, 0, none⟩, 0, 0)) [], hcells b7 [vint 2, vsb b12 0 0], hcells b6 [vint 0, vlit (.slice none 0 0)], hcells b5 [vint b, vsl 1 (fun t : List Int => [vsl 1 (fun x : Int => [vint x]) t]) ys], hcells b4 [vint a, vsl 1 (fun t : List Int => [vsl 1 (fun x : Int => [vint x]) t]) xs]])
    ((SEnt.pick (.cons (.tail .head) .nil)).trans (SEnt.packNil (tS tInt) rfl)) ?_
  refine Run.loop (α := Nat × Sv) (fun z => [(0, vint (N : Int)), (4, vptr b4 0), (5, vptr b5 0), (6, vptr b6 0), (7, vptr b7 0), (8, vint (z.1 : Int))])
    (fun z => [hsl (tS tInt) (vsv z.2) (cmpL N xs ys z.1), hcells b7 [vint 2, vlit (vsv z.2)], hcells b6 [vint 0, vlit (.slice none 0 0)], hcells b5 [vint b, vsl 1 (fun t : List Int => [vsl 1 (fun x : Int => [vint x]) t]) ys], hcells b4 [vint a, vsl 1 (fun t : List Int => [vsl 1 (fun x : Int => [vint x]) t]) xs]])
    (fun z => z.1 ≤ N) (fun z => N - z.1) (0, (some ⟨b12, 0, none⟩, 0, 0)) (Nat.zero_le _) (Ent.of slA (.cons .head (by simp [cmpL]) chA)) ?_
  rintro ⟨x, s⟩ hxN
  dsimp only at hxN ⊢
  rcases Nat.lt_or_eq_of_le hxN with h9 | h9
  · repeat' (first | (with_reducible refine RL.done ?_) | (with_reducible refine RL.wanted ?_ ?_; exact rfl) | ((with_reducible show RH _ _ _ _ _ _ _ _); first | refine RH.val (hK := ?_) | refine RH.upd (hK := ?_)) | (with_reducible first | refine Run.seq ?_ | refine Run.region ?_ | refine Run.block ?_ | refine Run.skip ?_ | refine Run.exit ?_ | refine Run.ret ?_) | (with_reducible show Run _ _ (.cond _ _ _) _ _ _; refine Run.condD rfl (fun h => ?_) (fun h => ?_)) | (with_reducible first | refine seqN (K := Run _ _ _ _) ?_ | refine seqE ?_ | refine blockE ?_))
    all_goals first
      | (exfalso; omega)
      | skip
    refine Run.loop (α := Nat × Sv) (fun z => [(0, vint (N : Int)), (4, vptr b4 0), (5, vptr b5 0), (6, vptr b6 0), (7, vptr b7 0), (8, vint (x : Int)), (9, vint (z.1 : Int))])
      (fun z => [hsl (tS tInt) (vsv z.2) (cmpL N xs ys x ++ cmpRow N xs ys x z.1), hcells b7 [vint 2, vlit (vsv z.2)], hcells b6 [vint 0, vlit (.slice none 0 0)], hcells b5 [vint b, vsl 1 (fun t : List Int => [vsl 1 (fun x : Int => [vint x]) t]) ys], hcells b4 [vint a, vsl 1 (fun t : List Int => [vsl 1 (fun x : Int => [vint x]) t]) xs]])
      (fun z => z.1 ≤ N) (fun z => N - z.1) (0, s) (Nat.zero_le _) (Ent.of slA (.cons .head (by simp [cmpRow]) chA)) ?_
    rintro ⟨z, s⟩ hzN
    dsimp only at hzN ⊢
    rcases Nat.lt_or_eq_of_le hzN with h8 | h8
    · repeat' (first | (with_reducible refine RL.done ?_) | (with_reducible refine RL.wanted ?_ ?_; exact rfl) | ((with_reducible show RH _ _ _ _ _ _ _ _); refine RH.val (hK := ?_)) | (with_reducible first | refine Run.seq ?_ | refine Run.region ?_ | refine Run.block ?_ | refine Run.skip ?_ | refine Run.exit ?_) | (with_reducible show Run _ _ (.cond _ _ _) _ _ _; refine Run.condD rfl (fun h => ?_) (fun h => ?_)) | (with_reducible first | refine seqN (K := Run _ _ _ _) ?_ | refine seqE ?_ | refine blockN ?_ | refine blockE ?_))
      all_goals first
        | (exfalso; omega)
        | skip
      refine Run.loop (α := Nat × Bool) (fun y => [(0, vint (N : Int)), (4, vptr b4 0), (5, vptr b5 0), (6, vptr b6 0), (7, vptr b7 0), (8, vint (x : Int)), (9, vint (z : Int)), (10, vbool y.2), (11, vint (y.1 : Int))])
        (fun y => [hsl (tS tInt) (vsv s) (cmpL N xs ys x ++ cmpRow N xs ys x z), hcells b7 [vint 2, vlit (vsv s)], hcells b6 [vint 0, vlit (.slice none 0 0)], hcells b5 [vint b, vsl 1 (fun t : List Int => [vsl 1 (fun x : Int => [vint x]) t]) ys], hcells b4 [vint a, vsl 1 (fun t : List Int => [vsl 1 (fun x : Int => [vint x]) t]) xs]])
        (fun y => y.1 ≤ N ∧ y.2 = hasY xs ys x z y.1) (fun y => N - y.1) (0, false) ⟨Nat.zero_le _, rfl⟩ (Ent.of slA chA) ?_
      rintro ⟨y, f⟩ ⟨hyN, hf⟩
      dsimp only at hyN hf ⊢
      have hle1 := cmpL_le N xs ys x
      have hle2 := cmpRow_le N xs ys x z
      have hle3 : x * N ≤ 8 * 8 := Nat.mul_le_mul (by omega) hN
      cases f with
      | true =>
        have hyes : hasY xs ys x z N = true := by
          obtain ⟨v, h1, h2⟩ := hasY_iff.1 hf.symm
          exact hasY_iff.2 ⟨v, by omega, h2⟩
        have hd := cmpRow_yes hyes
        have hlen : (cmpL N xs ys x ++ cmpRow N xs ys x z).length ≤ 128 := by rw [List.length_append]; omega
        repeat' (first | (with_reducible refine RL.done ?_) | (with_reducible refine RL.wanted ?_ ?_; exact rfl) | ((with_reducible show RH _ _ _ ⟨some 50, .buildSlice _ _ _, _, _, _, _⟩ _ _ _ _); refine RH.eff rfl rfl (EOpS.e (EOpS.slit (fun x : Int => [vint x]) _ (fun _ _ => rfl) (by repeat (first | exact Elts.nil | (apply Elts.cons; exact rfl; exact CellsOf.one))) rfl rfl)) ?_; rintro _ _ ⟨b50, rfl, rfl⟩) | ((with_reducible show RH _ _ _ ⟨some 51, .buildSlice _ _ _, _, _, _, _⟩ _ _ _ _); (refine RH.eff rfl rfl (EOpS.e (EOpS.slitV (by ((repeat (first | exact Elts.nil | apply Elts.one1 rfl | apply Elts.agg2 rfl)); done)) (by simp) rfl rfl)) ?_; rintro _ _ ⟨b51, rfl, rfl⟩)) | ((with_reducible show RH _ _ _ ⟨_, .call ⟨.builtin .append, _, _⟩, _, _, _, _⟩ _ _ _ _); (refine RH.appRI rfl rfl rfl (by repeat (first | exact Pick.nil | (apply Pick.cons; (with_reducible repeat (first | exact Rem.head | apply Rem.tail))))) (by first | exact rfl | (simp; done)) (by first | omega | (simp; omega)) (by first | omega | (simp; omega)) ?_); rintro _ _ ⟨s, rfl, rfl⟩) | ((with_reducible show RH _ _ _ _ _ _ _ _); first | refine RH.val (hK := ?_) | refine RH.upd (hK := ?_)) | (with_reducible show RL _ _ _ (_ :: _) _ _ _; first | refine RL.guardYes rfl rfl rfl rfl ?_ | refine RL.guardNoS rfl rfl rfl rfl rfl rfl ?_ | refine RL.splitD rfl rfl rfl (fun h => ?_) (fun h => ?_)) | (with_reducible first | refine Run.seq ?_ | refine Run.region ?_ | refine Run.exit ?_) | (with_reducible show Run _ _ (.cond _ _ _) _ _ _; first | refine Run.condT rfl ?_ | refine Run.condF rfl ?_) | (with_reducible first | refine seqN (K := Run _ _ _ _) ?_ | refine seqE ?_ | refine blockN ?_ | refine blockE ?_))
        all_goals first
          | (exfalso; omega)
          | (with_reducible refine seqN ?_
             exact ⟨(z + 1, _), by dsimp only; omega, by dsimp only; omega, Ent.of (by dsimp only; exact slA) (by dsimp only; rw [hd, ← List.append_assoc]; exact chA)⟩)
      | false =>
        rcases Nat.lt_or_eq_of_le hyN with h7 | h7
        · have hn := hasY_succ xs ys x z y
          rw [← hf, Bool.false_or] at hn
          repeat' (first | (with_reducible refine RL.done ?_) | (with_reducible refine RL.wanted ?_ ?_; exact rfl) | ((with_reducible show RH _ _ _ ⟨some 36, .buildSlice _ _ _, _, _, _, _⟩ _ _ _ _); refine RH.eff rfl rfl (EOpS.e (EOpS.slit (fun x : Int => [vint x]) _ (fun _ _ => rfl) (by repeat (first | exact Elts.nil | (apply Elts.cons; exact rfl; exact CellsOf.one))) rfl rfl)) ?_; rintro _ _ ⟨b36, rfl, rfl⟩) | ((with_reducible show RH _ _ _ ⟨some 42, .buildSlice _ _ _, _, _, _, _⟩ _ _ _ _); refine RH.eff rfl rfl (EOpS.e (EOpS.slit (fun x : Int => [vint x]) _ (fun _ _ => rfl) (by repeat (first | exact Elts.nil | (apply Elts.cons; exact rfl; exact CellsOf.one))) rfl rfl)) ?_; rintro _ _ ⟨b42, rfl, rfl⟩) | ((with_reducible show RH _ _ _ ⟨_, .call ⟨.value (.func 78), _, _⟩, _, _, _, _⟩ _ _ _ _); refine RH.cL Try.call78 ?_; apply Exists.intro; apply And.intro; (focus ((repeat (first | exact LVs.nil | (apply LVs.arr; (with_reducible repeat (exact Has.head)); (exact rfl); exact rfl) | apply LVs.agg | apply LVs.refl)); done)); refine ⟨_, l13Has_c _ _ _ (by omega) (by simp) (by first | exact hl1 | exact hl2) (by first | exact hs1 | exact hs2), (by intro r H h; first | (obtain ⟨rfl, rfl⟩ := h; exact ⟨inferInstance, inferInstance⟩) | (obtain ⟨_, rfl, rfl⟩ := h; exact ⟨inferInstance, inferInstance⟩) | (obtain ⟨_, _, rfl, rfl⟩ := h; exact ⟨inferInstance, inferInstance⟩) | (obtain ⟨_, _, rfl, rfl, _⟩ := h; exact ⟨inferInstance, inferInstance⟩)), ?_⟩; rintro _ _ ⟨rfl, rfl⟩; refine RL.nm ?_) | ((with_reducible show RH _ _ _ _ _ _ _ _); refine RH.val (hK := ?_)) | (with_reducible show RL _ _ _ (_ :: _) _ _ _; first | refine RL.guardYes rfl rfl rfl rfl ?_ | refine RL.guardNoS rfl rfl rfl rfl rfl rfl ?_ | refine RL.splitD rfl rfl rfl (fun h => ?_) (fun h => ?_)) | (with_reducible first | refine Run.seq ?_ | refine Run.region ?_ | refine Run.block ?_ | refine Run.skip ?_ | refine Run.exit ?_) | (with_reducible show Run _ _ (.cond _ _ _) _ _ _; first | refine Run.condT rfl ?_ | refine Run.condF rfl ?_) | (with_reducible first | refine seqN (K := Run _ _ _ _) ?_ | refine seqE ?_ | refine blockN ?_ | refine blockE ?_))
          all_goals first
            | (exfalso; omega)
            | (rw [decide_eq_true (by assumption), Bool.true_and] at hn
               with_reducible refine seqN ?_
               exact ⟨(y + 1, _), ⟨by dsimp only; omega, hn.symm⟩, by dsimp only; omega, Ent.of (by dsimp only; exact slA) chA⟩)
            | (rw [decide_eq_false (by assumption), Bool.false_and] at hn
               with_reducible refine seqN ?_
               exact ⟨(y + 1, false), ⟨by dsimp only; omega, hn.symm⟩, by dsimp only; omega, Ent.of (by dsimp only; exact slA) chA⟩)
        · subst h7
          have hd := cmpRow_no hf.symm
          repeat' (first | (with_reducible refine RL.done ?_) | (with_reducible refine RL.wanted ?_ ?_; exact rfl) | ((with_reducible show RH _ _ _ ⟨some 36, .buildSlice _ _ _, _, _, _, _⟩ _ _ _ _); refine RH.eff rfl rfl (EOpS.e (EOpS.slit (fun x : Int => [vint x]) _ (fun _ _ => rfl) (by repeat (first | exact Elts.nil | (apply Elts.cons; exact rfl; exact CellsOf.one))) rfl rfl)) ?_; rintro _ _ ⟨b36, rfl, rfl⟩) | ((with_reducible show RH _ _ _ _ _ _ _ _); refine RH.val (hK := ?_)) | (with_reducible show RL _ _ _ (_ :: _) _ _ _; first | refine RL.guardYes rfl rfl rfl rfl ?_ | refine RL.guardNoS rfl rfl rfl rfl rfl rfl ?_ | refine RL.splitD rfl rfl rfl (fun h => ?_) (fun h => ?_)) | (with_reducible first | refine Run.seq ?_ | refine Run.region ?_ | refine Run.block ?_ | refine Run.skip ?_ | refine Run.exit ?_) | (with_reducible show Run _ _ (.cond _ _ _) _ _ _; first | refine Run.condT rfl ?_ | refine Run.condF rfl ?_) | (with_reducible first | refine seqN (K := Run _ _ _ _) ?_ | refine seqE ?_ | refine blockN ?_ | refine blockE ?_))
          all_goals first
            | (exfalso; omega)
            | (with_reducible refine seqN ?_
               exact ⟨(z + 1, s), by dsimp only; omega, by dsimp only; omega, Ent.of (by dsimp only; exact slA) (by dsimp only; rw [hd]; exact chA)⟩)
    · subst h8
      have hd := cmpL_succ z xs ys x
      repeat' (first | (with_reducible refine RL.done ?_) | (with_reducible refine RL.wanted ?_ ?_; exact rfl) | ((with_reducible show RH _ _ _ _ _ _ _ _); refine RH.val (hK := ?_)) | (with_reducible first | refine Run.seq ?_ | refine Run.region ?_ | refine Run.block ?_ | refine Run.skip ?_ | refine Run.exit ?_) | (with_reducible show Run _ _ (.cond _ _ _) _ _ _; refine Run.condD rfl (fun h => ?_) (fun h => ?_)) | (with_reducible first | refine seqN (K := Run _ _ _ _) ?_ | refine seqE ?_ | refine blockN ?_ | refine blockE ?_))
      all_goals first
        | (exfalso; omega)
        | (with_reducible refine seqN ?_
           exact ⟨(x + 1, s), by dsimp only; omega, by dsimp only; omega, Ent.of (by dsimp only; exact slA) (by dsimp only; rw [hd]; exact chA)⟩)
  · subst h9
    repeat' (first | (with_reducible refine RL.done ?_) | (with_reducible refine RL.wanted ?_ ?_; exact rfl) | ((with_reducible show RH _ _ _ _ _ _ _ _); first | refine RH.val (hK := ?_) | refine RH.upd (hK := ?_)) | (with_reducible first | refine Run.seq ?_ | refine Run.region ?_ | refine Run.block ?_ | refine Run.skip ?_ | refine Run.exit ?_ | refine Run.ret ?_) | (with_reducible show Run _ _ (.cond _ _ _) _ _ _; refine Run.condD rfl (fun h => ?_) (fun h => ?_)) | (with_reducible first | refine seqN (K := Run _ _ _ _) ?_ | refine seqE ?_ | refine blockE ?_))
    all_goals first
      | (exfalso; omega)
      | (refine ⟨eA, _, [hsl (tS tInt) (vsv s) (cmpL x xs ys x)], resA, ?_, ?_⟩
         · exact SEnt.ch chA
         · exact ⟨s, rfl, rfl⟩)
set_option maxRecDepth 10000 in
set_option maxHeartbeats 2000000 in
theorem composeRel_c (a b : Int) (xs ys : List (List Int)) (hx : xs.length ≤ 512) (hy : ys.length ≤ 512) (h1 : ∀ t ∈ xs, t.length = 2) (h2 : ∀ t ∈ ys, t.length = 2) :
    Spec Try.prog 69 [vagg [vint a, vsl 1 (fun t : List Int => [vsl 1 (fun x : Int => [vint x]) t]) xs], vagg [vint b, vsl 1 (fun t : List Int => [vsl 1 (fun x : Int => [vint x]) t]) ys]] [] (fun r S' => ∃ s : Sv, r = vagg [vint 2, vlit (vsv s)] ∧ S' = [hsl (tS tInt) (vsv s) (putF (impL xs ys))]) := by
  refine Spec.of_run2 (n := 46) Try.func69 rfl Try.results69 Try.ntmps69 rfl ?_
  repeat' (first | (with_reducible refine RL.done ?_) | (with_reducible refine RL.wanted ?_ ?_; exact rfl) | ((with_reducible show RH _ _ _ ⟨some 2, .box _ _, _, _, _, _⟩ _ _ _ _); (refine RH.boxAgg rfl rfl ?_; rintro _ _ ⟨b2, rfl, rfl⟩)) | ((with_reducible show RH _ _ _ ⟨some 3, .box _ _, _, _, _, _⟩ _ _ _ _); (refine RH.boxAgg rfl rfl ?_; rintro _ _ ⟨b3, rfl, rfl⟩)) | ((with_reducible show RH _ _ _ ⟨some 4, .alloc _, _, _, _, _⟩ _ _ _ _); refine RH.alloc rfl ?_; rintro _ _ ⟨b4, rfl, rfl⟩) | ((with_reducible show RH _ _ _ ⟨some 10, .buildSlice _ _ _, _, _, _, _⟩ _ _ _ _); (refine RH.eff rfl rfl (EOpS.e (EOpS.slitV (by ((repeat (first | exact Elts.nil | apply Elts.one1 rfl | apply Elts.agg2 rfl)); done)) (by simp) rfl rfl)) ?_; rintro _ _ ⟨b10, rfl, rfl⟩)) | ((with_reducible show RH _ _ _ _ _ _ _ _); refine RH.val (hK := ?_)) | (with_reducible first | refine Run.seq ?_ | refine Run.region ?_ | refine Run.block ?_) | (with_reducible refine seqN (K := Run _ _ _ _) ?_))
  refine Run.sent (T := [hsl (tS tInt) (vsv (some ⟨b10, 0, none⟩, 0, 0)) [], hcells b4 [vint 0, vlit (.slice none 0 0)], hcells b3 [vint b, vsl 1 (fun t : List Int => [vsl 1 (fun x : Int => [vint x]) t]) ys], hcells b2 [vint a, vsl 1 (fun t : List Int => [vsl 1 (fun x : Int => [vint x]) t]) xs]])
    ((SEnt.pick (.cons .head .nil)).trans (SEnt.packNil (tS tInt) rfl)) ?_
  refine Run.loop (α := Nat × Sv) (fun z => [(2, vptr b2 0), (3, vptr b3 0), (4, vptr b4 0), (5, vlit (vsv z.2)), (12, vsl 1 (fun t : List Int => [vsl 1 (fun x : Int => [vint x]) t]) xs), (13, vint (xs.length : Int)), (14, vint (z.1 : Int))])
    (fun z => [hsl (tS tInt) (vsv z.2) (impL (xs.take z.1) ys), hcells b4 [vint 0, vlit (.slice none 0 0)], hcells b3 [vint b, vsl 1 (fun t : List Int => [vsl 1 (fun x : Int => [vint x]) t]) ys], hcells b2 [vint a, vsl 1 (fun t : List Int => [vsl 1 (fun x : Int => [vint x]) t]) xs]])
    (fun z => z.1 ≤ xs.length) (fun z => xs.length - z.1) (0, (some ⟨b10, 0, none⟩, 0, 0)) (Nat.zero_le _) (Ent.of slA (.cons .head (by simp [impL]) chA)) ?_
  rintro ⟨i, s⟩ hi
  dsimp only at hi ⊢
  have hq1 := impL_le ys (xs.take i)
  have hq2 : (xs.take i).length * ys.length ≤ 512 * 512 := Nat.mul_le_mul (by rw [List.length_take]; omega) hy
  rcases Nat.lt_or_eq_of_le hi with h9 | h9
  · have hk1 : xs[i].length = 2 := h1 _ (List.getElem_mem _)
    obtain ⟨t, ht⟩ : ∃ t, xs[i] = t := ⟨_, rfl⟩
    have htk : t.length = 2 := by rw [← ht]; exact hk1
    repeat' (first | (with_reducible refine RL.done ?_) | (with_reducible refine RL.wanted ?_ ?_; exact rfl) | ((with_reducible show RH _ _ _ _ _ _ _ _); refine RH.val (hK := ?_)) | (with_reducible first | refine Run.seq ?_ | refine Run.region ?_ | refine Run.block ?_ | refine Run.skip ?_ | refine Run.exit ?_) | (with_reducible show Run _ _ (.cond _ _ _) _ _ _; refine Run.condD rfl (fun h => ?_) (fun h => ?_)) | (with_reducible first | refine seqN (K := Run _ _ _ _) ?_ | refine seqE ?_ | refine blockE ?_))
    all_goals first
      | (exfalso; omega)
      | skip
    rw [ht]
    refine Run.loop (α := Nat × Sv) (fun z => [(2, vptr b2 0), (3, vptr b3 0), (4, vptr b4 0), (5, vlit (vsv z.2)), (7, vsl 1 (fun x : Int => [vint x]) t), (12, vsl 1 (fun t : List Int => [vsl 1 (fun x : Int => [vint x]) t]) xs), (13, vint (xs.length : Int)), (14, vint (i : Int)), (19, vsl 1 (fun t : List Int => [vsl 1 (fun x : Int => [vint x]) t]) ys), (20, vint (ys.length : Int)), (21, vint (z.1 : Int))])
      (fun z => [hsl (tS tInt) (vsv z.2) (impL (xs.take i) ys ++ impRow (ys.take z.1) t), hcells b4 [vint 0, vlit (.slice none 0 0)], hcells b3 [vint b, vsl 1 (fun t : List Int => [vsl 1 (fun x : Int => [vint x]) t]) ys], hcells b2 [vint a, vsl 1 (fun t : List Int => [vsl 1 (fun x : Int => [vint x]) t]) xs]])
      (fun z => z.1 ≤ ys.length) (fun z => ys.length - z.1) (0, s) (Nat.zero_le _) (Ent.of slA (.cons .head (by simp [impRow]) chA)) ?_
    rintro ⟨j, s⟩ hj
    dsimp only at hj ⊢
    have hq3 := impRow_le (ys.take j) t
    have hq4 : (ys.take j).length ≤ 512 := by rw [List.length_take]; omega
    have hlen : (impL (xs.take i) ys ++ impRow (ys.take j) t).length ≤ 512 * 512 + 512 := by rw [List.length_append]; omega
    rcases Nat.lt_or_eq_of_le hj with h8 | h8
    · have hk2 : ys[j].length = 2 := h2 _ (List.getElem_mem _)
      have e1 : t.getD 1 0 = t[1] := by rw [List.getD_eq_getElem?_getD, List.getElem?_eq_getElem (by omega)]; rfl
      have e2 : t.getD 0 0 = t[0] := by rw [List.getD_eq_getElem?_getD, List.getElem?_eq_getElem (by omega)]; rfl
      have e3 : (ys[j]).getD 0 0 = (ys[j])[0] := by rw [List.getD_eq_getElem?_getD, List.getElem?_eq_getElem (by omega)]; rfl
      have e4 : (ys[j]).getD 1 0 = (ys[j])[1] := by rw [List.getD_eq_getElem?_getD, List.getElem?_eq_getElem (by omega)]; rfl
      repeat' (first | (with_reducible refine RL.done ?_) | (with_reducible refine RL.wanted ?_ ?_; exact rfl) | ((with_reducible show Run _ _ (.region 8 _ true) _ _ _); refine Run.regionD (fun i => false) rfl ?_; change RD _ _ _ _ _ _ 7 (dm 7 0) _ _) | ((with_reducible show RD _ _ 8 _ _ _ _ _ _ _); first | ((with_reducible show RD _ _ _ _ _ _ _ (dm 7 0) _ _); refine RD.tk 0 (dm 7 70) (dm 7 1) (hK := ?_)) | ((with_reducible show RD _ _ _ _ _ _ _ (dm 7 1) _ _); refine RD.tk 1 (dm 7 68) (dm 7 3) (hK := ?_)) | ((with_reducible show RD _ _ _ _ _ _ _ (dm 7 3) _ _); refine RD.tk 2 (dm 7 64) (dm 7 7) (hK := ?_)) | ((with_reducible show RD _ _ _ _ _ _ _ (dm 7 7) _ _); refine RD.tk 3 (dm 7 112) (dm 7 15) (hK := ?_)) | ((with_reducible show RD _ _ _ _ _ _ _ (dm 7 15) _ _); refine RD.tk 4 (dm 7 96) (dm 7 31) (hK := ?_)) | ((with_reducible show RD _ _ _ _ _ _ _ (dm 7 31) _ _); refine RD.tk 5 (dm 7 64) (dm 7 63) (hK := ?_)) | ((with_reducible show RD _ _ _ _ _ _ _ (dm 7 63) _ _); refine RD.tk 6 (dm 7 0) (dm 7 127) (hK := ?_)) | ((with_reducible show RD _ _ _ _ _ _ 0 _ _ _); refine RD.done (by kernel_rfl) ?_)) | ((with_reducible show Run _ _ (.region 9 _ true) _ _ _); refine Run.regionD (fun i => i == 9) rfl ?_; change RD _ _ _ _ _ _ 11 (dm 11 0) _ _) | ((with_reducible show RD _ _ 9 _ _ _ _ _ _ _); first | ((with_reducible show RD _ _ _ _ _ _ _ (dm 11 0) _ _); refine RD.tk 0 (dm 11 1536) (dm 11 1) (hK := ?_)) | ((with_reducible show RD _ _ _ _ _ _ _ (dm 11 1) _ _); refine RD.tk 1 (dm 11 1932) (dm 11 3) (hK := ?_)) | ((with_reducible show RD _ _ _ _ _ _ _ (dm 11 3) _ _); refine RD.tk 2 (dm 11 1928) (dm 11 7) (hK := ?_)) | ((with_reducible show RD _ _ _ _ _ _ _ (dm 11 7) _ _); refine RD.tk 3 (dm 11 1920) (dm 11 15) (hK := ?_)) | ((with_reducible show RD _ _ _ _ _ _ _ (dm 11 15) _ _); refine RD.tk 4 (dm 11 2016) (dm 11 31) (hK := ?_)) | ((with_reducible show RD _ _ _ _ _ _ _ (dm 11 31) _ _); refine RD.tk 5 (dm 11 1984) (dm 11 63) (hK := ?_)) | ((with_reducible show RD _ _ _ _ _ _ _ (dm 11 63) _ _); refine RD.tk 6 (dm 11 1920) (dm 11 127) (hK := ?_)) | ((with_reducible show RD _ _ _ _ _ _ _ (dm 11 127) _ _); refine RD.a1 7 ?_) | ((with_reducible show RD _ _ _ _ _ _ _ (dm 11 255) _ _); refine RD.a1 8 ?_) | ((with_reducible show RD _ _ _ _ _ _ _ (dm 11 511) _ _); refine RD.a1 9 ?_) | ((with_reducible show RD _ _ _ _ _ _ _ (dm 11 1023) _ _); refine RD.tk 10 (dm 11 0) (dm 11 2047) (hK := ?_)) | ((with_reducible show RD _ _ _ _ _ _ 0 _ _ _); refine RD.done (by kernel_rfl) ?_)) | ((with_reducible show RO _ _ 9 _ _ _ _ _ _ _ _); first | ((with_reducible show RO _ _ _ _ _ _ _ (dm 11 127) 7 _ _); (refine RO.eS (dm 11 255) (hv := by show EOpS _ _ _ _ ⟨_, .buildSlice _ _ _, _, _, _, _⟩ _; exact EOpS.slit (fun x : Int => [vint x]) _ (fun _ _ => rfl) (by repeat (first | exact Elts.nil | (apply Elts.cons; exact rfl; exact CellsOf.one))) rfl rfl) (h := ?_); rintro _ _ ⟨b39, rfl, rfl⟩)) | ((with_reducible show RO _ _ _ _ _ _ _ (dm 11 255) 8 _ _); (refine RO.eS (dm 11 511) (hv := by show EOpS _ _ _ _ ⟨_, .buildSlice _ _ _, _, _, _, _⟩ _; exact EOpS.slitV (by ((repeat (first | exact Elts.nil | apply Elts.one1 rfl | apply Elts.agg2 rfl)); done)) (by simp) rfl rfl) (h := ?_); rintro _ _ ⟨b40, rfl, rfl⟩)) | ((with_reducible show RO _ _ _ _ _ _ _ (dm 11 511) 9 _ _); (refine RO.h (dm 11 1023) ?_; show RH _ _ _ ⟨_, _, _, _, _, _⟩ _ _ _ _))) | ((with_reducible show RH _ _ _ ⟨_, .call ⟨.builtin .append, _, _⟩, _, _, _, _⟩ _ _ _ _); (refine RH.appRI rfl rfl rfl (by repeat (first | exact Pick.nil | (apply Pick.cons; (with_reducible repeat (first | exact Rem.head | apply Rem.tail))))) (by first | exact rfl | (simp; done)) (by first | omega | (simp; omega)) (by first | omega | (simp; omega)) ?_); rintro _ _ ⟨s, rfl, rfl⟩) | ((with_reducible show RH _ _ _ _ _ _ _ _); refine RH.val (hK := ?_)) | (with_reducible first | refine Run.seq ?_ | refine Run.region ?_ | refine Run.block ?_ | refine Run.skip ?_ | refine Run.exit ?_) | (with_reducible show Run _ _ (.cond _ _ _) _ _ _; refine Run.condD rfl (fun h => ?_) (fun h => ?_)) | (with_reducible first | refine seqN (K := Run _ _ _ _) ?_ | refine seqE ?_ | refine blockN ?_ | refine blockE ?_))
      all_goals first
        | (exfalso; omega)
        | (have hd := impRow_yes (t := t) h8 (by rw [e1, e3]; assumption)
           rw [e2, e4] at hd
           with_reducible refine seqN ?_
           exact ⟨(j + 1, _), by dsimp only; omega, by dsimp only; omega, Ent.of (by dsimp only; exact slA) (by dsimp only; rw [hd, ← List.append_assoc]; exact chA)⟩)
        | (have hd := impRow_no (t := t) h8 (by rw [e1, e3]; assumption)
           with_reducible refine seqN ?_
           exact ⟨(j + 1, s), by dsimp only; omega, by dsimp only; omega, Ent.of (by dsimp only; exact slA) (by dsimp only; rw [hd]; exact chA)⟩)
    · subst h8
      have hd := impL_succ (ys := ys) h9
      rw [ht] at hd
      repeat' (first | (with_reducible refine RL.done ?_) | (with_reducible refine RL.wanted ?_ ?_; exact rfl) | ((with_reducible show RH _ _ _ _ _ _ _ _); refine RH.val (hK := ?_)) | (with_reducible first | refine Run.seq ?_ | refine Run.region ?_ | refine Run.block ?_ | refine Run.skip ?_ | refine Run.exit ?_) | (with_reducible show Run _ _ (.cond _ _ _) _ _ _; refine Run.condD rfl (fun h => ?_) (fun h => ?_)) | (with_reducible first | refine seqN (K := Run _ _ _ _) ?_ | refine seqE ?_ | refine blockN ?_ | refine blockE ?_))
      all_goals first
        | (exfalso; omega)
        | (with_reducible refine seqN ?_
           exact ⟨(i + 1, s), by dsimp only; omega, by dsimp only; omega, Ent.of (by dsimp only; exact slA) (by dsimp only; rw [hd]; exact .cons .head (by rw [List.take_length]) chA)⟩)
  · subst h9
    rw [List.take_length] at hq1 hq2
    refine Run.sent (T := [hsl (tS tInt) (vsv s) (impL xs ys), hcells b4 [vint 0, vlit (.slice none 0 0)], hcells b3 [vint b, vsl 1 (fun t : List Int => [vsl 1 (fun x : Int => [vint x]) t]) ys], hcells b2 [vint a, vsl 1 (fun t : List Int => [vsl 1 (fun x : Int => [vint x]) t]) xs]]) (SEnt.ch (.cons .head (by rw [List.take_length]) chA)) ?_
    repeat' (first | (with_reducible refine RL.done ?_) | (with_reducible refine RL.wanted ?_ ?_; exact rfl) | ((with_reducible show RH _ _ _ ⟨_, .call ⟨.value (.func 73), _, _⟩, _, _, _, _⟩ _ _ _ _); refine RH.cL Try.call73 ?_; apply Exists.intro; apply And.intro; (focus ((repeat (first | exact LVs.nil | (apply LVs.sl; (with_reducible repeat (first | exact Has.head | apply Has.tail)); exact inferInstance; exact rfl) | apply LVs.refl)); done)); refine ⟨_, makeRelation_c _ 2 (impL xs ys) (by omega) (by omega) (impL_len xs ys), (by intro r H h; first | (obtain ⟨rfl, rfl⟩ := h; exact ⟨inferInstance, inferInstance⟩) | (obtain ⟨_, rfl, rfl⟩ := h; exact ⟨inferInstance, inferInstance⟩) | (obtain ⟨_, _, rfl, rfl⟩ := h; exact ⟨inferInstance, inferInstance⟩) | (obtain ⟨_, _, rfl, rfl, _⟩ := h; exact ⟨inferInstance, inferInstance⟩)), ?_⟩; rintro _ _ ⟨s2, rfl, rfl⟩; refine RL.nm ?_) | ((with_reducible show RH _ _ _ _ _ _ _ _); first | refine RH.val (hK := ?_) | refine RH.upd (hK := ?_)) | (with_reducible first | refine Run.seq ?_ | refine Run.region ?_ | refine Run.block ?_ | refine Run.skip ?_ | refine Run.exit ?_ | refine Run.ret ?_) | (with_reducible show Run _ _ (.cond _ _ _) _ _ _; refine Run.condD rfl (fun h => ?_) (fun h => ?_)) | (with_reducible first | refine seqN (K := Run _ _ _ _) ?_ | refine seqE ?_ | refine blockE ?_))
    all_goals first
      | (exfalso; omega)
      | (refine ⟨eA, _, [hsl (tS tInt) (vsv s2) (putF (impL xs ys))], resA, ?_, ?_⟩
         · exact SEnt.ch chA
         · exact ⟨s2, rfl, rfl⟩)
def cpoOk (n a : Int) (xs : List (List Int)) (b : Int) (ys : List (List Int)) : Bool := relOk n a xs && relOk n b ys && decide (a = 2) && decide (b = 2)
theorem cpoOk_at {n a : Int} {xs : List (List Int)} {b : Int} {ys : List (List Int)} (h : cpoOk n a xs b ys = true) : relOk n a xs = true ∧ relOk n b ys = true ∧ a = 2 ∧ b = 2 := by
  simp only [cpoOk, Bool.and_eq_true, decide_eq_true_eq] at h; exact ⟨h.1.1.1, h.1.1.2, h.1.2, h.2⟩
theorem rel_two {n a : Int} {xs : List (List Int)} (h : relOk n a xs = true) (ha : a = 2) : ∀ t ∈ xs, t.length = 2 ∧ elB n t = true := fun t ht => by
  have h1 := relB_len2 (relOk_rel' h).2 t ht
  exact ⟨by omega, relB_el (relOk_rel' h).2 t ht⟩
set_option maxRecDepth 10000 in
set_option maxHeartbeats 1000000 in
theorem specCpo_c (n a b : Int) (xs ys : List (List Int)) (hl : xs.length ≤ 4398046511104) (hr : ∀ t ∈ xs, t.length ≤ 4611686018427387904) (hl2 : ys.length ≤ 4398046511104) (hr2 : ∀ t ∈ ys, t.length ≤ 4611686018427387904) :
    Spec Try.prog 11 [vint n, vagg [vint a, vsl 1 (fun t : List Int => [vsl 1 (fun x : Int => [vint x]) t]) xs], vagg [vint b, vsl 1 (fun t : List Int => [vsl 1 (fun x : Int => [vint x]) t]) ys]] [] (RelRes (cpoOk n a xs b ys) 2 (putF (impL xs ys))) := by
  by_cases hg : cpoOk n a xs b ys = true
  · obtain ⟨h1, h2, rfl, rfl⟩ := cpoOk_at hg
    have hn := (relOk_rel' h1).1
    obtain ⟨N, rfl⟩ : ∃ N : Nat, n = N := ⟨n.toNat, by omega⟩
    have hc := comp_put (N := N) rfl (rel_two h1 rfl) (rel_two h2 rfl)
    rw [hc]
    refine Spec.of_run2 (n := 33) Try.func11 rfl Try.results11 Try.ntmps11 rfl ?_
    repeat' (first | (with_reducible first | refine RL.done ?_ | refine RL.app0 ?_ | refine RL.app1 ?_) | (with_reducible refine RL.wanted ?_ ?_; exact rfl) | ((with_reducible show RH _ _ _ ⟨some 4, .box _ _, _, _, _, _⟩ _ _ _ _); (refine RH.boxAgg rfl rfl ?_; rintro _ _ ⟨b4, rfl, rfl⟩)) | ((with_reducible show RH _ _ _ ⟨some 5, .box _ _, _, _, _, _⟩ _ _ _ _); (refine RH.boxAgg rfl rfl ?_; rintro _ _ ⟨b5, rfl, rfl⟩)) | ((with_reducible show RH _ _ _ ⟨some 6, .alloc _, _, _, _, _⟩ _ _ _ _); refine RH.alloc rfl ?_; rintro _ _ ⟨b6, rfl, rfl⟩) | ((with_reducible show RH _ _ _ ⟨_, .call ⟨.value (.func 70), _, _⟩, _, _, _, _⟩ _ _ _ _); refine RH.cP Try.call70 ?_; refine ⟨_, l13Takes_c _ _ _ (by omega) (by assumption), ?_⟩; rintro _ _ ⟨rfl, rfl⟩) | ((with_reducible show RH _ _ _ ⟨_, .call ⟨.value (.func 71), _, _⟩, _, _, _, _⟩ _ _ _ _); refine RH.cP Try.call71 ?_; refine ⟨_, l13Compose_c N _ _ xs ys (by omega) (rel_many h1) (rel_many h2) (relB_len2 (relOk_rel' h1).2) (relB_sorted (relOk_rel' h1).2) (relB_len2 (relOk_rel' h2).2) (relB_sorted (relOk_rel' h2).2), ?_⟩; rintro _ _ ⟨s2, rfl, rfl⟩) | ((with_reducible show RH _ _ _ _ _ _ _ _); first | refine RH.val (hK := ?_) | refine RH.upd (hK := ?_)) | (with_reducible show RL _ _ _ (_ :: _) _ _ _; first | refine RL.guardYes rfl rfl rfl rfl ?_ | refine RL.guardNoS rfl rfl rfl rfl rfl rfl ?_ | refine RL.splitNB rfl rfl rfl (fun h => ?_) (fun h => ?_)) | (with_reducible first | refine Run.seq ?_ | refine Run.region ?_ | refine Run.skip ?_ | refine Run.ret ?_) | (with_reducible show Run _ _ (.cond _ _ _) _ _ _; first | refine Run.condT rfl ?_ | refine Run.condF rfl ?_) | (with_reducible first | refine seqN (K := Run _ _ _ _) ?_ | refine seqR ?_))
    all_goals first
      | (exfalso; omega)
      | (refine ⟨eA, _, [hsl (tS tInt) (vsv s2) (cmpL N xs ys N)], resA, ?_, ?_⟩
         · exact SEnt.ch chA
         · exact relRes_yes hg s2)
      | (exfalso; simp_all; done)
  · refine Spec.of_run2 (n := 33) Try.func11 rfl Try.results11 Try.ntmps11 rfl ?_
    repeat' (first | (with_reducible first | refine RL.done ?_ | refine RL.app0 ?_) | (with_reducible refine RL.wanted ?_ ?_; exact rfl) | ((with_reducible show RH _ _ _ ⟨some 4, .box _ _, _, _, _, _⟩ _ _ _ _); (refine RH.boxAgg rfl rfl ?_; rintro _ _ ⟨b4, rfl, rfl⟩)) | ((with_reducible show RH _ _ _ ⟨some 5, .box _ _, _, _, _, _⟩ _ _ _ _); (refine RH.boxAgg rfl rfl ?_; rintro _ _ ⟨b5, rfl, rfl⟩)) | ((with_reducible show RH _ _ _ ⟨some 6, .alloc _, _, _, _, _⟩ _ _ _ _); refine RH.alloc rfl ?_; rintro _ _ ⟨b6, rfl, rfl⟩) | ((with_reducible show RH _ _ _ ⟨_, .call ⟨.value (.func 70), _, _⟩, _, _, _, _⟩ _ _ _ _); refine RH.cP Try.call70 ?_; refine ⟨_, l13Takes_c _ _ _ (by omega) (by assumption), ?_⟩; rintro _ _ ⟨rfl, rfl⟩) | ((with_reducible show RH _ _ _ _ _ _ _ _); first | refine RH.val (hK := ?_) | refine RH.upd (hK := ?_)) | (with_reducible show RL _ _ _ (_ :: _) _ _ _; first | refine RL.guardYes rfl rfl rfl rfl ?_ | refine RL.guardNoS rfl rfl rfl rfl rfl rfl ?_ | refine RL.splitD rfl rfl rfl (fun h => ?_) (fun h => ?_) | refine RL.splitNB rfl rfl rfl (fun h => ?_) (fun h => ?_)) | (with_reducible first | refine Run.seq ?_ | refine Run.region ?_ | refine Run.skip ?_ | refine Run.ret ?_) | (with_reducible show Run _ _ (.cond _ _ _) _ _ _; first | refine Run.condT rfl ?_ | refine Run.condD rfl (fun h => ?_) (fun h => ?_)) | (with_reducible first | refine seqN (K := Run _ _ _ _) ?_ | refine seqR ?_))
    all_goals first
      | (refine ⟨eA, _, [hsl (tS tInt) (vsv (none, 0, 0)) []], resA, ?_, ?_⟩
         · exact (SEnt.ch .nil).trans (SEnt.nil _ _)
         · exact relRes_no (by simpa using hg))
      | (exfalso; apply hg; simp_all [cpoOk]; done)
set_option maxRecDepth 10000 in
set_option maxHeartbeats 1000000 in
theorem implCpo_c (n a b : Int) (xs ys : List (List Int)) (hl : xs.length ≤ 4398046511104) (hr : ∀ t ∈ xs, t.length ≤ 4611686018427387904) (hl2 : ys.length ≤ 4398046511104) (hr2 : ∀ t ∈ ys, t.length ≤ 4611686018427387904) :
    Spec Try.prog 10 [vint n, vagg [vint a, vsl 1 (fun t : List Int => [vsl 1 (fun x : Int => [vint x]) t]) xs], vagg [vint b, vsl 1 (fun t : List Int => [vsl 1 (fun x : Int => [vint x]) t]) ys]] [] (RelRes (cpoOk n a xs b ys) 2 (putF (impL xs ys))) := by
  by_cases hg : cpoOk n a xs b ys = true
  · obtain ⟨h1, h2, rfl, rfl⟩ := cpoOk_at hg
    have hB2 := (relOk_rel' h2).2
    refine Spec.of_run2 (n := 32) Try.func10 rfl Try.results10 Try.ntmps10 rfl ?_
    repeat' (first | (with_reducible first | refine RL.done ?_ | refine RL.app0 ?_ | refine RL.app1 ?_) | (with_reducible refine RL.wanted ?_ ?_; exact rfl) | ((with_reducible show RH _ _ _ ⟨some 4, .box _ _, _, _, _, _⟩ _ _ _ _); (refine RH.boxAgg rfl rfl ?_; rintro _ _ ⟨b4, rfl, rfl⟩)) | ((with_reducible show RH _ _ _ ⟨some 5, .box _ _, _, _, _, _⟩ _ _ _ _); (refine RH.boxAgg rfl rfl ?_; rintro _ _ ⟨b5, rfl, rfl⟩)) | ((with_reducible show RH _ _ _ ⟨some 6, .alloc _, _, _, _, _⟩ _ _ _ _); refine RH.alloc rfl ?_; rintro _ _ ⟨b6, rfl, rfl⟩) | ((with_reducible show RH _ _ _ ⟨_, .call ⟨.value (.func 67), _, _⟩, _, _, _, _⟩ _ _ _ _); refine RH.cP Try.call67 ?_; refine ⟨_, hasRelation_c _ _ _ (by omega) (by assumption), ?_⟩; rintro _ _ ⟨rfl, rfl⟩) | ((with_reducible show RH _ _ _ ⟨_, .call ⟨.value (.func 68), _, _⟩, _, _, _, _⟩ _ _ _ _); refine RH.cP Try.call68 ?_; refine ⟨_, isRelation_c _ _ _ (by omega) (by assumption), ?_⟩; rintro _ _ ⟨rfl, rfl⟩) | ((with_reducible show RH _ _ _ ⟨_, .call ⟨.value (.func 69), _, _⟩, _, _, _, _⟩ _ _ _ _); refine RH.cP Try.call69 ?_; refine ⟨_, composeRel_c _ _ xs ys (rel_many h1) (rel_many h2) (fun t ht => (rel_two h1 rfl t ht).1) (fun t ht => (rel_two h2 rfl t ht).1), ?_⟩; rintro _ _ ⟨s2, rfl, rfl⟩) | ((with_reducible show RH _ _ _ _ _ _ _ _); first | refine RH.val (hK := ?_) | refine RH.upd (hK := ?_)) | (with_reducible show RL _ _ _ (_ :: _) _ _ _; first | refine RL.guardYes rfl rfl rfl rfl ?_ | refine RL.guardNoS rfl rfl rfl rfl rfl rfl ?_ | refine RL.splitNB rfl rfl rfl (fun h => ?_) (fun h => ?_)) | (with_reducible first | refine Run.seq ?_ | refine Run.region ?_ | refine Run.skip ?_ | refine Run.ret ?_) | (with_reducible show Run _ _ (.cond _ _ _) _ _ _; first | refine Run.condT rfl ?_ | refine Run.condF rfl ?_) | (with_reducible first | refine seqN (K := Run _ _ _ _) ?_ | refine seqR ?_))
    all_goals first
      | (exfalso; omega)
      | (refine ⟨eA, _, [hsl (tS tInt) (vsv s2) (putF (impL xs ys))], resA, ?_, ?_⟩
         · exact SEnt.ch chA
         · exact relRes_yes hg s2)
      | (exfalso; simp_all; done)
  · refine Spec.of_run2 (n := 32) Try.func10 rfl Try.results10 Try.ntmps10 rfl ?_
    repeat' (first | (with_reducible first | refine RL.done ?_ | refine RL.app0 ?_) | (with_reducible refine RL.wanted ?_ ?_; exact rfl) | ((with_reducible show RH _ _ _ ⟨some 4, .box _ _, _, _, _, _⟩ _ _ _ _); (refine RH.boxAgg rfl rfl ?_; rintro _ _ ⟨b4, rfl, rfl⟩)) | ((with_reducible show RH _ _ _ ⟨some 5, .box _ _, _, _, _, _⟩ _ _ _ _); (refine RH.boxAgg rfl rfl ?_; rintro _ _ ⟨b5, rfl, rfl⟩)) | ((with_reducible show RH _ _ _ ⟨some 6, .alloc _, _, _, _, _⟩ _ _ _ _); refine RH.alloc rfl ?_; rintro _ _ ⟨b6, rfl, rfl⟩) | ((with_reducible show RH _ _ _ ⟨_, .call ⟨.value (.func 67), _, _⟩, _, _, _, _⟩ _ _ _ _); refine RH.cP Try.call67 ?_; refine ⟨_, hasRelation_c _ _ _ (by omega) (by assumption), ?_⟩; rintro _ _ ⟨rfl, rfl⟩) | ((with_reducible show RH _ _ _ ⟨_, .call ⟨.value (.func 68), _, _⟩, _, _, _, _⟩ _ _ _ _); refine RH.cP Try.call68 ?_; refine ⟨_, isRelation_c _ _ _ (by omega) (by assumption), ?_⟩; rintro _ _ ⟨rfl, rfl⟩) | ((with_reducible show RH _ _ _ _ _ _ _ _); first | refine RH.val (hK := ?_) | refine RH.upd (hK := ?_)) | (with_reducible show RL _ _ _ (_ :: _) _ _ _; first | refine RL.guardYes rfl rfl rfl rfl ?_ | refine RL.guardNoS rfl rfl rfl rfl rfl rfl ?_ | refine RL.splitD rfl rfl rfl (fun h => ?_) (fun h => ?_) | refine RL.splitNB rfl rfl rfl (fun h => ?_) (fun h => ?_)) | (with_reducible first | refine Run.seq ?_ | refine Run.region ?_ | refine Run.skip ?_ | refine Run.ret ?_) | (with_reducible show Run _ _ (.cond _ _ _) _ _ _; first | refine Run.condT rfl ?_ | refine Run.condD rfl (fun h => ?_) (fun h => ?_)) | (with_reducible first | refine seqN (K := Run _ _ _ _) ?_ | refine seqR ?_))
    all_goals first
      | (refine ⟨eA, _, [hsl (tS tInt) (vsv (none, 0, 0)) []], resA, ?_, ?_⟩
         · exact (SEnt.ch .nil).trans (SEnt.nil _ _)
         · exact relRes_no (by simpa using hg))
      | (exfalso; apply hg; simp_all [cpoOk, relOk]; done)
end Go.Proofs.Ytiifdhdhjioefaa
