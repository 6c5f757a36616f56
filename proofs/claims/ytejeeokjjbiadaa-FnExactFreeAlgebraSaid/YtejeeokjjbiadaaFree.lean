/- The free algebra of a rank: spec.l11Rank, l11Gens, l11Free, impl.freeOf. Proved for this program; conditions: lengths below 2^62. -/
import Derived.Test.YtejeeokjjbiadaaFreeP
namespace Go.Proofs.Ytejeeokjjbiadaa
open Go Go.Proofs
set_option linter.unusedVariables false
/-- the same at the end of a call -/
theorem Spec.frzCell {P : Program} {f : FuncId} {args : List VP} {S : List HP} {R R' : VP → List HP → Prop} (hv : Spec P f args S R)
    (h : ∀ q S', R q S' → R' q S' ∨ ∃ (α : Type) (t : TR α) (r : α → List VP) (_ : Frz t r) (v : Value) (xs : List α) (b : Nat) (ps qs : List VP) (S1 S2 : List HP), Rem S' (hsl t v xs) S1 ∧ Rem S1 (hcells b ps) S2 ∧ CellUp v (vsl t.k r xs) ps qs ∧ R' q (hcells b qs :: S2)) : Spec P f args S R' :=
  ⟨fun c vs ha hs => (hv.run c vs ha hs).mono fun e w' ⟨v, F', q, S', h1, h2, h3, h4, h5⟩ => by
    rcases h q S' h5 with h6 | ⟨α, t, r, hfz, v2, xs, b, ps, qs, S1, S2, hr, hc, hu, h6⟩
    · exact ⟨v, F', q, S', h1, h2, h3, h4, h6⟩
    · obtain ⟨F2, k1, _, k2⟩ := ((Ent.frzKn (φ := []) hr).trans ((SEnt.pick (B := [hcells b ps]) (.cons (.tail hc) .nil)).trans ((SEnt.cellKn hu).trans ((SEnt.pick (B := [hkn v2 (vsl t.k r xs)]) (.cons (.tail .head) .nil)).trans SEnt.drop))).ent) ⟨F', c.U, w'⟩ 0 { tmps := #[], defers := [] } ⟨rfl, rfl, fun t p h => by cases h⟩ h4
      exact ⟨v, F2, q, _, h1, h2.trans k1, q.mono k1.v h3, k2, h6⟩⟩
set_option maxRecDepth 10000 in
set_option maxHeartbeats 1000000 in
theorem l11Rank_c (n : Int) (os : List (Int × List Int)) (k : Int) (hol : os.length ≤ 4611686018427387904) (ho : OpsLen os) :
    Spec Try.prog 95 [vagg [vint n, vsl 2 (fun y : Int × (List Int) => [vint y.1, vsl 1 (fun x : Int => [vint x]) y.2]) os], vint k] [] (fun r S' => r = vbool (rankB n os k) ∧ S' = []) := by
  by_cases ha : algB n os = true
  · obtain ⟨hn1, hn8, _, _⟩ := algB_at ha
    by_cases hk : 0 ≤ k ∧ k ≤ 3
    · obtain ⟨k2, rfl⟩ : ∃ k2 : Nat, k = k2 := ⟨k.toNat, by omega⟩
      have e : rankB n os k2 = decide (pw n k2 ≤ 64) := by
        rw [rankB, ha, decide_eq_true hk, Int.toNat_natCast]
        simp only [Bool.true_and]
      rw [e]
      refine Spec.of_run2 (n := 18) Try.func95 rfl Try.results95 Try.ntmps95 rfl ?_
      repeat' (first | (with_reducible first | refine RL.done ?_ | refine RL.app0 ?_) | (with_reducible refine RL.wanted ?_ ?_; exact rfl) | ((with_reducible show RH _ _ _ ⟨some 2, .box _ _, _, _, _, _⟩ _ _ _ _); (refine RH.boxAgg rfl rfl ?_; rintro _ _ ⟨b2, rfl, rfl⟩)) | ((with_reducible show RH _ _ _ ⟨_, .call ⟨.value (.func 94), _, _⟩, _, _, _, _⟩ _ _ _ _); refine RH.cP Try.call94 ?_; refine ⟨_, l2Good_c n os (by omega) ho, ?_⟩; rintro _ _ ⟨rfl, rfl⟩) | ((with_reducible show RH _ _ _ ⟨_, .call ⟨.value (.func 78), _, _⟩, _, _, _, _⟩ _ _ _ _); refine RH.cP Try.call78 ?_; refine ⟨_, l1In_c _ _ _, ?_⟩; rintro _ _ ⟨rfl, rfl⟩) | ((with_reducible show RH _ _ _ ⟨_, .call ⟨.value (.func 80), _, _⟩, _, _, _, _⟩ _ _ _ _); refine RH.cP Try.call80 ?_; refine ⟨_, l2Pow_c n k2 (by omega) (by omega) (by omega), ?_⟩; rintro _ _ ⟨rfl, rfl⟩) | ((with_reducible show RH _ _ _ _ _ _ _ _); refine RH.val (hK := ?_)) | (with_reducible show RL _ _ _ (_ :: _) _ _ _; first | refine RL.guardYes rfl rfl rfl rfl ?_ | refine RL.guardNoS rfl rfl rfl rfl rfl rfl ?_ | refine RL.splitD rfl rfl rfl (fun h => ?_) (fun h => ?_) | refine RL.split rfl rfl rfl (fun h => ?_) (fun h => ?_)) | (with_reducible first | refine Run.seq ?_ | refine Run.region ?_ | refine Run.ret ?_) | (with_reducible refine seqN (K := Run _ _ _ _) ?_))
      all_goals first
        | (exfalso; omega)
        | (exfalso; simp_all; done)
        | (refine ⟨eA, _, [], resA, .ch .nil, ?_⟩
           exact ⟨rfl, rfl⟩)
        | (refine ⟨eA, _, [], resA, .ch .nil, ?_⟩
           exact ⟨by rw [decide_eq_true (by assumption)]; rfl, rfl⟩)
        | (refine ⟨eA, _, [], resA, .ch .nil, ?_⟩
           exact ⟨by rw [decide_eq_false (by assumption)]; rfl, rfl⟩)
    · have e : rankB n os k = false := by rw [rankB, decide_eq_false hk, Bool.and_false, Bool.false_and]
      rw [e]
      refine Spec.of_run2 (n := 18) Try.func95 rfl Try.results95 Try.ntmps95 rfl ?_
      repeat' (first | (with_reducible first | refine RL.done ?_ | refine RL.app0 ?_) | (with_reducible refine RL.wanted ?_ ?_; exact rfl) | ((with_reducible show RH _ _ _ ⟨some 2, .box _ _, _, _, _, _⟩ _ _ _ _); (refine RH.boxAgg rfl rfl ?_; rintro _ _ ⟨b2, rfl, rfl⟩)) | ((with_reducible show RH _ _ _ ⟨_, .call ⟨.value (.func 94), _, _⟩, _, _, _, _⟩ _ _ _ _); refine RH.cP Try.call94 ?_; refine ⟨_, l2Good_c n os (by omega) ho, ?_⟩; rintro _ _ ⟨rfl, rfl⟩) | ((with_reducible show RH _ _ _ ⟨_, .call ⟨.value (.func 78), _, _⟩, _, _, _, _⟩ _ _ _ _); refine RH.cP Try.call78 ?_; refine ⟨_, l1In_c _ _ _, ?_⟩; rintro _ _ ⟨rfl, rfl⟩) | ((with_reducible show RH _ _ _ _ _ _ _ _); refine RH.val (hK := ?_)) | (with_reducible show RL _ _ _ (_ :: _) _ _ _; first | refine RL.guardYes rfl rfl rfl rfl ?_ | refine RL.guardNoS rfl rfl rfl rfl rfl rfl ?_ | refine RL.splitD rfl rfl rfl (fun h => ?_) (fun h => ?_) | refine RL.split rfl rfl rfl (fun h => ?_) (fun h => ?_)) | (with_reducible first | refine Run.seq ?_ | refine Run.region ?_ | refine Run.ret ?_) | (with_reducible refine seqN (K := Run _ _ _ _) ?_))
      all_goals first
        | (refine ⟨eA, _, [], resA, .ch .nil, ?_⟩
           exact ⟨rfl, rfl⟩)
        | (exfalso; simp_all; done)
  · have e : rankB n os k = false := by rw [rankB, show algB n os = false by simpa using ha, Bool.false_and, Bool.false_and]
    rw [e]
    refine Spec.of_run2 (n := 18) Try.func95 rfl Try.results95 Try.ntmps95 rfl ?_
    repeat' (first | (with_reducible first | refine RL.done ?_ | refine RL.app0 ?_) | (with_reducible refine RL.wanted ?_ ?_; exact rfl) | ((with_reducible show RH _ _ _ ⟨some 2, .box _ _, _, _, _, _⟩ _ _ _ _); (refine RH.boxAgg rfl rfl ?_; rintro _ _ ⟨b2, rfl, rfl⟩)) | ((with_reducible show RH _ _ _ ⟨_, .call ⟨.value (.func 94), _, _⟩, _, _, _, _⟩ _ _ _ _); refine RH.cP Try.call94 ?_; refine ⟨_, l2Good_c n os (by omega) ho, ?_⟩; rintro _ _ ⟨rfl, rfl⟩) | ((with_reducible show RH _ _ _ _ _ _ _ _); refine RH.val (hK := ?_)) | (with_reducible show RL _ _ _ (_ :: _) _ _ _; first | refine RL.guardYes rfl rfl rfl rfl ?_ | refine RL.guardNoS rfl rfl rfl rfl rfl rfl ?_ | refine RL.split rfl rfl rfl (fun h => ?_) (fun h => ?_)) | (with_reducible first | refine Run.seq ?_ | refine Run.region ?_ | refine Run.ret ?_) | (with_reducible refine seqN (K := Run _ _ _ _) ?_))
    all_goals first
      | (refine ⟨eA, _, [], resA, .ch .nil, ?_⟩
         exact ⟨rfl, rfl⟩)
      | (exfalso; simp_all; done)
set_option maxRecDepth 10000 in
set_option maxHeartbeats 2000000 in
theorem l11Gens_c (n : Int) (os : List (Int × List Int)) (k2 : Nat) (hg : rankB n os (k2 : Int) = true) :
    Spec Try.prog 152 [vagg [vint n, vsl 2 (fun y : Int × (List Int) => [vint y.1, vsl 1 (fun x : Int => [vint x]) y.2]) os], vint (k2 : Int)] [] (fun r S' => ∃ s : Sv, r = vlit (vsv s) ∧ S' = [hsl (tS tInt) (vsv s) (gensF n k2)]) := by
  obtain ⟨ha, hk, hp⟩ := rankB_at hg
  obtain ⟨hfl, hf1, hf64⟩ := fLen_at hg
  obtain ⟨hn1, hn8, _, _⟩ := algB_at ha
  rw [Int.toNat_natCast] at hfl hf1 hf64
  have hpow := l2Pow_c n k2 (by omega) (by omega) (by omega)
  rw [← hfl] at hpow
  refine Spec.of_run2 (n := 40) Try.func152 rfl Try.results152 Try.ntmps152 rfl ?_
  repeat' (first | (with_reducible refine RL.done ?_) | (with_reducible refine RL.wanted ?_ ?_; exact rfl) | ((with_reducible show RH _ _ _ ⟨some 2, .box _ _, _, _, _, _⟩ _ _ _ _); (refine RH.boxAgg rfl rfl ?_; rintro _ _ ⟨b2, rfl, rfl⟩)) | ((with_reducible show RH _ _ _ ⟨some 9, .buildSlice _ _ _, _, _, _, _⟩ _ _ _ _); (refine RH.eff rfl rfl (EOpS.e (EOpS.slitV (by ((repeat (first | exact Elts.nil | apply Elts.one1 rfl | apply Elts.agg2 rfl)); done)) (by simp) rfl rfl)) ?_; rintro _ _ ⟨b9, rfl, rfl⟩)) | ((with_reducible show RH _ _ _ _ _ _ _ _); refine RH.val (hK := ?_)) | (with_reducible first | refine Run.seq ?_ | refine Run.region ?_ | refine Run.block ?_) | (with_reducible refine seqN (K := Run _ _ _ _) ?_))
  refine Run.sent (T := [hsl (tS tInt) (vsv (some ⟨b9, 0, none⟩, 0, 0)) [], hcells b2 [vint n, vsl 2 (fun y : Int × (List Int) => [vint y.1, vsl 1 (fun x : Int => [vint x]) y.2]) os]]) (SEnt.packNil (tS tInt) rfl) ?_
  refine Run.loop (α := Nat × Sv) (fun z => [(1, vint (k2 : Int)), (2, vptr b2 0), (5, vlit (vsv z.2)), (6, vint (z.1 : Int))])
    (fun z => [hsl (tS tInt) (vsv z.2) (gensTo n k2 z.1), hcells b2 [vint n, vsl 2 (fun y : Int × (List Int) => [vint y.1, vsl 1 (fun x : Int => [vint x]) y.2]) os]]) (fun z => z.1 ≤ k2) (fun z => k2 - z.1) (0, (some ⟨b9, 0, none⟩, 0, 0)) (Nat.zero_le _) (Ent.of slA .refl) ?_
  rintro ⟨v, s⟩ hv
  dsimp only at hv ⊢
  have hgl := gensTo_length n k2 v
  rcases Nat.lt_or_eq_of_le hv with h9 | h9
  · repeat' (first | (with_reducible refine RL.done ?_) | (with_reducible refine RL.wanted ?_ ?_; exact rfl) | ((with_reducible show RH _ _ _ ⟨some 15, .buildSlice _ _ _, _, _, _, _⟩ _ _ _ _); refine RH.eff rfl rfl (EOpS.e (EOpS.slit (fun x : Int => [vint x]) _ (fun _ _ => rfl) (by repeat (first | exact Elts.nil | (apply Elts.cons; exact rfl; exact CellsOf.one))) rfl rfl)) ?_; rintro _ _ ⟨b15, rfl, rfl⟩) | ((with_reducible show RH _ _ _ _ _ _ _ _); refine RH.val (hK := ?_)) | (with_reducible first | refine Run.seq ?_ | refine Run.region ?_ | refine Run.block ?_ | refine Run.skip ?_ | refine Run.exit ?_ | refine Run.ret ?_) | (with_reducible show Run _ _ (.cond _ _ _) _ _ _; refine Run.condD rfl (fun h => ?_) (fun h => ?_)) | (with_reducible first | refine seqN (K := Run _ _ _ _) ?_ | refine seqE ?_ | refine blockE ?_))
    all_goals first
      | (exfalso; omega)
      | skip
    refine Run.sent (T := [hsl tInt (vsv (some ⟨b15, 0, none⟩, 0, 0)) [], hsl (tS tInt) (vsv s) (gensTo n k2 v), hcells b2 [vint n, vsl 2 (fun y : Int × (List Int) => [vint y.1, vsl 1 (fun x : Int => [vint x]) y.2]) os]]) (SEnt.packNil tInt rfl) ?_
    refine Run.loop (α := Nat × Sv) (fun z => [(1, vint (k2 : Int)), (2, vptr b2 0), (5, vlit (vsv s)), (6, vint (v : Int)), (7, vlit (vsv z.2)), (8, vint (z.1 : Int))])
      (fun z => [hsl tInt (vsv z.2) (genTo n k2 v z.1), hsl (tS tInt) (vsv s) (gensTo n k2 v), hcells b2 [vint n, vsl 2 (fun y : Int × (List Int) => [vint y.1, vsl 1 (fun x : Int => [vint x]) y.2]) os]]) (fun z => z.1 ≤ fLen n k2) (fun z => fLen n k2 - z.1) (0, (some ⟨b15, 0, none⟩, 0, 0)) (Nat.zero_le _) (Ent.of slA .refl) ?_
    rintro ⟨p, st⟩ hp2
    dsimp only at hp2 ⊢
    have hgt := genTo_length n k2 v p
    have hll := lowd_length (p : Int) n k2
    rcases Nat.lt_or_eq_of_le hp2 with h8 | h8
    · have hd := genTo_succ n k2 v p (by omega)
      repeat' (first | (with_reducible first | refine RL.done ?_ | refine RL.app0 ?_ | refine RL.app1 ?_) | (with_reducible refine RL.wanted ?_ ?_; exact rfl) | ((with_reducible show RH _ _ _ ⟨some 33, .buildSlice _ _ _, _, _, _, _⟩ _ _ _ _); refine RH.eff rfl rfl (EOpS.e (EOpS.slit (fun x : Int => [vint x]) _ (fun _ _ => rfl) (by repeat (first | exact Elts.nil | (apply Elts.cons; exact rfl; exact CellsOf.one))) rfl rfl)) ?_; rintro _ _ ⟨b33, rfl, rfl⟩) | ((with_reducible show RH _ _ _ ⟨some 37, .buildSlice _ _ _, _, _, _, _⟩ _ _ _ _); (refine RH.eff rfl rfl (EOpS.e (EOpS.slitV (by ((repeat (first | exact Elts.nil | apply Elts.one1 rfl | apply Elts.agg2 rfl)); done)) (by simp) rfl rfl)) ?_; rintro _ _ ⟨b37, rfl, rfl⟩)) | ((with_reducible show RH _ _ _ ⟨_, .call ⟨.value (.func 80), _, _⟩, _, _, _, _⟩ _ _ _ _); refine RH.cP Try.call80 ?_; refine ⟨_, hpow, ?_⟩; rintro _ _ ⟨rfl, rfl⟩) | ((with_reducible show RH _ _ _ ⟨_, .call ⟨.value (.func 120), _, _⟩, _, _, _, _⟩ _ _ _ _); refine RH.cP Try.call120 ?_; refine ⟨_, l2Args_c _ n k2 (by omega) (by omega) (by omega) (by omega), ?_⟩; rintro _ _ ⟨s29, rfl, rfl⟩) | ((with_reducible show RH _ _ _ ⟨_, .call ⟨.builtin .append, _, _⟩, _, _, _, _⟩ _ _ _ _); (first | refine RH.appI rfl rfl rfl (by repeat (first | exact Pick.nil | (apply Pick.cons; (with_reducible repeat (first | exact Rem.head | apply Rem.tail))))) (by first | omega | (simp; omega)) (by first | omega | (simp; omega)) ?_ | refine RH.appR rfl rfl rfl (by repeat (first | exact Pick.nil | (apply Pick.cons; (with_reducible repeat (first | exact Rem.head | apply Rem.tail))))) (by first | omega | (simp; omega)) (by first | omega | (simp; omega)) ?_); rintro _ _ ⟨s, rfl, rfl⟩) | ((with_reducible show RH _ _ _ _ _ _ _ _); refine RH.val (hK := ?_)) | (with_reducible first | refine Run.seq ?_ | refine Run.region ?_ | refine Run.block ?_ | refine Run.skip ?_ | refine Run.exit ?_) | (with_reducible show Run _ _ (.cond _ _ _) _ _ _; refine Run.condD rfl (fun h => ?_) (fun h => ?_)) | (with_reducible first | refine seqN (K := Run _ _ _ _) ?_ | refine seqE ?_ | refine blockN ?_ | refine blockE ?_))
      all_goals first
        | (exfalso; omega)
        | (with_reducible refine seqN ?_
           exact ⟨(p + 1, _), by dsimp only; omega, by dsimp only; omega, Ent.of (by dsimp only; exact slA) (by dsimp only; rw [hd]; exact chA)⟩)
    · subst h8
      have hd : gensTo n k2 (v + 1) = gensTo n k2 v ++ [genTo n k2 v (fLen n k2)] := gensTo_succ n k2 v
      repeat' (first | (with_reducible first | refine RL.done ?_ | refine RL.app0 ?_) | (with_reducible refine RL.wanted ?_ ?_; exact rfl) | ((with_reducible show RH _ _ _ ⟨some 37, .buildSlice _ _ _, _, _, _, _⟩ _ _ _ _); (refine RH.eff rfl rfl (EOpS.e (EOpS.slitV (by ((repeat (first | exact Elts.nil | apply Elts.one1 rfl | apply Elts.agg2 rfl)); done)) (by simp) rfl rfl)) ?_; rintro _ _ ⟨b37, rfl, rfl⟩)) | ((with_reducible show RH _ _ _ ⟨_, .call ⟨.value (.func 80), _, _⟩, _, _, _, _⟩ _ _ _ _); refine RH.cP Try.call80 ?_; refine ⟨_, hpow, ?_⟩; rintro _ _ ⟨rfl, rfl⟩) | ((with_reducible show RH _ _ _ ⟨_, .call ⟨.builtin .append, _, _⟩, _, _, _, _⟩ _ _ _ _); (refine RH.appR rfl rfl rfl (by repeat (first | exact Pick.nil | (apply Pick.cons; (with_reducible repeat (first | exact Rem.head | apply Rem.tail))))) (by first | omega | (simp; omega)) (by first | omega | (simp; omega)) ?_); rintro _ _ ⟨s, rfl, rfl⟩) | ((with_reducible show RH _ _ _ _ _ _ _ _); refine RH.val (hK := ?_)) | (with_reducible first | refine Run.seq ?_ | refine Run.region ?_ | refine Run.block ?_ | refine Run.skip ?_ | refine Run.exit ?_) | (with_reducible show Run _ _ (.cond _ _ _) _ _ _; refine Run.condD rfl (fun h => ?_) (fun h => ?_)) | (with_reducible first | refine seqN (K := Run _ _ _ _) ?_ | refine seqE ?_ | refine blockN ?_ | refine blockE ?_))
      all_goals first
        | (exfalso; omega)
        | (with_reducible refine seqN ?_
           exact ⟨(v + 1, _), by dsimp only; omega, by dsimp only; omega, Ent.of (by dsimp only; exact slA) (by dsimp only; rw [hd]; exact chA)⟩)
  · subst h9
    repeat' (first | (with_reducible refine RL.done ?_) | (with_reducible refine RL.wanted ?_ ?_; exact rfl) | ((with_reducible show RH _ _ _ ⟨some 15, .buildSlice _ _ _, _, _, _, _⟩ _ _ _ _); refine RH.eff rfl rfl (EOpS.e (EOpS.slit (fun x : Int => [vint x]) _ (fun _ _ => rfl) (by repeat (first | exact Elts.nil | (apply Elts.cons; exact rfl; exact CellsOf.one))) rfl rfl)) ?_; rintro _ _ ⟨b15, rfl, rfl⟩) | ((with_reducible show RH _ _ _ _ _ _ _ _); refine RH.val (hK := ?_)) | (with_reducible first | refine Run.seq ?_ | refine Run.region ?_ | refine Run.block ?_ | refine Run.skip ?_ | refine Run.exit ?_ | refine Run.ret ?_) | (with_reducible show Run _ _ (.cond _ _ _) _ _ _; refine Run.condD rfl (fun h => ?_) (fun h => ?_)) | (with_reducible first | refine seqN (K := Run _ _ _ _) ?_ | refine seqE ?_ | refine blockE ?_))
    all_goals first
      | (exfalso; omega)
      | (refine ⟨eA, _, [hsl (tS tInt) (vsv s) (gensF n v)], resA, ?_, ?_⟩
         · exact SEnt.ch (.cons .head rfl .nil)
         · exact ⟨s, rfl, rfl⟩)
set_option maxRecDepth 10000 in
set_option maxHeartbeats 2000000 in
theorem l11Free_c (n : Int) (os : List (Int × List Int)) (k : Int) (o : Option (List (List Int))) (hoo : FreeIs n os k o) (hol : os.length ≤ 4611686018427387904) (ho : OpsLen os) :
    Spec Try.prog 77 [vagg [vint n, vsl 2 (fun y : Int × (List Int) => [vint y.1, vsl 1 (fun x : Int => [vint x]) y.2]) os], vint k] [] (GenRes (genO (rankB n os k) o)) := by
  have hrank := l11Rank_c n os k hol ho
  cases hg : rankB n os k with
  | false =>
    rw [hg] at hrank
    refine Spec.of_run2 (n := 29) Try.func77 rfl Try.results77 Try.ntmps77 rfl ?_
    repeat' (first | (with_reducible first | refine RL.done ?_ | refine RL.app0 ?_) | (with_reducible refine RL.wanted ?_ ?_; exact rfl) | ((with_reducible show RH _ _ _ ⟨some 2, .box _ _, _, _, _, _⟩ _ _ _ _); (refine RH.boxAgg rfl rfl ?_; rintro _ _ ⟨b2, rfl, rfl⟩)) | ((with_reducible show RH _ _ _ ⟨some 12, .buildSlice _ _ _, _, _, _, _⟩ _ _ _ _); (refine RH.eff rfl rfl (EOpS.e (EOpS.slitV (by ((repeat (first | exact Elts.nil | apply Elts.one1 rfl | apply Elts.agg2 rfl)); done)) (by simp) rfl rfl)) ?_; rintro _ _ ⟨b12, rfl, rfl⟩)) | ((with_reducible show RH _ _ _ ⟨_, .call ⟨.value (.func 95), _, _⟩, _, _, _, _⟩ _ _ _ _); refine RH.cP Try.call95 ?_; refine ⟨_, hrank, ?_⟩; rintro _ _ ⟨rfl, rfl⟩) | ((with_reducible show RH _ _ _ _ _ _ _ _); refine RH.val (hK := ?_)) | (with_reducible first | refine Run.seq ?_ | refine Run.region ?_ | refine Run.ret ?_) | (with_reducible show Run _ _ (.cond _ _ _) _ _ _; refine Run.condT rfl ?_) | (with_reducible first | refine seqN (K := Run _ _ _ _) ?_ | refine seqR ?_))
    all_goals first
      | (exfalso; simp_all; done)
      | (refine ⟨eA, _, [hsl (tS tInt) (vsv (some ⟨b12, 0, none⟩, 0, 0)) []], resA, ?_, ?_⟩
         · exact (SEnt.packNil (tS tInt) rfl).trans (SEnt.ch (.cons .head rfl .nil))
         · exact ⟨_, rfl, rfl⟩)
  | true =>
    rw [hg] at hrank
    have hoo := hoo hg
    obtain ⟨ha, hk, hp⟩ := rankB_at hg
    obtain ⟨hfl, hf1, hf64⟩ := fLen_at hg
    obtain ⟨hn1, hn8, _, _⟩ := algB_at ha
    obtain ⟨k2, rfl⟩ : ∃ k2 : Nat, k = k2 := ⟨k.toNat, by omega⟩
    rw [Int.toNat_natCast] at hfl hf1 hf64 hoo
    have hpow := l2Pow_c n k2 (by omega) (by omega) (by omega)
    rw [← hfl] at hpow
    refine Spec.of_run2 (n := 29) Try.func77 rfl Try.results77 Try.ntmps77 rfl ?_
    repeat' (first | (with_reducible first | refine RL.done ?_ | refine RL.app0 ?_ | refine RD.app0 ?_ | refine RD.app1 ?_) | (with_reducible refine RL.wanted ?_ ?_; exact rfl) | ((with_reducible show Run _ _ (.region 3 _ true) _ _ _); refine Run.regionD (fun i => false) rfl ?_; change RD _ _ _ _ _ _ 14 (dm 14 0) _ _) | ((with_reducible show RD _ _ 3 _ _ _ _ _ _ _); first | ((with_reducible show RD _ _ _ _ _ _ _ (dm 14 0) _ _); refine RD.tk 0 (dm 14 16128) (dm 14 1) (hK := ?_)) | ((with_reducible show RD _ _ _ _ _ _ _ (dm 14 1) _ _); refine RD.tk 1 (dm 14 16276) (dm 14 3) (hK := ?_)) | ((with_reducible show RD _ _ _ _ _ _ _ (dm 14 3) _ _); refine RD.tk 2 (dm 14 16272) (dm 14 7) (hK := ?_)) | ((with_reducible show RD _ _ _ _ _ _ _ (dm 14 7) _ _); refine RD.tk 3 (dm 14 16272) (dm 14 15) (hK := ?_)) | ((with_reducible show RD _ _ _ _ _ _ _ (dm 14 15) _ _); refine RD.tk 5 (dm 14 16256) (dm 14 47) (hK := ?_)) | ((with_reducible show RD _ _ _ _ _ _ _ (dm 14 47) _ _); refine RD.tk 6 (dm 14 16256) (dm 14 111) (hK := ?_)) | ((with_reducible show RD _ _ _ _ _ _ _ (dm 14 111) _ _); refine RD.a1 4 ?_) | ((with_reducible show RD _ _ _ _ _ _ _ (dm 14 127) _ _); refine RD.a1 7 ?_) | ((with_reducible show RD _ _ _ _ _ _ _ (dm 14 255) _ _); refine RD.a1 8 ?_) | ((with_reducible show RD _ _ _ _ _ _ _ (dm 14 511) _ _); refine RD.tk 9 (dm 14 15360) (dm 14 1023) (hK := ?_)) | ((with_reducible show RD _ _ _ _ _ _ _ (dm 14 1023) _ _); refine RD.tk 10 (dm 14 12288) (dm 14 2047) (hK := ?_)) | ((with_reducible show RD _ _ _ _ _ _ _ (dm 14 2047) _ _); refine RD.tk 11 (dm 14 8192) (dm 14 4095) (hK := ?_)) | ((with_reducible show RD _ _ _ _ _ _ _ (dm 14 4095) _ _); refine RD.tk 12 (dm 14 8192) (dm 14 8191) (hK := ?_)) | ((with_reducible show RD _ _ _ _ _ _ _ (dm 14 8191) _ _); refine RD.tk 13 (dm 14 0) (dm 14 16383) (hK := ?_)) | ((with_reducible show RD _ _ _ _ _ _ 0 _ _ _); refine RD.done (by kernel_rfl) ?_)) | ((with_reducible show RO _ _ 3 _ _ _ _ _ _ _ _); first | ((with_reducible show RO _ _ _ _ _ _ _ (dm 14 111) 4 _ _); (refine RO.cP (dm 14 127) Try.call80 ?_; refine ⟨_, hpow, ?_⟩; rintro _ _ ⟨rfl, rfl⟩)) | ((with_reducible show RO _ _ _ _ _ _ _ (dm 14 127) 7 _ _); (refine RO.cP (dm 14 255) Try.call152 ?_; refine ⟨_, l11Gens_c n os k2 hg, ?_⟩; rintro _ _ ⟨s21, rfl, rfl⟩; refine RD.app1 ?_; refine RD.frzS ?_)) | ((with_reducible show RO _ _ _ _ _ _ _ (dm 14 255) 8 _ _); (refine RO.cP (dm 14 511) Try.call151 ?_; refine ⟨_, l8Close_c n os (fLen n k2) (gensF n k2) ha (by omega) (gensF_ok hn1) (by rw [gensF_length]; omega), ?_⟩; rintro _ _ ⟨X, s22, rfl, rfl, hX⟩))) | ((with_reducible show RH _ _ _ ⟨some 2, .box _ _, _, _, _, _⟩ _ _ _ _); (refine RH.boxAgg rfl rfl ?_; rintro _ _ ⟨b2, rfl, rfl⟩)) | ((with_reducible show RH _ _ _ ⟨some 27, .buildSlice _ _ _, _, _, _, _⟩ _ _ _ _); (refine RH.eff rfl rfl (EOpS.e (EOpS.slitV (by ((repeat (first | exact Elts.nil | apply Elts.one1 rfl | apply Elts.agg2 rfl)); done)) (by simp) rfl rfl)) ?_; rintro _ _ ⟨b27, rfl, rfl⟩)) | ((with_reducible show RH _ _ _ ⟨_, .call ⟨.value (.func 95), _, _⟩, _, _, _, _⟩ _ _ _ _); refine RH.cP Try.call95 ?_; refine ⟨_, hrank, ?_⟩; rintro _ _ ⟨rfl, rfl⟩) | ((with_reducible show RH _ _ _ _ _ _ _ _); refine RH.val (hK := ?_)) | (with_reducible first | refine Run.seq ?_ | refine Run.region ?_ | refine Run.skip ?_ | refine Run.ret ?_) | (with_reducible show Run _ _ (.cond _ _ _) _ _ _; first | refine Run.condF rfl ?_ | refine Run.condND rfl (fun h => ?_) (fun h => ?_)) | (with_reducible first | refine seqN (K := Run _ _ _ _) ?_ | refine seqR ?_))
    all_goals first
      | (exfalso; simp_all; done)
      | skip
    all_goals rcases gen_yes hoo hX with ⟨h5, h6⟩ | ⟨h5, h6⟩
    all_goals first
      | (exfalso; omega)
      | (refine ⟨eA, _, [hsl (tS tInt) (vsv s22) X], resA, ?_, ?_⟩
         · exact SEnt.ch chA
         · exact ⟨s22, by rw [h6]; rfl, by rw [h6]; rfl⟩)
      | (refine ⟨eA, _, [hsl (tS tInt) (vsv (some ⟨b27, 0, none⟩, 0, 0)) []], resA, ?_, ?_⟩
         · exact (SEnt.packNil (tS tInt) rfl).trans (SEnt.ch (.cons .head rfl .nil))
         · exact ⟨(some ⟨b27, 0, none⟩, 0, 0), by rw [h6]; rfl, by rw [h6]; rfl⟩)
theorem genTo_set (n : Int) (k v m size : Nat) (hm : m < size) (hl : v < (lowd (m : Int) n k).length) : (genTo n k v m ++ List.replicate (size - m) (0 : Int)).set m ((lowd (m : Int) n k)[v]) = genTo n k v (m + 1) ++ List.replicate (size - (m + 1)) 0 := by
  have e : size - m = size - (m + 1) + 1 := by omega
  rw [List.set_append_right _ _ (by simp [genTo_length]), genTo_length, Nat.sub_self, e, List.replicate_succ, List.set_cons_zero, genTo_succ n k v m hl, List.append_assoc]; rfl
/-- the free algebra or nothing -/
def FreeRes (n : Int) (os : List (Int × List Int)) (k : Nat) (o : Option (List (List Int))) (r : VP) (S' : List HP) : Prop := match o with
  | none => r = vtup [vlit (.pointer none), vbool false] ∧ S' = []
  | some X => ∃ (b bs bm : Nat) (s : Sv) (kv : KV), r = vtup [vptr b 0, vbool true] ∧ S' = [hcells b [vptr bs 0, vint (k : Int), vsl 1 (fun t : List Int => [vsl 1 (fun x : Int => [vint x]) t]) (gensF n k)], spanH bs bm n os (fLen n k) s, hsl (tS tInt) (vsv s) X, hmapI bm kv] ∧ KvOk X kv
/-- the free algebra with its list frozen, or nothing -/
def FreeFrz (n : Int) (os : List (Int × List Int)) (k : Nat) (o : Option (List (List Int))) (r : VP) (S' : List HP) : Prop := match o with
  | none => r = vtup [vlit (.pointer none), vbool false] ∧ S' = []
  | some X => ∃ (b bs bm : Nat) (kv : KV), r = vtup [vptr b 0, vbool true] ∧ S' = [hcells bs [vint n, vsl 2 (fun y : Int × (List Int) => [vint y.1, vsl 1 (fun x : Int => [vint x]) y.2]) os, vint ((fLen n k : Nat) : Int), vsl 1 (fun t : List Int => [vsl 1 (fun x : Int => [vint x]) t]) X, vmap bm], hcells b [vptr bs 0, vint (k : Int), vsl 1 (fun t : List Int => [vsl 1 (fun x : Int => [vint x]) t]) (gensF n k)], hmapI bm kv] ∧ KvOk X kv
theorem genO_some {ok : Bool} {o : Option (List (List Int))} {X : List (List Int)} (h : genO ok o = some X) : ok = true ∧ o = some X := by
  cases ok with
  | false => cases h
  | true => exact ⟨rfl, h⟩
set_option maxRecDepth 10000 in
set_option maxHeartbeats 4000000 in
theorem freeOf_c (n : Int) (os : List (Int × List Int)) (k : Int) (o : Option (List (List Int))) (hoo : FreeIs n os k o) (hol : os.length ≤ 4611686018427387904) (ho : OpsLen os) :
    Spec Try.prog 82 [vagg [vint n, vsl 2 (fun y : Int × (List Int) => [vint y.1, vsl 1 (fun x : Int => [vint x]) y.2]) os], vint k] [] (FreeRes n os k.toNat (genO (rankB n os k) o)) := by
  by_cases ha : algB n os = true
  · obtain ⟨hn1, hn8, _, _⟩ := algB_at ha
    by_cases hk : 0 ≤ k ∧ k ≤ 3
    · obtain ⟨k2, rfl⟩ : ∃ k2 : Nat, k = k2 := ⟨k.toNat, by omega⟩
      have hpow := power_c n k2 (by omega) (by omega) (by omega)
      rw [Int.toNat_natCast]
      by_cases hp : pw n k2 ≤ 64
      · have hg : rankB n os k2 = true := by
          rw [rankB, ha, decide_eq_true hk, Int.toNat_natCast, decide_eq_true hp]; rfl
        rw [hg]
        have hoo := hoo hg
        obtain ⟨hfl, hf1, hf64⟩ := fLen_at hg
        rw [Int.toNat_natCast] at hfl hf1 hf64 hoo
        rw [← hfl] at hpow
        have htup : ∀ t ∈ gensF n k2, TupOk n (fLen n k2) t := gensF_ok hn1
        have hmost := mostV_le os
        refine Spec.of_run2 (n := 117) Try.func82 rfl Try.results82 Try.ntmps82 rfl ?_
        repeat' (first | (with_reducible first | refine RL.done ?_ | refine RL.app0 ?_) | (with_reducible refine RL.wanted ?_ ?_; exact rfl) | ((with_reducible show RH _ _ _ ⟨some 2, .box _ _, _, _, _, _⟩ _ _ _ _); (refine RH.boxAgg rfl rfl ?_; rintro _ _ ⟨b2, rfl, rfl⟩)) | ((with_reducible show RH _ _ _ ⟨some 39, .box _ _, _, _, _, _⟩ _ _ _ _); (refine RH.boxAgg rfl rfl ?_; rintro _ _ ⟨b39, rfl, rfl⟩)) | ((with_reducible show RH _ _ _ ⟨_, .call ⟨.value (.func 96), _, _⟩, _, _, _, _⟩ _ _ _ _); refine RH.cP Try.call96 ?_; refine ⟨_, isAlgebra_c n os (by omega) ho, ?_⟩; rintro _ _ ⟨rfl, rfl⟩) | ((with_reducible show RH _ _ _ ⟨_, .call ⟨.value (.func 144), _, _⟩, _, _, _, _⟩ _ _ _ _); refine RH.cP Try.call144 ?_; refine ⟨_, hpow, ?_⟩; rintro _ _ ⟨rfl, rfl⟩) | ((with_reducible show RH _ _ _ _ _ _ _ _); refine RH.val (hK := ?_)) | (with_reducible show RL _ _ _ (_ :: _) _ _ _; first | refine RL.guardYes rfl rfl rfl rfl ?_ | refine RL.guardNoS rfl rfl rfl rfl rfl rfl ?_ | refine RL.splitD rfl rfl rfl (fun h => ?_) (fun h => ?_) | refine RL.splitNB rfl rfl rfl (fun h => ?_) (fun h => ?_)) | (with_reducible first | refine Run.seq ?_ | refine Run.region ?_ | refine Run.block ?_ | refine Run.skip ?_ | refine Run.ret ?_) | (with_reducible show Run _ _ (.cond _ _ _) _ _ _; first | refine Run.condT rfl ?_ | refine Run.condD rfl (fun h => ?_) (fun h => ?_)) | (with_reducible first | refine seqN (K := Run _ _ _ _) ?_ | refine seqR ?_))
        all_goals first
          | (exfalso; omega)
          | (exfalso; simp_all; done)
          | skip
        refine Run.sent (T := [hsl (tS tInt) (vsv (none, 0, 0)) [], hcells b39 [vlit (.pointer none), vint (k2 : Int), vlit (vsv (none, 0, 0))], hcells b2 [vint n, vsl 2 (fun y : Int × (List Int) => [vint y.1, vsl 1 (fun x : Int => [vint x]) y.2]) os]]) ((SEnt.ch (T := [hcells b39 [vlit (.pointer none), vint (k2 : Int), vlit (vsv (none, 0, 0))], hcells b2 [vint n, vsl 2 (fun y : Int × (List Int) => [vint y.1, vsl 1 (fun x : Int => [vint x]) y.2]) os]]) (by repeat (first | exact Ch.nil | refine Ch.same (by repeat (first | exact Rem.head | apply Rem.tail)) ?_))).trans (SEnt.nil _ _)) ?_
        refine Run.loop (α := Nat × Sv) (fun z => [(1, vint (k2 : Int)), (2, vptr b2 0), (6, vint (fLen n k2 : Int)), (7, vptr b39 0), (8, vint (z.1 : Int))])
          (fun z => [hsl (tS tInt) (vsv z.2) (gensTo n k2 z.1), hcells b39 [vlit (.pointer none), vint (k2 : Int), vlit (vsv z.2)], hcells b2 [vint n, vsl 2 (fun y : Int × (List Int) => [vint y.1, vsl 1 (fun x : Int => [vint x]) y.2]) os]]) (fun z => z.1 ≤ k2) (fun z => k2 - z.1) (0, (none, 0, 0)) (Nat.zero_le _) (Ent.of slA .refl) ?_
        rintro ⟨v, sg⟩ hv
        dsimp only at hv ⊢
        have hgl := gensTo_length n k2 v
        rcases Nat.lt_or_eq_of_le hv with h9 | h9
        · repeat' (first | (with_reducible refine RL.done ?_) | (with_reducible refine RL.wanted ?_ ?_; exact rfl) | ((with_reducible show RH _ _ _ ⟨some 46, .makeSlice _ _ _, _, _, _, _⟩ _ _ _ _); refine RH.make (α := Int) rfl (fun x => [vint x]) 0 (fun c => .cons rfl .nil) rfl rfl (by omega) (by omega) (by omega) ?_; rintro _ _ ⟨b46, rfl, rfl⟩) | ((with_reducible show RH _ _ _ _ _ _ _ _); refine RH.val (hK := ?_)) | (with_reducible first | refine Run.seq ?_ | refine Run.region ?_ | refine Run.block ?_ | refine Run.skip ?_ | refine Run.exit ?_) | (with_reducible show Run _ _ (.cond _ _ _) _ _ _; refine Run.condD rfl (fun h => ?_) (fun h => ?_)) | (with_reducible first | refine seqN (K := Run _ _ _ _) ?_ | refine seqE ?_ | refine blockE ?_))
          all_goals first
            | (exfalso; omega)
            | skip
          refine Run.loop (α := Nat) (fun i => [(1, vint (k2 : Int)), (2, vptr b2 0), (6, vint (fLen n k2 : Int)), (7, vptr b39 0), (8, vint (v : Int)), (9, vsb b46 (fLen n k2) (fLen n k2)), (48, vint (fLen n k2 : Int)), (49, vint (i : Int))])
            (fun i => [harr b46 1 (fun x : Int => [vint x]) (genTo n k2 v i ++ List.replicate (fLen n k2 - i) (0 : Int)) (fLen n k2 * 1), hsl (tS tInt) (vsv sg) (gensTo n k2 v), hcells b39 [vlit (.pointer none), vint (k2 : Int), vlit (vsv sg)], hcells b2 [vint n, vsl 2 (fun y : Int × (List Int) => [vint y.1, vsl 1 (fun x : Int => [vint x]) y.2]) os]])
            (fun i => i ≤ fLen n k2) (fun i => fLen n k2 - i) 0 (Nat.zero_le _) (Ent.of slA (.cons .head (by simp [genTo]) chA)) ?_
          intro i hi
          have hll := lowd_length (i : Int) n k2
          have hlen : (genTo n k2 v i ++ List.replicate (fLen n k2 - i) (0 : Int)).length = fLen n k2 := by simp [genTo_length]; omega
          rcases Nat.lt_or_eq_of_le hi with h8 | h8
          · have hset := genTo_set n k2 v i (fLen n k2) h8 (by omega)
            repeat' (first | (with_reducible first | refine RL.done ?_ | refine RL.app1 ?_) | (with_reducible refine RL.wanted ?_ ?_; exact rfl) | ((with_reducible show RH _ _ _ ⟨some 70, .buildSlice _ _ _, _, _, _, _⟩ _ _ _ _); (refine RH.eff rfl rfl (EOpS.e (EOpS.slitV (by ((repeat (first | exact Elts.nil | apply Elts.one1 rfl | apply Elts.agg2 rfl)); done)) (by simp) rfl rfl)) ?_; rintro _ _ ⟨b70, rfl, rfl⟩)) | ((with_reducible show RH _ _ _ ⟨_, .call ⟨.value (.func 145), _, _⟩, _, _, _, _⟩ _ _ _ _); refine RH.cP Try.call145 ?_; refine ⟨_, argsAt_c _ n k2 (by omega) (by omega) (by omega) (by omega), ?_⟩; rintro _ _ ⟨s58, rfl, rfl⟩) | ((with_reducible show RH _ _ _ _ _ _ _ _); first | refine RH.val (hK := ?_) | refine RH.upd (hK := ?_)) | (with_reducible first | refine Run.seq ?_ | refine Run.region ?_ | refine Run.block ?_ | refine Run.skip ?_ | refine Run.exit ?_) | (with_reducible show Run _ _ (.cond _ _ _) _ _ _; refine Run.condD rfl (fun h => ?_) (fun h => ?_)) | (with_reducible first | refine seqN (K := Run _ _ _ _) ?_ | refine seqE ?_ | refine blockN ?_ | refine blockE ?_))
            all_goals first
              | (exfalso; omega)
              | (with_reducible refine seqN ?_
                 exact ⟨i + 1, by omega, by omega, Ent.of slA (.cons (by with_reducible repeat (first | exact Rem.head | apply Rem.tail)) (congrArg (fun ys => harr b46 1 (fun x : Int => [vint x]) ys (fLen n k2 * 1)) hset) chA)⟩)
          · subst h8
            have hd : gensTo n k2 (v + 1) = gensTo n k2 v ++ [genTo n k2 v (fLen n k2)] := gensTo_succ n k2 v
            refine Run.sent (T := [hsl tInt (.slice (some ⟨b46, 0, none⟩) (fLen n k2) (fLen n k2)) (genTo n k2 v (fLen n k2)), hsl (tS tInt) (vsv sg) (gensTo n k2 v), hcells b39 [vlit (.pointer none), vint (k2 : Int), vlit (vsv sg)], hcells b2 [vint n, vsl 2 (fun y : Int × (List Int) => [vint y.1, vsl 1 (fun x : Int => [vint x]) y.2]) os]])
              ((SEnt.ch (T := [harr b46 1 (fun x : Int => [vint x]) (genTo n k2 v (fLen n k2)) (fLen n k2 * 1), hsl (tS tInt) (vsv sg) (gensTo n k2 v), hcells b39 [vlit (.pointer none), vint (k2 : Int), vlit (vsv sg)], hcells b2 [vint n, vsl 2 (fun y : Int × (List Int) => [vint y.1, vsl 1 (fun x : Int => [vint x]) y.2]) os]]) (.cons .head (by rw [Nat.sub_self, List.replicate_zero, List.append_nil]) chA)).trans (SEnt.pack (fun _ => rfl) (genTo_length n k2 v _).symm)) ?_
            repeat' (first | (with_reducible refine RL.done ?_) | (with_reducible refine RL.wanted ?_ ?_; exact rfl) | ((with_reducible show RH _ _ _ ⟨some 70, .buildSlice _ _ _, _, _, _, _⟩ _ _ _ _); (refine RH.eff rfl rfl (EOpS.e (EOpS.slitV (by ((repeat (first | exact Elts.nil | apply Elts.one1 rfl | apply Elts.agg2 rfl)); done)) (by simp) rfl rfl)) ?_; rintro _ _ ⟨b70, rfl, rfl⟩)) | ((with_reducible show RH _ _ _ ⟨_, .call ⟨.builtin .append, _, _⟩, _, _, _, _⟩ _ _ _ _); (refine RH.appR rfl rfl rfl (by repeat (first | exact Pick.nil | (apply Pick.cons; (with_reducible repeat (first | exact Rem.head | apply Rem.tail))))) (by first | omega | (simp; omega)) (by first | omega | (simp; omega)) ?_); rintro _ _ ⟨s, rfl, rfl⟩) | ((with_reducible show RH _ _ _ _ _ _ _ _); first | refine RH.val (hK := ?_) | refine RH.upd (hK := ?_)) | (with_reducible first | refine Run.seq ?_ | refine Run.region ?_ | refine Run.block ?_ | refine Run.skip ?_ | refine Run.exit ?_) | (with_reducible show Run _ _ (.cond _ _ _) _ _ _; refine Run.condD rfl (fun h => ?_) (fun h => ?_)) | (with_reducible first | refine seqN (K := Run _ _ _ _) ?_ | refine seqE ?_ | refine blockN ?_ | refine blockE ?_))
            all_goals first
              | (exfalso; omega)
              | (with_reducible refine seqN ?_
                 exact ⟨(v + 1, _), by dsimp only; omega, by dsimp only; omega, Ent.of (by dsimp only; exact slA) (by dsimp only; rw [hd]; exact chA)⟩)
        · have h9 := h9.symm
          subst h9
          refine Run.frzCell (qs := [vlit (.pointer none), vint (k2 : Int), vsl 1 (fun t : List Int => [vsl 1 (fun x : Int => [vint x]) t]) (gensF n k2)]) .head .head (.keep (.keep (.hit .nil))) ?_
          repeat' (first | (with_reducible first | refine RL.done ?_ | refine RL.app3 ?_ | refine RD.app0 ?_) | (with_reducible refine RL.wanted ?_ ?_; exact rfl) | ((with_reducible show Run _ _ (.region 15 _ true) _ _ _); refine Run.regionD (fun i => false) rfl ?_; change RD _ _ _ _ _ _ 12 (dm 12 0) _ _) | ((with_reducible show RD _ _ 15 _ _ _ _ _ _ _); first | ((with_reducible show RD _ _ _ _ _ _ _ (dm 12 0) _ _); refine RD.tk 0 (dm 12 4032) (dm 12 1) (hK := ?_)) | ((with_reducible show RD _ _ _ _ _ _ _ (dm 12 1) _ _); refine RD.tk 1 (dm 12 4032) (dm 12 3) (hK := ?_)) | ((with_reducible show RD _ _ _ _ _ _ _ (dm 12 3) _ _); refine RD.tk 2 (dm 12 4088) (dm 12 7) (hK := ?_)) | ((with_reducible show RD _ _ _ _ _ _ _ (dm 12 7) _ _); refine RD.tk 3 (dm 12 4080) (dm 12 15) (hK := ?_)) | ((with_reducible show RD _ _ _ _ _ _ _ (dm 12 15) _ _); refine RD.tk 4 (dm 12 4064) (dm 12 31) (hK := ?_)) | ((with_reducible show RD _ _ _ _ _ _ _ (dm 12 31) _ _); refine RD.tk 5 (dm 12 4032) (dm 12 63) (hK := ?_)) | ((with_reducible show RD _ _ _ _ _ _ _ (dm 12 63) _ _); refine RD.a1 6 ?_) | ((with_reducible show RD _ _ _ _ _ _ _ (dm 12 127) _ _); refine RD.tk 7 (dm 12 3840) (dm 12 255) (hK := ?_)) | ((with_reducible show RD _ _ _ _ _ _ _ (dm 12 255) _ _); refine RD.tk 8 (dm 12 3072) (dm 12 511) (hK := ?_)) | ((with_reducible show RD _ _ _ _ _ _ _ (dm 12 511) _ _); refine RD.tk 9 (dm 12 2048) (dm 12 1023) (hK := ?_)) | ((with_reducible show RD _ _ _ _ _ _ _ (dm 12 1023) _ _); refine RD.tk 10 (dm 12 2048) (dm 12 2047) (hK := ?_)) | ((with_reducible show RD _ _ _ _ _ _ _ (dm 12 2047) _ _); refine RD.tk 11 (dm 12 0) (dm 12 4095) (hK := ?_)) | ((with_reducible show RD _ _ _ _ _ _ 0 _ _ _); refine RD.done (by kernel_rfl) ?_)) | ((with_reducible show RO _ _ 15 _ _ _ _ _ _ _ _); ((with_reducible show RO _ _ _ _ _ _ _ (dm 12 63) 6 _ _); (refine RO.cP (dm 12 127) Try.call154 ?_; refine ⟨_, spanOf_c n os (fLen n k2) (gensF n k2) ha (by omega) htup (by rw [gensF_length]; omega), ?_⟩; rintro _ _ (⟨L, b, bm, s, rfl, rfl, hyes⟩ | ⟨rfl, rfl, hno⟩)))) | ((with_reducible show RH _ _ _ ⟨some 46, .makeSlice _ _ _, _, _, _, _⟩ _ _ _ _); refine RH.make (α := Int) rfl (fun x => [vint x]) 0 (fun c => .cons rfl .nil) rfl rfl (by omega) (by omega) (by omega) ?_; rintro _ _ ⟨b46, rfl, rfl⟩) | ((with_reducible show RH _ _ _ _ _ _ _ _); refine RH.val (hK := ?_)) | (with_reducible first | refine Run.seq ?_ | refine Run.region ?_ | refine Run.block ?_ | refine Run.skip ?_ | refine Run.exit ?_ | refine Run.ret ?_) | (with_reducible show Run _ _ (.cond _ _ _) _ _ _; first | refine Run.condT rfl ?_ | refine Run.condF rfl ?_ | refine Run.condD rfl (fun h => ?_) (fun h => ?_)) | (with_reducible first | refine seqN (K := Run _ _ _ _) ?_ | refine seqE ?_ | refine seqR ?_ | refine blockE ?_))
          all_goals first
            | (exfalso; omega)
            | (have h6 := gen_no hoo hno
               refine ⟨eA, _, [], resA, .ch .nil, ?_⟩
               rw [h6]
               exact ⟨rfl, rfl⟩)
            | skip
          have hle := hyes.2.2
          have hLr : ∀ t ∈ L, t.length ≤ 1048576 := fun t h => by
            have := (((hyes.2.1 t).1 h).ok ha (by omega) htup).1
            omega
          have h6 := gen_span ha (by omega) htup hoo hyes
          have hLk : ∀ t ∈ L, t.length = fLen n k2 := fun t h => (((hyes.2.1 t).1 h).ok ha (by omega) htup).1
          repeat' (first | (with_reducible refine RL.done ?_) | (with_reducible refine RL.wanted ?_ ?_; exact rfl) | ((with_reducible show RH _ _ _ ⟨_, .call ⟨.value (.func 155), _, _⟩, _, _, _, _⟩ _ _ _ _); refine RH.cL Try.call155 ?_; apply Exists.intro; apply And.intro; (focus ((repeat (first | exact LVs.nil | (apply LVs.sl; (with_reducible repeat (first | exact Has.head | apply Has.tail)); exact inferInstance; exact rfl))); done)); refine ⟨_, sortedTuples_c L (by omega) hLr, (by intro r H h; first | (obtain ⟨rfl, rfl⟩ := h; exact ⟨inferInstance, inferInstance⟩) | (obtain ⟨_, rfl, rfl⟩ := h; exact ⟨inferInstance, inferInstance⟩) | (obtain ⟨_, _, rfl, rfl⟩ := h; exact ⟨inferInstance, inferInstance⟩) | (obtain ⟨_, _, rfl, rfl, _⟩ := h; exact ⟨inferInstance, inferInstance⟩)), ?_⟩; rintro _ _ ⟨s30, ys, rfl, rfl, hm⟩; refine RL.nm ?_) | ((with_reducible show RH _ _ _ _ _ _ _ _); first | refine RH.val (hK := ?_) | refine RH.upd (hK := ?_)) | (with_reducible first | refine Run.seq ?_ | refine Run.region ?_ | refine Run.block ?_) | (with_reducible refine seqN (K := Run _ _ _ _) ?_))
          all_goals first
            | (exfalso; omega)
            | skip
          have e : ys = putF L := by
            have h1 := dif_put hLk hm
            have h2 := difN_sub id ys
            have h3 : (difN id ys ys.length).length = ys.length := by
              rw [h1, hm.mv.len]
              exact Nat.le_antisymm (putF_le L) (nodup_le hyes.1 (fun t ht => ((putF_str hLk).2 t).2 ht))
            rw [← h1]
            exact (h2.eq_of_length h3).symm
          rw [e] at hm ⊢
          rw [h6] at hoo ⊢
          obtain ⟨X, hX⟩ : ∃ X, X = putF L := ⟨_, rfl⟩
          rw [← hX] at hoo ⊢
          have hF := free_ok hg (fun _ => hoo)
          have hby : ∀ t ∈ X, Byt t := fun t ht => tup_byt hn8 (hF.tup t ht)
          have hXk : ∀ t ∈ X, t.length = fLen n k2 := fun t ht => (hF.tup t ht).1
          have hfew := hF.few
          refine Run.loop (α := Nat × KV) (fun z => [(7, vptr b39 0), (11, vptr b 0), (97, vlit (vsv s30)), (98, vint (X.length : Int)), (99, vint (z.1 : Int))])
            (fun z => [hsl (tS tInt) (vsv s30) X, hmapI bm z.2, spanH b bm n os (fLen n k2) s30, hcells b39 [vlit (.pointer none), vint (k2 : Int), vsl 1 (fun t : List Int => [vsl 1 (fun x : Int => [vint x]) t]) (gensF n k2)]]) (fun z => z.1 ≤ X.length ∧ KvTo X z.1 z.2) (fun z => X.length - z.1) (0, kvL L 0) ⟨Nat.zero_le _, kvTo_0 fun t ht => ((putF_str hLk).2 t).1 (hX ▸ ht)⟩ (Ent.of slA chA) ?_
          rintro ⟨m, kv⟩ ⟨hm, hkv⟩
          dsimp only at hm hkv ⊢
          rcases Nat.lt_or_eq_of_le hm with h9 | h9
          · have hkm := hkv.key X[m] (List.getElem_mem h9)
            have hml := hXk X[m] (List.getElem_mem h9)
            have hsucc := hkv.succ hF.srt hby h9
            have he : X[m]? = some X[m] := List.getElem?_eq_getElem h9
            repeat' (first | (with_reducible refine RL.done ?_) | (with_reducible refine RL.wanted ?_ ?_; exact rfl) | ((with_reducible show Run _ _ (.region 22 _ true) _ _ _); refine Run.regionD (fun i => i == 7) rfl ?_; change RD _ _ _ _ _ _ 8 (dm 8 0) _ _) | ((with_reducible show RD _ _ 22 _ _ _ _ _ _ _); first | ((with_reducible show RD _ _ _ _ _ _ _ (dm 8 0) _ _); refine RD.tk 0 (dm 8 142) (dm 8 1) (hK := ?_)) | ((with_reducible show RD _ _ _ _ _ _ _ (dm 8 1) _ _); refine RD.tk 1 (dm 8 140) (dm 8 3) (hK := ?_)) | ((with_reducible show RD _ _ _ _ _ _ _ (dm 8 3) _ _); refine RD.tk 2 (dm 8 136) (dm 8 7) (hK := ?_)) | ((with_reducible show RD _ _ _ _ _ _ _ (dm 8 7) _ _); refine RD.tk 3 (dm 8 128) (dm 8 15) (hK := ?_)) | ((with_reducible show RD _ _ _ _ _ _ _ (dm 8 15) _ _); refine RD.tk 4 (dm 8 160) (dm 8 31) (hK := ?_)) | ((with_reducible show RD _ _ _ _ _ _ _ (dm 8 31) _ _); refine RD.tk 6 (dm 8 128) (dm 8 95) (hK := ?_)) | ((with_reducible show RD _ _ _ _ _ _ _ (dm 8 95) _ _); refine RD.a1 5 ?_) | ((with_reducible show RD _ _ _ _ _ _ _ (dm 8 127) _ _); refine RD.a1 7 ?_) | ((with_reducible show RD _ _ _ _ _ _ 0 _ _ _); refine RD.done (by kernel_rfl) ?_)) | ((with_reducible show RO _ _ 22 _ _ _ _ _ _ _ _); first | ((with_reducible show RO _ _ _ _ _ _ _ (dm 8 95) 5 _ _); (refine RO.cL (dm 8 127) Try.call147 ?_; apply Exists.intro; apply And.intro; (focus ((repeat (first | exact LVs.nil | (apply LVs.sl; (with_reducible repeat (exact Has.head)); exact inferInstance; exact rfl))); done)); refine ⟨_, keyOf_c X[m] (by omega), (by intro r H h; first | (obtain ⟨rfl, rfl⟩ := h; exact ⟨inferInstance, inferInstance⟩) | (obtain ⟨_, rfl, rfl⟩ := h; exact ⟨inferInstance, inferInstance⟩) | (obtain ⟨_, _, rfl, rfl⟩ := h; exact ⟨inferInstance, inferInstance⟩) | (obtain ⟨_, _, rfl, rfl, _⟩ := h; exact ⟨inferInstance, inferInstance⟩)), ?_⟩; rintro _ _ ⟨rfl, rfl⟩; refine RD.nm ?_)) | ((with_reducible show RO _ _ _ _ _ _ _ (dm 8 127) 7 _ _); (refine RO.h (dm 8 255) ?_; show RH _ _ _ ⟨_, _, _, _, _, _⟩ _ _ _ _))) | ((with_reducible show RH _ _ _ ⟨_, .load _ (.tmp 102), _, _, _, _⟩ _ _ _ _); with_reducible refine RH.focusRow (t := tInt) m (X[m]'(by omega)) .head he ?_; intro u) | ((with_reducible show RH _ _ _ _ _ _ _ _); first | refine RH.val (hK := ?_) | refine RH.upd (hK := ?_)) | (with_reducible first | refine Run.seq ?_ | refine Run.region ?_ | refine Run.block ?_ | refine Run.skip ?_ | refine Run.exit ?_ | refine Run.ret ?_) | (with_reducible show Run _ _ (.cond _ _ _) _ _ _; refine Run.condD rfl (fun h => ?_) (fun h => ?_)) | (with_reducible first | refine seqN (K := Run _ _ _ _) ?_ | refine seqE ?_ | refine blockN ?_ | refine blockE ?_))
            all_goals first
              | (exfalso; omega)
              | skip
            with_reducible refine seqN ?_
            refine ⟨(m + 1, kvSet kv (keyS X[m]) (m : Int)), ⟨by dsimp only; omega, hsucc⟩, by dsimp only; omega, (SEnt.unfocusRow (by omega)).ent.trans (Ent.of slA (.cons .head (congrArg (hsl (tS tInt) (vsv s30)) (List.set_getElem_self h9)) chA))⟩
          · subst h9
            repeat' (first | (with_reducible refine RL.done ?_) | (with_reducible refine RL.wanted ?_ ?_; exact rfl) | ((with_reducible show RH _ _ _ _ _ _ _ _); first | refine RH.val (hK := ?_) | refine RH.upd (hK := ?_) | (refine RH.lr (h := ?_); intro u)) | (with_reducible first | refine Run.seq ?_ | refine Run.region ?_ | refine Run.block ?_ | refine Run.skip ?_ | refine Run.exit ?_ | refine Run.ret ?_) | (with_reducible show Run _ _ (.cond _ _ _) _ _ _; refine Run.condD rfl (fun h => ?_) (fun h => ?_)) | (with_reducible first | refine seqN (K := Run _ _ _ _) ?_ | refine seqE ?_ | refine blockE ?_))
            all_goals first
              | (exfalso; omega)
              | (refine ⟨eA, _, [hcells b39 [vptr b 0, vint (k2 : Int), vsl 1 (fun t : List Int => [vsl 1 (fun x : Int => [vint x]) t]) (gensF n k2)], spanH b bm n os (fLen n k2) s30, hsl (tS tInt) (vsv s30) X, hmapI bm kv], resA, ?_, ?_⟩
                 · exact SEnt.ch chA
                 · exact ⟨b39, b, bm, s30, kv, rfl, rfl, hkv.ok hF.srt⟩)
      · have e : rankB n os k2 = false := by rw [rankB, Int.toNat_natCast, decide_eq_false hp, Bool.and_false]
        rw [e]
        refine Spec.of_run2 (n := 117) Try.func82 rfl Try.results82 Try.ntmps82 rfl ?_
        repeat' (first | (with_reducible first | refine RL.done ?_ | refine RL.app0 ?_) | (with_reducible refine RL.wanted ?_ ?_; exact rfl) | ((with_reducible show RH _ _ _ ⟨some 2, .box _ _, _, _, _, _⟩ _ _ _ _); (refine RH.boxAgg rfl rfl ?_; rintro _ _ ⟨b2, rfl, rfl⟩)) | ((with_reducible show RH _ _ _ ⟨some 39, .box _ _, _, _, _, _⟩ _ _ _ _); (refine RH.boxAgg rfl rfl ?_; rintro _ _ ⟨b39, rfl, rfl⟩)) | ((with_reducible show RH _ _ _ ⟨_, .call ⟨.value (.func 96), _, _⟩, _, _, _, _⟩ _ _ _ _); refine RH.cP Try.call96 ?_; refine ⟨_, isAlgebra_c n os (by omega) ho, ?_⟩; rintro _ _ ⟨rfl, rfl⟩) | ((with_reducible show RH _ _ _ ⟨_, .call ⟨.value (.func 144), _, _⟩, _, _, _, _⟩ _ _ _ _); refine RH.cP Try.call144 ?_; refine ⟨_, hpow, ?_⟩; rintro _ _ ⟨rfl, rfl⟩) | ((with_reducible show RH _ _ _ _ _ _ _ _); refine RH.val (hK := ?_)) | (with_reducible show RL _ _ _ (_ :: _) _ _ _; first | refine RL.guardYes rfl rfl rfl rfl ?_ | refine RL.guardNoS rfl rfl rfl rfl rfl rfl ?_ | refine RL.splitD rfl rfl rfl (fun h => ?_) (fun h => ?_) | refine RL.splitNB rfl rfl rfl (fun h => ?_) (fun h => ?_)) | (with_reducible first | refine Run.seq ?_ | refine Run.region ?_ | refine Run.block ?_ | refine Run.skip ?_ | refine Run.ret ?_) | (with_reducible show Run _ _ (.cond _ _ _) _ _ _; first | refine Run.condT rfl ?_ | refine Run.condD rfl (fun h => ?_) (fun h => ?_)) | (with_reducible first | refine seqN (K := Run _ _ _ _) ?_ | refine seqR ?_))
        all_goals first
          | (exfalso; omega)
          | (refine ⟨eA, _, [], resA, .ch .nil, ?_⟩
             exact ⟨rfl, rfl⟩)
          | (exfalso; simp_all; done)
    · have e : rankB n os k = false := by rw [rankB, decide_eq_false hk, Bool.and_false, Bool.false_and]
      rw [e]
      refine Spec.of_run2 (n := 117) Try.func82 rfl Try.results82 Try.ntmps82 rfl ?_
      repeat' (first | (with_reducible first | refine RL.done ?_ | refine RL.app0 ?_) | (with_reducible refine RL.wanted ?_ ?_; exact rfl) | ((with_reducible show RH _ _ _ ⟨some 2, .box _ _, _, _, _, _⟩ _ _ _ _); (refine RH.boxAgg rfl rfl ?_; rintro _ _ ⟨b2, rfl, rfl⟩)) | ((with_reducible show RH _ _ _ ⟨_, .call ⟨.value (.func 96), _, _⟩, _, _, _, _⟩ _ _ _ _); refine RH.cP Try.call96 ?_; refine ⟨_, isAlgebra_c n os (by omega) ho, ?_⟩; rintro _ _ ⟨rfl, rfl⟩) | ((with_reducible show RH _ _ _ _ _ _ _ _); refine RH.val (hK := ?_)) | (with_reducible show RL _ _ _ (_ :: _) _ _ _; first | refine RL.guardYes rfl rfl rfl rfl ?_ | refine RL.guardNoS rfl rfl rfl rfl rfl rfl ?_ | refine RL.splitD rfl rfl rfl (fun h => ?_) (fun h => ?_) | refine RL.splitNB rfl rfl rfl (fun h => ?_) (fun h => ?_)) | (with_reducible first | refine Run.seq ?_ | refine Run.region ?_ | refine Run.ret ?_) | (with_reducible show Run _ _ (.cond _ _ _) _ _ _; refine Run.condT rfl ?_) | (with_reducible first | refine seqN (K := Run _ _ _ _) ?_ | refine seqR ?_))
      all_goals first
        | (exfalso; omega)
        | (refine ⟨eA, _, [], resA, .ch .nil, ?_⟩
           exact ⟨rfl, rfl⟩)
        | (exfalso; simp_all; done)
  · have e : rankB n os k = false := by rw [rankB, show algB n os = false by simpa using ha, Bool.false_and, Bool.false_and]
    rw [e]
    refine Spec.of_run2 (n := 117) Try.func82 rfl Try.results82 Try.ntmps82 rfl ?_
    repeat' (first | (with_reducible first | refine RL.done ?_ | refine RL.app0 ?_) | (with_reducible refine RL.wanted ?_ ?_; exact rfl) | ((with_reducible show RH _ _ _ ⟨some 2, .box _ _, _, _, _, _⟩ _ _ _ _); (refine RH.boxAgg rfl rfl ?_; rintro _ _ ⟨b2, rfl, rfl⟩)) | ((with_reducible show RH _ _ _ ⟨_, .call ⟨.value (.func 96), _, _⟩, _, _, _, _⟩ _ _ _ _); refine RH.cP Try.call96 ?_; refine ⟨_, isAlgebra_c n os (by omega) ho, ?_⟩; rintro _ _ ⟨rfl, rfl⟩) | ((with_reducible show RH _ _ _ _ _ _ _ _); refine RH.val (hK := ?_)) | (with_reducible show RL _ _ _ (_ :: _) _ _ _; first | refine RL.guardYes rfl rfl rfl rfl ?_ | refine RL.guardNoS rfl rfl rfl rfl rfl rfl ?_ | refine RL.splitD rfl rfl rfl (fun h => ?_) (fun h => ?_) | refine RL.splitNB rfl rfl rfl (fun h => ?_) (fun h => ?_)) | (with_reducible first | refine Run.seq ?_ | refine Run.region ?_ | refine Run.ret ?_) | (with_reducible show Run _ _ (.cond _ _ _) _ _ _; refine Run.condT rfl ?_) | (with_reducible first | refine seqN (K := Run _ _ _ _) ?_ | refine seqR ?_))
    all_goals first
      | (refine ⟨eA, _, [], resA, .ch .nil, ?_⟩
         exact ⟨rfl, rfl⟩)
      | (exfalso; simp_all; done)
theorem freeOfF_c (n : Int) (os : List (Int × List Int)) (k : Int) (o : Option (List (List Int))) (hoo : FreeIs n os k o) (hol : os.length ≤ 4611686018427387904) (ho : OpsLen os) :
    Spec Try.prog 82 [vagg [vint n, vsl 2 (fun y : Int × (List Int) => [vint y.1, vsl 1 (fun x : Int => [vint x]) y.2]) os], vint k] [] (FreeFrz n os k.toNat (genO (rankB n os k) o)) := by
  refine Spec.frzCell (freeOf_c n os k o hoo hol ho) ?_
  intro q S' h
  cases hO : genO (rankB n os k) o with
  | none =>
    rw [hO] at h
    exact .inl h
  | some X =>
    rw [hO] at h
    obtain ⟨b, bs, bm, s, kv, rfl, rfl, hk⟩ := h
    exact .inr ⟨_, tS tInt, _, inferInstance, vsv s, X, bs, _, [vint n, vsl 2 (fun y : Int × (List Int) => [vint y.1, vsl 1 (fun x : Int => [vint x]) y.2]) os, vint ((fLen n k.toNat : Nat) : Int), vsl 1 (fun t : List Int => [vsl 1 (fun x : Int => [vint x]) t]) X, vmap bm], _, _, .tail (.tail .head), .tail .head, .keep (.keep (.keep (.hit (.keep .nil)))), b, bs, bm, kv, rfl, rfl, hk⟩
theorem freeI_no {n : Int} {os : List (Int × List Int)} {k : Int} {o : Option (List (List Int))} (hoo : FreeIs n os k o) (hol : os.length ≤ 4611686018427387904) (ho : OpsLen os) (hO : genO (rankB n os k) o = none) :
    Spec Try.prog 82 [vagg [vint n, vsl 2 (fun y : Int × (List Int) => [vint y.1, vsl 1 (fun x : Int => [vint x]) y.2]) os], vint k] [] (fun r S' => r = vtup [vlit (.pointer none), vbool false] ∧ S' = []) := by
  have h := freeOf_c n os k o hoo hol ho
  rw [hO] at h; exact h
theorem freeI_yes {n : Int} {os : List (Int × List Int)} {k : Int} {o : Option (List (List Int))} (hoo : FreeIs n os k o) (hol : os.length ≤ 4611686018427387904) (ho : OpsLen os) {X : List (List Int)} (hO : genO (rankB n os k) o = some X) :
    Spec Try.prog 82 [vagg [vint n, vsl 2 (fun y : Int × (List Int) => [vint y.1, vsl 1 (fun x : Int => [vint x]) y.2]) os], vint k] [] (fun r S' => ∃ (b bs bm : Nat) (s : Sv) (kv : KV), r = vtup [vptr b 0, vbool true] ∧ S' = [hcells b [vptr bs 0, vint ((k.toNat : Nat) : Int), vsl 1 (fun t : List Int => [vsl 1 (fun x : Int => [vint x]) t]) (gensF n k.toNat)], spanH bs bm n os (fLen n k.toNat) s, hsl (tS tInt) (vsv s) X, hmapI bm kv] ∧ KvOk X kv) := by
  have h := freeOf_c n os k o hoo hol ho
  rw [hO] at h; exact h
theorem freeI_frz {n : Int} {os : List (Int × List Int)} {k : Int} {o : Option (List (List Int))} (hoo : FreeIs n os k o) (hol : os.length ≤ 4611686018427387904) (ho : OpsLen os) {X : List (List Int)} (hO : genO (rankB n os k) o = some X) :
    Spec Try.prog 82 [vagg [vint n, vsl 2 (fun y : Int × (List Int) => [vint y.1, vsl 1 (fun x : Int => [vint x]) y.2]) os], vint k] [] (fun r S' => ∃ (b bs bm : Nat) (kv : KV), r = vtup [vptr b 0, vbool true] ∧ S' = [hcells bs [vint n, vsl 2 (fun y : Int × (List Int) => [vint y.1, vsl 1 (fun x : Int => [vint x]) y.2]) os, vint ((fLen n k.toNat : Nat) : Int), vsl 1 (fun t : List Int => [vsl 1 (fun x : Int => [vint x]) t]) X, vmap bm], hcells b [vptr bs 0, vint ((k.toNat : Nat) : Int), vsl 1 (fun t : List Int => [vsl 1 (fun x : Int => [vint x]) t]) (gensF n k.toNat)], hmapI bm kv] ∧ KvOk X kv) := by
  have h := freeOfF_c n os k o hoo hol ho
  rw [hO] at h; exact h
theorem freeS_no {n : Int} {os : List (Int × List Int)} {k : Int} {o : Option (List (List Int))} (hoo : FreeIs n os k o) (hol : os.length ≤ 4611686018427387904) (ho : OpsLen os) (hO : genO (rankB n os k) o = none) :
    Spec Try.prog 77 [vagg [vint n, vsl 2 (fun y : Int × (List Int) => [vint y.1, vsl 1 (fun x : Int => [vint x]) y.2]) os], vint k] [] (fun r S' => ∃ s : Sv, r = vtup [vlit (vsv s), vbool false] ∧ S' = [hsl (tS tInt) (vsv s) []]) := by
  have h := l11Free_c n os k o hoo hol ho
  rw [hO] at h; exact h
theorem freeS_yes {n : Int} {os : List (Int × List Int)} {k : Int} {o : Option (List (List Int))} (hoo : FreeIs n os k o) (hol : os.length ≤ 4611686018427387904) (ho : OpsLen os) {X : List (List Int)} (hO : genO (rankB n os k) o = some X) :
    Spec Try.prog 77 [vagg [vint n, vsl 2 (fun y : Int × (List Int) => [vint y.1, vsl 1 (fun x : Int => [vint x]) y.2]) os], vint k] [] (fun r S' => ∃ s : Sv, r = vtup [vlit (vsv s), vbool true] ∧ S' = [hsl (tS tInt) (vsv s) X]) := by
  have h := l11Free_c n os k o hoo hol ho
  rw [hO] at h; exact h
end Go.Proofs.Ytejeeokjjbiadaa
