/- The orbits of automorphisms: spec.AutomorphismOrbits, impl.AutomorphismOrbits: the same answer. Proved for this program; conditions: lengths below 2^62. -/
import Derived.Test.YtejeeokjjbiadaaHomAut
import Derived.Test.YtejeeokjjbiadaaHomId
import Derived.Test.YtejeeokjjbiadaaSubD
import Derived.Test.YtejeeokjjbiadaaHrow
namespace Go.Proofs.Ytejeeokjjbiadaa
open Go Go.Proofs
set_option linter.unusedVariables false
def orbL (L : List (List Int)) (x : Nat) : List Int := setI (colV L x)
def orbB (L : List (List Int)) (x : Nat) : Bool := decide ((orbL L x).getD 0 (-1) = (x : Int))
def orbTo (L : List (List Int)) (m : Nat) : List (List Int) := ((List.range m).filter (orbB L)).map (orbL L)
def orbV (n : Int) (o : Option (List (List Int))) : Option (List (List Int)) := o.map fun L => orbTo L n.toNat
theorem orbTo_le (L : List (List Int)) (m : Nat) : (orbTo L m).length ≤ m := by
  rw [orbTo, List.length_map]
  exact Nat.le_trans (List.length_filter_le _ _) (by simp)
theorem orbTo_yes {L : List (List Int)} {m : Nat} (h : orbB L m = true) : orbTo L (m + 1) = orbTo L m ++ [orbL L m] := by
  rw [orbTo, List.range_succ, List.filter_append, List.filter_cons_of_pos h, List.map_append]; rfl
theorem orbTo_no {L : List (List Int)} {m : Nat} (h : ¬ orbB L m = true) : orbTo L (m + 1) = orbTo L m := by
  rw [orbTo, List.range_succ, List.filter_append, List.filter_cons_of_neg h, List.filter_nil, List.append_nil]; rfl
theorem orbL_pos {L : List (List Int)} (h : L ≠ []) (x : Nat) : 0 < (orbL L x).length := by
  cases L with
  | nil => exact (h rfl).elim
  | cons t L => exact List.length_pos_of_mem (((setI_str (colV (t :: L) x)).2 (t.getD x 0)).2 (by simp [colV]))
theorem orbB_at {L : List (List Int)} {x : Nat} (h : 0 < (orbL L x).length) : orbB L x = decide ((orbL L x)[0] = (x : Int)) := by
  rw [orbB, List.getD_eq_getElem?_getD, List.getElem?_eq_getElem h]; rfl
theorem autV_ne {n : Int} {os : List (Int × List Int)} {L : List (List Int)} (h : autV n os = some L) : L ≠ [] := by
  rw [autV] at h
  split at h
  · rename_i h2
    obtain ⟨N, rfl, hh⟩ := algB_ok h2
    rw [homsV] at h
    split at h
    · rename_i h1
      cases h
      obtain ⟨a1, _, _, ao⟩ := algB_at h2
      exact homS_id (by omega) ao hh.prs true h1.1 h1.2
    · cases h
  · cases h
theorem autV_rows {n : Int} {os : List (Int × List Int)} {L : List (List Int)} (h : autV n os = some L) : ∀ t ∈ L, TupOk n n.toNat t := fun t ht => by
  obtain ⟨_, h1, h8, h2⟩ := autV_small h
  obtain ⟨h3, h4⟩ := h2 t ht
  refine ⟨by omega, ?_⟩
  rw [elB, List.all_eq_true]
  intro x hx
  simpa using h4 x hx
set_option maxRecDepth 10000 in
set_option maxHeartbeats 2000000 in
theorem specOrb_c (n : Int) (os : List (Int × List Int)) (hl : os.length ≤ 4611686018427387904) (ho : OpsLen os) :
    Spec Try.prog 44 [vagg [vint n, vsl 2 (fun y : Int × (List Int) => [vint y.1, vsl 1 (fun x : Int => [vint x]) y.2]) os]] [] (LstRes (orbV n (autV n os))) := by
  have hG := l2Good_c n os hl ho
  cases h2 : algB n os with
  | false =>
    have e : autV n os = none := by rw [autV, h2]; rfl
    rw [h2] at hG
    rw [e]
    refine Spec.of_run2 (n := 55) Try.func44 rfl Try.results44 Try.ntmps44 rfl ?_
    repeat' (first | (with_reducible first | refine RL.done ?_ | refine RL.app0 ?_) | (with_reducible refine RL.wanted ?_ ?_; exact rfl) | ((with_reducible show RH _ _ _ ⟨some 1, .box _ _, _, _, _, _⟩ _ _ _ _); (refine RH.boxAgg rfl rfl ?_; rintro _ _ ⟨b1, rfl, rfl⟩)) | ((with_reducible show RH _ _ _ ⟨some 10, .buildSlice _ _ _, _, _, _, _⟩ _ _ _ _); (refine RH.eff rfl rfl (EOpS.e (EOpS.slitV (by ((repeat (first | exact Elts.nil | apply Elts.one1 rfl | apply Elts.agg2 rfl)); done)) (by simp) rfl rfl)) ?_; rintro _ _ ⟨b10, rfl, rfl⟩)) | ((with_reducible show RH _ _ _ ⟨_, .call ⟨.value (.func 94), _, _⟩, _, _, _, _⟩ _ _ _ _); refine RH.cP Try.call94 ?_; refine ⟨_, hG, ?_⟩; rintro _ _ ⟨rfl, rfl⟩) | ((with_reducible show RH _ _ _ _ _ _ _ _); refine RH.val (hK := ?_)) | (with_reducible first | refine Run.seq ?_ | refine Run.region ?_ | refine Run.ret ?_) | (with_reducible show Run _ _ (.cond _ _ _) _ _ _; refine Run.condT rfl ?_) | (with_reducible first | refine seqN (K := Run _ _ _ _) ?_ | refine seqR ?_))
    all_goals first
      | (exfalso; simp_all; done)
      | (refine ⟨eA, _, [hsl (tS tInt) (vsv (some ⟨b10, 0, none⟩, 0, 0)) []], resA, ?_, ?_⟩
         · exact (SEnt.packNil (tS tInt) rfl).trans (SEnt.ch (.cons .head rfl .nil))
         · exact ⟨_, rfl, rfl⟩)
  | true =>
    rw [h2] at hG
    obtain ⟨N, rfl, hh⟩ := algB_ok h2
    have e : autV (N : Int) os = homsV (homS (N : Int) os N os true (goodO false N) 301) := by rw [autV, h2]; rfl
    have hA2 := l7Auts_c N os hh
    rw [← e] at hA2
    cases hA : autV (N : Int) os with
    | none =>
      have hA3 : Spec Try.prog 101 [vagg [vint (N : Int), vsl 2 (fun y : Int × (List Int) => [vint y.1, vsl 1 (fun x : Int => [vint x]) y.2]) os]] [] (fun r S' => ∃ s : Sv, r = vtup [vlit (vsv s), vbool false] ∧ S' = [hsl (tS tInt) (vsv s) []]) := by
        rw [hA] at hA2; exact hA2
      refine Spec.of_run2 (n := 55) Try.func44 rfl Try.results44 Try.ntmps44 rfl ?_
      repeat' (first | (with_reducible first | refine RL.done ?_ | refine RL.app0 ?_ | refine RL.app1 ?_) | (with_reducible refine RL.wanted ?_ ?_; exact rfl) | ((with_reducible show RH _ _ _ ⟨some 1, .box _ _, _, _, _, _⟩ _ _ _ _); (refine RH.boxAgg rfl rfl ?_; rintro _ _ ⟨b1, rfl, rfl⟩)) | ((with_reducible show RH _ _ _ ⟨some 10, .buildSlice _ _ _, _, _, _, _⟩ _ _ _ _); (refine RH.eff rfl rfl (EOpS.e (EOpS.slitV (by ((repeat (first | exact Elts.nil | apply Elts.one1 rfl | apply Elts.agg2 rfl)); done)) (by simp) rfl rfl)) ?_; rintro _ _ ⟨b10, rfl, rfl⟩)) | ((with_reducible show RH _ _ _ ⟨_, .call ⟨.value (.func 94), _, _⟩, _, _, _, _⟩ _ _ _ _); refine RH.cP Try.call94 ?_; refine ⟨_, hG, ?_⟩; rintro _ _ ⟨rfl, rfl⟩) | ((with_reducible show RH _ _ _ ⟨_, .call ⟨.value (.func 101), _, _⟩, _, _, _, _⟩ _ _ _ _); refine RH.cP Try.call101 ?_; refine ⟨_, hA3, ?_⟩; rintro _ _ ⟨s16, rfl, rfl⟩) | ((with_reducible show RH _ _ _ _ _ _ _ _); refine RH.val (hK := ?_)) | (with_reducible first | refine Run.seq ?_ | refine Run.region ?_ | refine Run.skip ?_ | refine Run.ret ?_) | (with_reducible show Run _ _ (.cond _ _ _) _ _ _; first | refine Run.condT rfl ?_ | refine Run.condF rfl ?_) | (with_reducible first | refine seqN (K := Run _ _ _ _) ?_ | refine seqR ?_))
      all_goals first
        | (exfalso; simp_all; done)
        | (refine ⟨eA, _, [hsl (tS tInt) (vsv (some ⟨b10, 0, none⟩, 0, 0)) []], resA, ?_, ?_⟩
           · exact (SEnt.pick (.cons (.tail .head) .nil)).trans ((SEnt.packNil (tS tInt) rfl).trans (SEnt.ch (.cons .head rfl .nil)))
           · exact ⟨_, rfl, rfl⟩)
    | some L =>
      have hA3 : Spec Try.prog 101 [vagg [vint (N : Int), vsl 2 (fun y : Int × (List Int) => [vint y.1, vsl 1 (fun x : Int => [vint x]) y.2]) os]] [] (fun r S' => ∃ s : Sv, r = vtup [vlit (vsv s), vbool true] ∧ S' = [hsl (tS tInt) (vsv s) L]) := by
        rw [hA] at hA2; exact hA2
      have hne := autV_ne hA
      have hrw := autV_rows hA
      rw [Int.toNat_natCast] at hrw
      obtain ⟨hL, hn1, hn8, _⟩ := autV_small hA
      refine Spec.of_run2 (n := 55) Try.func44 rfl Try.results44 Try.ntmps44 rfl ?_
      repeat' (first | (with_reducible first | refine RL.done ?_ | refine RL.app0 ?_ | refine RL.app1 ?_) | (with_reducible refine RL.wanted ?_ ?_; exact rfl) | ((with_reducible show RH _ _ _ ⟨some 1, .box _ _, _, _, _, _⟩ _ _ _ _); (refine RH.boxAgg rfl rfl ?_; rintro _ _ ⟨b1, rfl, rfl⟩)) | ((with_reducible show RH _ _ _ ⟨some 10, .buildSlice _ _ _, _, _, _, _⟩ _ _ _ _); (refine RH.eff rfl rfl (EOpS.e (EOpS.slitV (by ((repeat (first | exact Elts.nil | apply Elts.one1 rfl | apply Elts.agg2 rfl)); done)) (by simp) rfl rfl)) ?_; rintro _ _ ⟨b10, rfl, rfl⟩)) | ((with_reducible show RH _ _ _ ⟨_, .call ⟨.value (.func 94), _, _⟩, _, _, _, _⟩ _ _ _ _); refine RH.cP Try.call94 ?_; refine ⟨_, hG, ?_⟩; rintro _ _ ⟨rfl, rfl⟩) | ((with_reducible show RH _ _ _ ⟨_, .call ⟨.value (.func 101), _, _⟩, _, _, _, _⟩ _ _ _ _); refine RH.cP Try.call101 ?_; refine ⟨_, hA3, ?_⟩; rintro _ _ ⟨s16, rfl, rfl⟩) | ((with_reducible show RH _ _ _ _ _ _ _ _); refine RH.val (hK := ?_)) | (with_reducible first | refine Run.seq ?_ | refine Run.region ?_ | refine Run.block ?_ | refine Run.skip ?_) | (with_reducible show Run _ _ (.cond _ _ _) _ _ _; refine Run.condF rfl ?_) | (with_reducible refine seqN (K := Run _ _ _ _) ?_))
      all_goals first
        | (exfalso; simp_all; done)
        | skip
      refine Run.frzSl (t := tS tInt) 5 rfl (by ((with_reducible repeat (first | exact Rem.head | apply Rem.tail)); done)) ?_
      refine Run.sent (T := [hsl (tS tInt) (vsv (some ⟨b10, 0, none⟩, 0, 0)) [], hcells b1 [vint (N : Int), vsl 2 (fun y : Int × (List Int) => [vint y.1, vsl 1 (fun x : Int => [vint x]) y.2]) os]]) (SEnt.packNil (tS tInt) rfl) ?_
      refine Run.loop (α := Nat × Sv) (fun z => [(1, vptr b1 0), (4, vlit (vsv z.2)), (5, vsl 1 (fun t : List Int => [vsl 1 (fun x : Int => [vint x]) t]) L), (7, vint (z.1 : Int))])
        (fun z => [hsl (tS tInt) (vsv z.2) (orbTo L z.1), hcells b1 [vint (N : Int), vsl 2 (fun y : Int × (List Int) => [vint y.1, vsl 1 (fun x : Int => [vint x]) y.2]) os]]) (fun z => z.1 ≤ N) (fun z => N - z.1) (0, (some ⟨b10, 0, none⟩, 0, 0)) (Nat.zero_le _) (Ent.of slA .refl) ?_
      rintro ⟨x, s⟩ hx
      dsimp only at hx ⊢
      have hol := orbTo_le L x
      rcases Nat.lt_or_eq_of_le hx with h9 | h9
      · have hcl : (colV L x).length = L.length := by simp [colV]
        repeat' (first | (with_reducible refine RL.done ?_) | (with_reducible refine RL.wanted ?_ ?_; exact rfl) | ((with_reducible show RH _ _ _ ⟨some 29, .buildSlice _ _ _, _, _, _, _⟩ _ _ _ _); refine RH.eff rfl rfl (EOpS.e (EOpS.slit (fun x : Int => [vint x]) _ (fun _ _ => rfl) (by repeat (first | exact Elts.nil | (apply Elts.cons; exact rfl; exact CellsOf.one))) rfl rfl)) ?_; rintro _ _ ⟨b29, rfl, rfl⟩) | ((with_reducible show RH _ _ _ _ _ _ _ _); refine RH.val (hK := ?_)) | (with_reducible first | refine Run.seq ?_ | refine Run.region ?_ | refine Run.block ?_ | refine Run.skip ?_ | refine Run.exit ?_ | refine Run.ret ?_) | (with_reducible show Run _ _ (.cond _ _ _) _ _ _; refine Run.condD rfl (fun h => ?_) (fun h => ?_)) | (with_reducible first | refine seqN (K := Run _ _ _ _) ?_ | refine seqE ?_ | refine blockE ?_))
        all_goals first
          | (exfalso; omega)
          | skip
        refine Run.sent (T := [hsl tInt (vsv (some ⟨b29, 0, none⟩, 0, 0)) [], hsl (tS tInt) (vsv s) (orbTo L x), hcells b1 [vint (N : Int), vsl 2 (fun y : Int × (List Int) => [vint y.1, vsl 1 (fun x : Int => [vint x]) y.2]) os]]) (SEnt.packNil tInt rfl) ?_
        refine Run.loop (α := Nat × Sv) (fun z => [(1, vptr b1 0), (4, vlit (vsv s)), (5, vsl 1 (fun t : List Int => [vsl 1 (fun x : Int => [vint x]) t]) L), (7, vint (x : Int)), (8, vlit (vsv z.2)), (9, vint (z.1 : Int))])
          (fun z => [hsl tInt (vsv z.2) (setI ((colV L x).take z.1)), hsl (tS tInt) (vsv s) (orbTo L x), hcells b1 [vint (N : Int), vsl 2 (fun y : Int × (List Int) => [vint y.1, vsl 1 (fun x : Int => [vint x]) y.2]) os]]) (fun z => z.1 ≤ L.length) (fun z => L.length - z.1) (0, (some ⟨b29, 0, none⟩, 0, 0)) (Nat.zero_le _) (Ent.of slA .refl) ?_
        rintro ⟨m, st⟩ hm
        dsimp only at hm ⊢
        have hle := setI_le ((colV L x).take m) []
        have hle2 : ((colV L x).take m).length ≤ L.length := by rw [List.length_take]; omega
        have hle3 : (setI ((colV L x).take m)).length ≤ L.length := by rw [setI]; simp only [List.length_nil] at hle; omega
        rcases Nat.lt_or_eq_of_le hm with h8 | h8
        · have hxl := (hrw _ (List.getElem_mem h8)).1
          have hd : setI ((colV L x).take (m + 1)) = putI (setI ((colV L x).take m)) ((L[m])[x]'(by omega)) := by
            rw [setI_snoc (by omega)]
            simp only [colV, List.getElem_map]
            rw [getD_g _ _ _ (by omega)]
          repeat' (first | (with_reducible refine RL.done ?_) | (with_reducible refine RL.wanted ?_ ?_; exact rfl) | ((with_reducible show RH _ _ _ ⟨some 52, .buildSlice _ _ _, _, _, _, _⟩ _ _ _ _); (refine RH.eff rfl rfl (EOpS.e (EOpS.slitV (by ((repeat (first | exact Elts.nil | apply Elts.one1 rfl | apply Elts.agg2 rfl)); done)) (by simp) rfl rfl)) ?_; rintro _ _ ⟨b52, rfl, rfl⟩)) | ((with_reducible show RH _ _ _ ⟨_, .call ⟨.value (.func 102), _, _⟩, _, _, _, _⟩ _ _ _ _); refine RH.cW Try.call102 ?_; refine ⟨_, _, _, (by repeat (first | exact Pick.nil | (apply Pick.cons; (with_reducible repeat (first | exact Rem.head | apply Rem.tail))))), l1Put_c (setI ((colV L x).take m)) _ st (setI_str _).1 (by omega), ?_⟩; rintro _ _ ⟨s44, rfl, rfl⟩; refine RL.nm ?_) | ((with_reducible show RH _ _ _ _ _ _ _ _); refine RH.val (hK := ?_)) | (with_reducible first | refine Run.seq ?_ | refine Run.region ?_ | refine Run.block ?_ | refine Run.skip ?_ | refine Run.exit ?_) | (with_reducible show Run _ _ (.cond _ _ _) _ _ _; refine Run.condD rfl (fun h => ?_) (fun h => ?_)) | (with_reducible first | refine seqN (K := Run _ _ _ _) ?_ | refine seqE ?_ | refine blockN ?_ | refine blockE ?_))
          all_goals first
            | (exfalso; omega)
            | (with_reducible refine seqN ?_
               exact ⟨(m + 1, _), by dsimp only; omega, by dsimp only; omega, Ent.of (by dsimp only; exact slA) (by dsimp only; rw [hd]; exact chA)⟩)
        · have e : (colV L x).take m = colV L x := List.take_of_length_le (by omega)
          have hpos := orbL_pos hne x
          rw [e] at hle3 ⊢
          rw [show setI (colV L x) = orbL L x from rfl] at hle3 ⊢
          repeat' (first | (with_reducible refine RL.done ?_) | (with_reducible refine RL.wanted ?_ ?_; exact rfl) | ((with_reducible show RH _ _ _ ⟨some 52, .buildSlice _ _ _, _, _, _, _⟩ _ _ _ _); (refine RH.eff rfl rfl (EOpS.e (EOpS.slitV (by ((repeat (first | exact Elts.nil | apply Elts.one1 rfl | apply Elts.agg2 rfl)); done)) (by simp) rfl rfl)) ?_; rintro _ _ ⟨b52, rfl, rfl⟩)) | ((with_reducible show RH _ _ _ ⟨_, .call ⟨.builtin .append, _, _⟩, _, _, _, _⟩ _ _ _ _); (refine RH.appR rfl rfl rfl (by repeat (first | exact Pick.nil | (apply Pick.cons; (with_reducible repeat (first | exact Rem.head | apply Rem.tail))))) (by first | omega | (simp; omega)) (by first | omega | (simp; omega)) ?_); rintro _ _ ⟨s, rfl, rfl⟩) | ((with_reducible show RH _ _ _ _ _ _ _ _); refine RH.val (hK := ?_)) | (with_reducible first | refine Run.seq ?_ | refine Run.region ?_ | refine Run.block ?_ | refine Run.skip ?_ | refine Run.exit ?_) | (with_reducible show Run _ _ (.cond _ _ _) _ _ _; refine Run.condD rfl (fun h => ?_) (fun h => ?_)) | (with_reducible first | refine seqN (K := Run _ _ _ _) ?_ | refine seqE ?_ | refine blockN ?_ | refine blockE ?_))
          all_goals first
            | (exfalso; omega)
            | (have hd := orbTo_yes (L := L) (m := x) (by rw [orbB_at hpos]; exact decide_eq_true (by assumption))
               with_reducible refine seqN ?_
               exact ⟨(x + 1, _), by dsimp only; omega, by dsimp only; omega, Ent.of (by dsimp only; exact slA) (by dsimp only; rw [hd]; exact chA)⟩)
            | (have hd := orbTo_no (L := L) (m := x) (by rw [orbB_at hpos, decide_eq_true_eq]; assumption)
               with_reducible refine seqN ?_
               exact ⟨(x + 1, s), by dsimp only; omega, by dsimp only; omega, Ent.of (by dsimp only; exact slA) (by dsimp only; rw [hd]; exact chA)⟩)
      · subst h9
        repeat' (first | (with_reducible refine RL.done ?_) | (with_reducible refine RL.wanted ?_ ?_; exact rfl) | ((with_reducible show RH _ _ _ ⟨some 29, .buildSlice _ _ _, _, _, _, _⟩ _ _ _ _); refine RH.eff rfl rfl (EOpS.e (EOpS.slit (fun x : Int => [vint x]) _ (fun _ _ => rfl) (by repeat (first | exact Elts.nil | (apply Elts.cons; exact rfl; exact CellsOf.one))) rfl rfl)) ?_; rintro _ _ ⟨b29, rfl, rfl⟩) | ((with_reducible show RH _ _ _ _ _ _ _ _); refine RH.val (hK := ?_)) | (with_reducible first | refine Run.seq ?_ | refine Run.region ?_ | refine Run.block ?_ | refine Run.skip ?_ | refine Run.exit ?_ | refine Run.ret ?_) | (with_reducible show Run _ _ (.cond _ _ _) _ _ _; refine Run.condD rfl (fun h => ?_) (fun h => ?_)) | (with_reducible first | refine seqN (K := Run _ _ _ _) ?_ | refine seqE ?_ | refine blockE ?_))
        all_goals first
          | (exfalso; omega)
          | (refine ⟨eA, _, [hsl (tS tInt) (vsv s) (orbTo L x)], resA, ?_, ?_⟩
             · exact SEnt.ch chA
             · exact ⟨s, rfl, rfl⟩)
set_option maxRecDepth 10000 in
set_option maxHeartbeats 2000000 in
theorem implOrb_c (n : Int) (os : List (Int × List Int)) (hl : os.length ≤ 4611686018427387904) (ho : OpsLen os) :
    Spec Try.prog 45 [vagg [vint n, vsl 2 (fun y : Int × (List Int) => [vint y.1, vsl 1 (fun x : Int => [vint x]) y.2]) os]] [] (LstRes (orbV n (autV n os))) := by
  have hA2 := implAuts_c n os hl ho
  cases hA : autV n os with
  | none =>
    have hA3 : Spec Try.prog 103 [vagg [vint n, vsl 2 (fun y : Int × (List Int) => [vint y.1, vsl 1 (fun x : Int => [vint x]) y.2]) os]] [] (fun r S' => ∃ s : Sv, r = vtup [vlit (vsv s), vbool false] ∧ S' = [hsl (tS tInt) (vsv s) []]) := by
      rw [hA] at hA2; exact hA2
    refine Spec.of_run2 (n := 55) Try.func45 rfl Try.results45 Try.ntmps45 rfl ?_
    repeat' (first | (with_reducible first | refine RL.done ?_ | refine RL.app1 ?_) | (with_reducible refine RL.wanted ?_ ?_; exact rfl) | ((with_reducible show RH _ _ _ ⟨some 1, .box _ _, _, _, _, _⟩ _ _ _ _); (refine RH.boxAgg rfl rfl ?_; rintro _ _ ⟨b1, rfl, rfl⟩)) | ((with_reducible show RH _ _ _ ⟨some 19, .buildSlice _ _ _, _, _, _, _⟩ _ _ _ _); (refine RH.eff rfl rfl (EOpS.e (EOpS.slitV (by ((repeat (first | exact Elts.nil | apply Elts.one1 rfl | apply Elts.agg2 rfl)); done)) (by simp) rfl rfl)) ?_; rintro _ _ ⟨b19, rfl, rfl⟩)) | ((with_reducible show RH _ _ _ ⟨_, .call ⟨.value (.func 103), _, _⟩, _, _, _, _⟩ _ _ _ _); refine RH.cP Try.call103 ?_; refine ⟨_, hA3, ?_⟩; rintro _ _ ⟨s14, rfl, rfl⟩) | ((with_reducible show RH _ _ _ _ _ _ _ _); refine RH.val (hK := ?_)) | (with_reducible first | refine Run.seq ?_ | refine Run.region ?_ | refine Run.ret ?_) | (with_reducible show Run _ _ (.cond _ _ _) _ _ _; refine Run.condT rfl ?_) | (with_reducible first | refine seqN (K := Run _ _ _ _) ?_ | refine seqR ?_))
    all_goals first
      | (exfalso; simp_all; done)
      | (refine ⟨eA, _, [hsl (tS tInt) (vsv (some ⟨b19, 0, none⟩, 0, 0)) []], resA, ?_, ?_⟩
         · exact (SEnt.packNil (tS tInt) rfl).trans (SEnt.ch (.cons .head rfl .nil))
         · exact ⟨_, rfl, rfl⟩)
  | some L =>
    have hA3 : Spec Try.prog 103 [vagg [vint n, vsl 2 (fun y : Int × (List Int) => [vint y.1, vsl 1 (fun x : Int => [vint x]) y.2]) os]] [] (fun r S' => ∃ s : Sv, r = vtup [vlit (vsv s), vbool true] ∧ S' = [hsl (tS tInt) (vsv s) L]) := by
      rw [hA] at hA2; exact hA2
    have hne := autV_ne hA
    have hrw := autV_rows hA
    obtain ⟨hL, hn1, hn8, _⟩ := autV_small hA
    obtain ⟨N, rfl⟩ : ∃ N : Nat, n = N := ⟨n.toNat, by omega⟩
    rw [Int.toNat_natCast] at hrw
    refine Spec.of_run2 (n := 55) Try.func45 rfl Try.results45 Try.ntmps45 rfl ?_
    repeat' (first | (with_reducible first | refine RL.done ?_ | refine RL.app1 ?_) | (with_reducible refine RL.wanted ?_ ?_; exact rfl) | ((with_reducible show RH _ _ _ ⟨some 1, .box _ _, _, _, _, _⟩ _ _ _ _); (refine RH.boxAgg rfl rfl ?_; rintro _ _ ⟨b1, rfl, rfl⟩)) | ((with_reducible show RH _ _ _ ⟨some 20, .buildSlice _ _ _, _, _, _, _⟩ _ _ _ _); (refine RH.eff rfl rfl (EOpS.e (EOpS.slitV (by ((repeat (first | exact Elts.nil | apply Elts.one1 rfl | apply Elts.agg2 rfl)); done)) (by simp) rfl rfl)) ?_; rintro _ _ ⟨b20, rfl, rfl⟩)) | ((with_reducible show RH _ _ _ ⟨_, .call ⟨.value (.func 103), _, _⟩, _, _, _, _⟩ _ _ _ _); refine RH.cP Try.call103 ?_; refine ⟨_, hA3, ?_⟩; rintro _ _ ⟨s14, rfl, rfl⟩) | ((with_reducible show RH _ _ _ _ _ _ _ _); refine RH.val (hK := ?_)) | (with_reducible first | refine Run.seq ?_ | refine Run.region ?_ | refine Run.block ?_ | refine Run.skip ?_) | (with_reducible show Run _ _ (.cond _ _ _) _ _ _; refine Run.condF rfl ?_) | (with_reducible refine seqN (K := Run _ _ _ _) ?_))
    all_goals first
      | (exfalso; simp_all; done)
      | skip
    refine Run.frzSl (t := tS tInt) 4 rfl (by ((with_reducible repeat (first | exact Rem.head | apply Rem.tail)); done)) ?_
    refine Run.sent (T := [hsl (tS tInt) (vsv (some ⟨b20, 0, none⟩, 0, 0)) [], hcells b1 [vint (N : Int), vsl 2 (fun y : Int × (List Int) => [vint y.1, vsl 1 (fun x : Int => [vint x]) y.2]) os]]) (SEnt.packNil (tS tInt) rfl) ?_
    refine Run.loop (α := Nat × Sv) (fun z => [(1, vptr b1 0), (6, vlit (vsv z.2)), (4, vsl 1 (fun t : List Int => [vsl 1 (fun x : Int => [vint x]) t]) L), (7, vint (z.1 : Int))])
      (fun z => [hsl (tS tInt) (vsv z.2) (orbTo L z.1), hcells b1 [vint (N : Int), vsl 2 (fun y : Int × (List Int) => [vint y.1, vsl 1 (fun x : Int => [vint x]) y.2]) os]]) (fun z => z.1 ≤ N) (fun z => N - z.1) (0, (some ⟨b20, 0, none⟩, 0, 0)) (Nat.zero_le _) (Ent.of slA .refl) ?_
    rintro ⟨x, s⟩ hx
    dsimp only at hx ⊢
    have hol := orbTo_le L x
    rcases Nat.lt_or_eq_of_le hx with h9 | h9
    · have hcl : (colV L x).length = L.length := by simp [colV]
      have hin := colV_in hrw h9
      repeat' (first | (with_reducible refine RL.done ?_) | (with_reducible refine RL.wanted ?_ ?_; exact rfl) | ((with_reducible show RH _ _ _ ⟨some 29, .makeSlice _ _ _, _, _, _, _⟩ _ _ _ _); refine RH.make (α := Bool) rfl (fun x => [vbool x]) false (fun c => .cons rfl .nil) rfl rfl (by omega) (by omega) (by omega) ?_; rintro _ _ ⟨b29, rfl, rfl⟩) | ((with_reducible show RH _ _ _ _ _ _ _ _); refine RH.val (hK := ?_)) | (with_reducible first | refine Run.seq ?_ | refine Run.region ?_ | refine Run.block ?_ | refine Run.skip ?_ | refine Run.exit ?_ | refine Run.ret ?_) | (with_reducible show Run _ _ (.cond _ _ _) _ _ _; refine Run.condD rfl (fun h => ?_) (fun h => ?_)) | (with_reducible first | refine seqN (K := Run _ _ _ _) ?_ | refine seqE ?_ | refine blockE ?_))
      all_goals first
        | (exfalso; omega)
        | skip
      refine Run.loop (α := Nat) (fun m => [(1, vptr b1 0), (6, vlit (vsv s)), (4, vsl 1 (fun t : List Int => [vsl 1 (fun x : Int => [vint x]) t]) L), (7, vint (x : Int)), (8, vsb b29 N N), (30, vsl 1 (fun t : List Int => [vsl 1 (fun x : Int => [vint x]) t]) L), (31, vint (L.length : Int)), (32, vint (m : Int))]) (fun m => [harr b29 1 (fun x : Bool => [vbool x]) (mkB N ((colV L x).take m)) (N * 1), hsl (tS tInt) (vsv s) (orbTo L x), hcells b1 [vint (N : Int), vsl 2 (fun y : Int × (List Int) => [vint y.1, vsl 1 (fun x : Int => [vint x]) y.2]) os]]) (fun m => m ≤ L.length) (fun m => L.length - m) 0 (Nat.zero_le _) (Ent.of slA (.cons .head (by rw [List.take_zero, ← mkB_nil2]) chA)) ?_
      intro m hm
      have hml := mkB_length N ((colV L x).take m)
      rcases Nat.lt_or_eq_of_le hm with h8 | h8
      · have hxl := (hrw _ (List.getElem_mem h8)).1
        have hxb := elB_at (hrw _ (List.getElem_mem h8)).2 (j := x) (by omega)
        have e1 : (colV L x)[m]'(by omega) = (L[m])[x]'(by omega) := by
          simp only [colV, List.getElem_map]
          rw [getD_g _ _ _ (by omega)]
        have hms := mkB_set N (colV L x) m (by omega) (by rw [e1]; omega)
        rw [e1] at hms
        repeat' (first | (with_reducible refine RL.done ?_) | (with_reducible refine RL.wanted ?_ ?_; exact rfl) | ((with_reducible show RH _ _ _ _ _ _ _ _); first | refine RH.val (hK := ?_) | refine RH.upd (hK := ?_)) | (with_reducible first | refine Run.seq ?_ | refine Run.region ?_ | refine Run.block ?_ | refine Run.skip ?_ | refine Run.exit ?_) | (with_reducible show Run _ _ (.cond _ _ _) _ _ _; refine Run.condD rfl (fun h => ?_) (fun h => ?_)) | (with_reducible first | refine seqN (K := Run _ _ _ _) ?_ | refine seqE ?_ | refine blockN ?_ | refine blockE ?_))
        all_goals first
          | (exfalso; omega)
          | (with_reducible refine seqN ?_
             exact ⟨m + 1, by omega, by omega, Ent.of slA (.cons (by with_reducible repeat (first | exact Rem.head | apply Rem.tail)) (congrArg (fun ys => harr b29 1 (fun x : Bool => [vbool x]) ys (N * 1)) hms) chA)⟩)
      · have e : (colV L x).take m = colV L x := List.take_of_length_le (by omega)
        have hmk := marked_c (mkB N (colV L x)) (by rw [mkB_length]; omega)
        have hpos := orbL_pos hne x
        have hfew := setI_few hin (by omega)
        rw [trueAt_set hin, show setI (colV L x) = orbL L x from rfl] at hmk
        rw [show setI (colV L x) = orbL L x from rfl] at hfew
        rw [e] at hml ⊢
        repeat' (first | (with_reducible refine RL.done ?_) | (with_reducible refine RL.wanted ?_ ?_; exact rfl) | ((with_reducible show RH _ _ _ ⟨some 52, .buildSlice _ _ _, _, _, _, _⟩ _ _ _ _); (refine RH.eff rfl rfl (EOpS.e (EOpS.slitV (by ((repeat (first | exact Elts.nil | apply Elts.one1 rfl | apply Elts.agg2 rfl)); done)) (by simp) rfl rfl)) ?_; rintro _ _ ⟨b52, rfl, rfl⟩)) | ((with_reducible show RH _ _ _ ⟨_, .call ⟨.value (.func 104), _, _⟩, _, _, _, _⟩ _ _ _ _); refine RH.cL Try.call104 ?_; apply Exists.intro; apply And.intro; (focus ((repeat (first | exact LVs.nil | (apply LVs.arr; (with_reducible repeat (exact Has.head)); (omega); exact rfl))); done)); refine ⟨_, hmk, (by intro r H h; first | (obtain ⟨rfl, rfl⟩ := h; exact ⟨inferInstance, inferInstance⟩) | (obtain ⟨_, rfl, rfl⟩ := h; exact ⟨inferInstance, inferInstance⟩) | (obtain ⟨_, _, rfl, rfl⟩ := h; exact ⟨inferInstance, inferInstance⟩) | (obtain ⟨_, _, rfl, rfl, _⟩ := h; exact ⟨inferInstance, inferInstance⟩)), ?_⟩; rintro _ _ ⟨s44, rfl, rfl⟩; refine RL.nm ?_) | ((with_reducible show RH _ _ _ ⟨_, .call ⟨.builtin .append, _, _⟩, _, _, _, _⟩ _ _ _ _); (refine RH.appR rfl rfl rfl (by repeat (first | exact Pick.nil | (apply Pick.cons; (with_reducible repeat (first | exact Rem.head | apply Rem.tail))))) (by first | omega | (simp; omega)) (by first | omega | (simp; omega)) ?_); rintro _ _ ⟨s, rfl, rfl⟩) | ((with_reducible show RH _ _ _ _ _ _ _ _); first | refine RH.val (hK := ?_) | refine RH.upd (hK := ?_)) | (with_reducible first | refine Run.seq ?_ | refine Run.region ?_ | refine Run.block ?_ | refine Run.skip ?_ | refine Run.exit ?_) | (with_reducible show Run _ _ (.cond _ _ _) _ _ _; refine Run.condD rfl (fun h => ?_) (fun h => ?_)) | (with_reducible first | refine seqN (K := Run _ _ _ _) ?_ | refine seqE ?_ | refine blockN ?_ | refine blockE ?_))
        all_goals first
          | (exfalso; omega)
          | (have hd := orbTo_yes (L := L) (m := x) (by rw [orbB_at hpos]; exact decide_eq_true (by assumption))
             with_reducible refine seqN ?_
             exact ⟨(x + 1, _), by dsimp only; omega, by dsimp only; omega, Ent.of (by dsimp only; exact slA) (by dsimp only; rw [hd]; exact chA)⟩)
          | (have hd := orbTo_no (L := L) (m := x) (by rw [orbB_at hpos, decide_eq_true_eq]; assumption)
             with_reducible refine seqN ?_
             exact ⟨(x + 1, s), by dsimp only; omega, by dsimp only; omega, Ent.of (by dsimp only; exact slA) (by dsimp only; rw [hd]; exact chA)⟩)
    · subst h9
      repeat' (first | (with_reducible refine RL.done ?_) | (with_reducible refine RL.wanted ?_ ?_; exact rfl) | ((with_reducible show RH _ _ _ ⟨some 29, .makeSlice _ _ _, _, _, _, _⟩ _ _ _ _); refine RH.make (α := Bool) rfl (fun x => [vbool x]) false (fun c => .cons rfl .nil) rfl rfl (by omega) (by omega) (by omega) ?_; rintro _ _ ⟨b29, rfl, rfl⟩) | ((with_reducible show RH _ _ _ _ _ _ _ _); refine RH.val (hK := ?_)) | (with_reducible first | refine Run.seq ?_ | refine Run.region ?_ | refine Run.block ?_ | refine Run.skip ?_ | refine Run.exit ?_ | refine Run.ret ?_) | (with_reducible show Run _ _ (.cond _ _ _) _ _ _; refine Run.condD rfl (fun h => ?_) (fun h => ?_)) | (with_reducible first | refine seqN (K := Run _ _ _ _) ?_ | refine seqE ?_ | refine blockE ?_))
      all_goals first
        | (exfalso; omega)
        | (refine ⟨eA, _, [hsl (tS tInt) (vsv s) (orbTo L x)], resA, ?_, ?_⟩
           · exact SEnt.ch chA
           · exact ⟨s, rfl, rfl⟩)
end Go.Proofs.Ytejeeokjjbiadaa
